/-
  Parts of the proof, put together by program.
-/
import Derived.Test.YtbnjpfjjmhodnaaGreatPFnOrders6
set_option linter.unusedVariables false
set_option linter.unusedSimpArgs false
set_option linter.unusedSectionVars false
namespace Go.Proofs.YtbnjpfjjmhodnaaGreat
open Go Go.Sh Go.Proofs
open Rep (rep)
def F171 (a0:Value) (w:World) (R:VW):Prop:=
 NIL a0 <|
 rF 180 a0 0 w fun x13=>
 rF 28 x13 2 w fun x14=>
 rL 24 x14 w fun x15=>
 rN 24 3 x15 w fun x16=>
 (fun w0=>GPAR w0 [[(0,17)],[(1,18)],[(2,19)],[(3,20)],[(4,21),(3,20),(3,20)],[(5,22)],[(6,23),(5,22),(5,22)],[(7,24)],[(8,25),(7,24),(7,24)],[(9,26),(0,17),(0,17),(3,20),(4,21)],[(10,27),(9,26),(0,17),(3,20),(4,21)],[(10,27),(4,21),(0,17),(3,20),(4,21)],[(12,28),(1,18),(0,17),(1,18),(3,20),(4,21),(5,22),(6,23),(9,26),(10,27)],[(13,29),(12,28),(0,17),(1,18),(3,20),(4,21),(5,22),(6,23),(9,26),(10,27)],[(13,29),(6,23),(0,17),(1,18),(3,20),(4,21),(5,22),(6,23),(9,26),(10,27)],[(15,30),(2,19),(0,17),(1,18),(2,19),(3,20),(4,21),(5,22),(6,23),(7,24),(8,25),(9,26),(10,27),(12,28),(13,29)],[(16,31),(15,30),(0,17),(1,18),(2,19),(3,20),(4,21),(5,22),(6,23),(7,24),(8,25),(9,26),(10,27),(12,28),(13,29)],[(16,31),(8,25),(0,17),(1,18),(2,19),(3,20),(4,21),(5,22),(6,23),(7,24),(8,25),(9,26),(10,27),(12,28),(13,29)]] (fun B R Q=>
 (∀ (u1:Env) (T:Nat→Nat×Nat) (w:World),B w→w0.heap.size≤w.heap.size→zbh [] w0.heap.size w.heap.size T→(True)→(fun w1=>R 0 w1 w∧Q 0 (upd u1 17 a0) (zcR T 0 (w1.heap.size,w.heap.size)) w) w) ∧
 (∀ (u1:Env) (T:Nat→Nat×Nat) (w:World),B w→w0.heap.size≤w.heap.size→zbh [] w0.heap.size w.heap.size T→(True)→(fun w1=>R 1 w1 w∧Q 1 (upd u1 18 a0) (zcR T 1 (w1.heap.size,w.heap.size)) w) w) ∧
 (∀ (u1:Env) (T:Nat→Nat×Nat) (w:World),B w→w0.heap.size≤w.heap.size→zbh [] w0.heap.size w.heap.size T→(True)→(fun w1=>R 2 w1 w∧Q 2 (upd u1 19 a0) (zcR T 2 (w1.heap.size,w.heap.size)) w) w) ∧
 (∀ (u1:Env) (T:Nat→Nat×Nat) (w:World),B w→w0.heap.size≤w.heap.size→zbh [] w0.heap.size w.heap.size T→(True)→(fun w1=>R 3 w1 w∧Q 3 (upd u1 20 x16) (zcR T 3 (w1.heap.size,w.heap.size)) w) w) ∧
 (∀ (u1:Env) (T:Nat→Nat×Nat) (w:World),B w→w0.heap.size≤w.heap.size→zbh [3,3] w0.heap.size w.heap.size T→(Q 3 u1 T w∧Q 3 u1 T w∧True)→(fun w1=>oP (Instr.makeSlice 25 (u1 20) (u1 20)) w fun x21 w=>
 R 4 w1 w∧Q 4 (upd u1 21 x21) (zcR T 4 (w1.heap.size,w.heap.size)) w) w) ∧
 (∀ (u1:Env) (T:Nat→Nat×Nat) (w:World),B w→w0.heap.size≤w.heap.size→zbh [] w0.heap.size w.heap.size T→(True)→(fun w1=>R 5 w1 w∧Q 5 (upd u1 22 x16) (zcR T 5 (w1.heap.size,w.heap.size)) w) w) ∧
 (∀ (u1:Env) (T:Nat→Nat×Nat) (w:World),B w→w0.heap.size≤w.heap.size→zbh [5,5] w0.heap.size w.heap.size T→(Q 5 u1 T w∧Q 5 u1 T w∧True)→(fun w1=>oP (Instr.makeSlice 25 (u1 22) (u1 22)) w fun x23 w=>
 R 6 w1 w∧Q 6 (upd u1 23 x23) (zcR T 6 (w1.heap.size,w.heap.size)) w) w) ∧
 (∀ (u1:Env) (T:Nat→Nat×Nat) (w:World),B w→w0.heap.size≤w.heap.size→zbh [] w0.heap.size w.heap.size T→(True)→(fun w1=>R 7 w1 w∧Q 7 (upd u1 24 x16) (zcR T 7 (w1.heap.size,w.heap.size)) w) w) ∧
 (∀ (u1:Env) (T:Nat→Nat×Nat) (w:World),B w→w0.heap.size≤w.heap.size→zbh [7,7] w0.heap.size w.heap.size T→(Q 7 u1 T w∧Q 7 u1 T w∧True)→(fun w1=>oP (Instr.makeSlice 25 (u1 24) (u1 24)) w fun x25 w=>
 R 8 w1 w∧Q 8 (upd u1 25 x25) (zcR T 8 (w1.heap.size,w.heap.size)) w) w) ∧
 (∀ (u1:Env) (T:Nat→Nat×Nat) (w:World),B w→w0.heap.size≤w.heap.size→zbh [0,0,3,4] w0.heap.size w.heap.size T→(Q 0 u1 T w∧Q 0 u1 T w∧Q 3 u1 T w∧Q 4 u1 T w∧True)→(fun w1=>NIL (u1 17) <|
 R 9 w1 w∧Q 9 (upd u1 26 (u1 17)) (zcR T 9 (w1.heap.size,w.heap.size)) w) w) ∧
 (∀ (u1:Env) (T:Nat→Nat×Nat) (w:World),B w→w0.heap.size≤w.heap.size→zbh [9,0,3,4] w0.heap.size w.heap.size T→(Q 9 u1 T w∧Q 0 u1 T w∧Q 3 u1 T w∧Q 4 u1 T w∧True)→(fun w1=>rF 180 (u1 26) 2 w fun x27=>
 R 10 w1 w∧Q 10 (upd u1 27 x27) (zcR T 10 (w1.heap.size,w.heap.size)) w) w) ∧
 (∀ (u1:Env) (T:Nat→Nat×Nat) (w:World),B w→w0.heap.size≤w.heap.size→zbh [10,4,0,3,4] w0.heap.size w.heap.size T→(Q 10 u1 T w∧Q 4 u1 T w∧Q 0 u1 T w∧Q 3 u1 T w∧Q 4 u1 T w∧True)→(fun w1=>oS 25 (u1 27) (u1 21) w fun w=>
 R 11 w1 w∧Q 11 u1 (zcR T 11 (w1.heap.size,w.heap.size)) w) w) ∧
 (∀ (u1:Env) (T:Nat→Nat×Nat) (w:World),B w→w0.heap.size≤w.heap.size→zbh [1,0,1,3,4,5,6,9,10,11] w0.heap.size w.heap.size T→(Q 1 u1 T w∧Q 0 u1 T w∧Q 1 u1 T w∧Q 3 u1 T w∧Q 4 u1 T w∧Q 5 u1 T w∧Q 6 u1 T w∧Q 9 u1 T w∧Q 10 u1 T w∧Q 11 u1 T w∧True)→(fun w1=>NIL (u1 18) <|
 R 12 w1 w∧Q 12 (upd u1 28 (u1 18)) (zcR T 12 (w1.heap.size,w.heap.size)) w) w) ∧
 (∀ (u1:Env) (T:Nat→Nat×Nat) (w:World),B w→w0.heap.size≤w.heap.size→zbh [12,0,1,3,4,5,6,9,10,11] w0.heap.size w.heap.size T→(Q 12 u1 T w∧Q 0 u1 T w∧Q 1 u1 T w∧Q 3 u1 T w∧Q 4 u1 T w∧Q 5 u1 T w∧Q 6 u1 T w∧Q 9 u1 T w∧Q 10 u1 T w∧Q 11 u1 T w∧True)→(fun w1=>rF 180 (u1 28) 3 w fun x29=>
 R 13 w1 w∧Q 13 (upd u1 29 x29) (zcR T 13 (w1.heap.size,w.heap.size)) w) w) ∧
 (∀ (u1:Env) (T:Nat→Nat×Nat) (w:World),B w→w0.heap.size≤w.heap.size→zbh [13,6,11,0,1,3,4,5,6,9,10,11] w0.heap.size w.heap.size T→(Q 13 u1 T w∧Q 6 u1 T w∧Q 11 u1 T w∧Q 0 u1 T w∧Q 1 u1 T w∧Q 3 u1 T w∧Q 4 u1 T w∧Q 5 u1 T w∧Q 6 u1 T w∧Q 9 u1 T w∧Q 10 u1 T w∧Q 11 u1 T w∧True)→(fun w1=>oS 25 (u1 29) (u1 23) w fun w=>
 R 14 w1 w∧Q 14 u1 (zcR T 14 (w1.heap.size,w.heap.size)) w) w) ∧
 (∀ (u1:Env) (T:Nat→Nat×Nat) (w:World),B w→w0.heap.size≤w.heap.size→zbh [2,0,1,2,3,4,5,6,7,8,9,10,11,12,13,14] w0.heap.size w.heap.size T→(Q 2 u1 T w∧Q 0 u1 T w∧Q 1 u1 T w∧Q 2 u1 T w∧Q 3 u1 T w∧Q 4 u1 T w∧Q 5 u1 T w∧Q 6 u1 T w∧Q 7 u1 T w∧Q 8 u1 T w∧Q 9 u1 T w∧Q 10 u1 T w∧Q 11 u1 T w∧Q 12 u1 T w∧Q 13 u1 T w∧Q 14 u1 T w∧True)→(fun w1=>NIL (u1 19) <|
 R 15 w1 w∧Q 15 (upd u1 30 (u1 19)) (zcR T 15 (w1.heap.size,w.heap.size)) w) w) ∧
 (∀ (u1:Env) (T:Nat→Nat×Nat) (w:World),B w→w0.heap.size≤w.heap.size→zbh [15,0,1,2,3,4,5,6,7,8,9,10,11,12,13,14] w0.heap.size w.heap.size T→(Q 15 u1 T w∧Q 0 u1 T w∧Q 1 u1 T w∧Q 2 u1 T w∧Q 3 u1 T w∧Q 4 u1 T w∧Q 5 u1 T w∧Q 6 u1 T w∧Q 7 u1 T w∧Q 8 u1 T w∧Q 9 u1 T w∧Q 10 u1 T w∧Q 11 u1 T w∧Q 12 u1 T w∧Q 13 u1 T w∧Q 14 u1 T w∧True)→(fun w1=>rF 180 (u1 30) 4 w fun x31=>
 R 16 w1 w∧Q 16 (upd u1 31 x31) (zcR T 16 (w1.heap.size,w.heap.size)) w) w) ∧
 (∀ (u1:Env) (T:Nat→Nat×Nat) (w:World),B w→w0.heap.size≤w.heap.size→zbh [16,8,14,0,1,2,3,4,5,6,7,8,9,10,11,12,13,14] w0.heap.size w.heap.size T→(Q 16 u1 T w∧Q 8 u1 T w∧Q 14 u1 T w∧Q 0 u1 T w∧Q 1 u1 T w∧Q 2 u1 T w∧Q 3 u1 T w∧Q 4 u1 T w∧Q 5 u1 T w∧Q 6 u1 T w∧Q 7 u1 T w∧Q 8 u1 T w∧Q 9 u1 T w∧Q 10 u1 T w∧Q 11 u1 T w∧Q 12 u1 T w∧Q 13 u1 T w∧Q 14 u1 T w∧True)→(fun w1=>oS 25 (u1 31) (u1 25) w fun w=>
 R 17 w1 w∧Q 17 u1 (zcR T 17 (w1.heap.size,w.heap.size)) w) w) ∧
 True)
 (fun B Q=>∀ (u1:Env) (T:Nat→Nat×Nat) (w:World),B w→w0.heap.size≤w.heap.size→zbh [0,1,2,3,4,5,6,7,8,9,10,11,12,13,14,15,16,17] w0.heap.size w.heap.size T→(Q 0 u1 T w∧Q 1 u1 T w∧Q 2 u1 T w∧Q 3 u1 T w∧Q 4 u1 T w∧Q 5 u1 T w∧Q 6 u1 T w∧Q 7 u1 T w∧Q 8 u1 T w∧Q 9 u1 T w∧Q 10 u1 T w∧Q 11 u1 T w∧Q 12 u1 T w∧Q 13 u1 T w∧Q 14 u1 T w∧Q 15 u1 T w∧Q 16 u1 T w∧Q 17 u1 T w∧True) →
 LOOPI [33] [(iV 0)] w fun u3 w next3=>
 rC (u3 33) x16 w fun x34=>
 BR x34
 (cL 234 [a0,(u3 33)] w fun x38 w=>
 rN 25 3 x38 w fun x39=>
 LOOPI [40] [(iV 0)] w fun u6 w next6=>
 rC (u6 40) x39 w fun x41=>
 BR x41
 (rX 25 x38 (u6 40) w fun x42=>
 rL 3 x42 w fun x43=>
 NIL a0 <|
 rF 180 a0 0 w fun x46=>
 rF 28 x46 4 w fun x47=>
 rL 26 x47 w fun x48=>
 rX 26 x48 x43 w fun x50=>
 rL 77 x50 w fun x51=>
 oP (Instr.alloc 77 true (.tuple #[])) w fun x6 w=>
 oS 77 x6 x51 w fun w=>
 JOIN [] (fun J11=>
 rF 77 x6 0 w fun x52=>
 rL 3 x52 w fun x53=>
 rB .eql 3 T0 U0 x53 (iV 4) w fun x54=>
 BR x54
 ((fun w=>NIL a0 <|
 rF 180 a0 2 w fun x57=>
 rL 25 x57 w fun x58=>
 rX 25 x58 (u3 33) w fun x60=>
 rL 3 x60 w fun x61=>
 rF 77 x6 1 w fun x62=>
 rL 3 x62 w fun x63=>
 rD (convert 3 97 x63) w fun x64=>
 rB .shl 3 U0 T0 (iV 1) x64 w fun x65=>
 rB .or 3 T0 T0 x61 x65 w fun x66=>
 rX 25 x58 (u3 33) w fun x67=>
 oS 3 x67 x66 w fun w=>
 J11 [] w) (World.drew1 w))
 (J11 [] w)) (fun u11 w=>
 rF 77 x6 0 w fun x68=>
 rL 3 x68 w fun x69=>
 rB .eql 3 T0 U0 x69 (iV 5) w fun x70=>
 BR x70
 ((fun w=>NIL a0 <|
 rF 180 a0 3 w fun x73=>
 rL 25 x73 w fun x74=>
 rX 25 x74 (u3 33) w fun x76=>
 rL 3 x76 w fun x77=>
 rF 77 x6 1 w fun x78=>
 rL 3 x78 w fun x79=>
 rD (convert 3 97 x79) w fun x80=>
 rB .shl 3 U0 T0 (iV 1) x80 w fun x81=>
 rB .or 3 T0 T0 x77 x81 w fun x82=>
 rX 25 x74 (u3 33) w fun x83=>
 oS 3 x83 x82 w fun w=>
 rA (u6 40) (iV 1) w fun x84=>
 next6 [x84] w) (World.drew1 w))
 (rA (u6 40) (iV 1) w fun x84=>
 next6 [x84] w)))
 (rA (u3 33) (iV 1) w fun x85=>
 next3 [x85] w))
 (LOOPI [87] [(iV 0)] w fun u16 w next16=>
 rC (u16 87) x16 w fun x88=>
 BR x88
 (rD (convert 3 97 (u16 87)) w fun x91=>
 rB .shl 3 U0 T0 (iV 1) x91 w fun x92=>
 LOOPI [8,9] [x92,(Value.bool true)] w fun u20 w next20=>
 BR (u20 9)
 (NIL a0 <|
 rF 180 a0 2 w fun x97=>
 rL 25 x97 w fun x98=>
 cL 235 [x98,(u20 8)] w fun x100 w=>
 rB .or 3 T0 T0 (u20 8) x100 w fun x101=>
 rB .neq 3 T0 T0 x101 (u20 8) w fun x104=>
 next20 [x101,x104] w)
 (NIL a0 <|
 rF 180 a0 4 w fun x108=>
 rL 25 x108 w fun x109=>
 rX 25 x109 (u16 87) w fun x112=>
 oS 3 x112 (u20 8) w fun w=>
 rA (u16 87) (iV 1) w fun x113=>
 next16 [x113] w))
 (R (Value.tuple #[]) w)))) (World.drew1 w)
def cfg171:Cfg:={ ext:=extL,joins:=[(11,295143401579725455360,[])],loops:=[(3,77371252455336258591260776,[33]),(6,38685626227667034078969952,[40]),(16,20769187279396805603449450954491776,[87]),(20,81119734894292398653589812152064,[8,9])],draws:=[(10,[0,1,2,3,4,5,6,7,8,9,10,11,12,13],0),(12,[0,1,2,3,4,5,6,7,8,9,10,11,12,13],0)],pars:=[],gpars:=[(1,4294836224)] }
theorem F171_call {a0:Value} {w:World} {R:VW} (h:F171 a0 w R):cL 171 [a0] w R:=co (g:=cfg171) Tryz.func171 (by kernel_rfl) (by kernel_rfl) (by kernel_rfl) h
open Rep (rep)
abbrev sl (g n:Nat):Value:=.slice (some ⟨g,0,none⟩) n n
structure FC (W0 w:World) (b e:Nat) (c:DCode) (kc:List Value) (m g6 g7 g8:Nat) (c6 c7 c8:List Nat) (x9 x10:Value):Prop where
 wb:WB W0 w b e c kc m (sl g6 c.procs.length) (sl g7 c.procs.length) (sl g8 c.procs.length) x9 x10
 m6:Mine [g6] w (sl g6 c.procs.length) (zaI c6)
 m7:Mine [g7] w (sl g7 c.procs.length) (zaI c7)
 m8:Mine [g8] w (sl g8 c.procs.length) (zaI c8)
 n6:W0.heap.size≤g6∧g6≠b∧g6≠m
 n7:W0.heap.size≤g7∧g7≠b∧g7≠m
 n8:W0.heap.size≤g8∧g8≠b∧g8≠m
 d67:g6≠g7
 d68:g6≠g8
 d78:g7≠g8
section
variable {W0 w w':World} {b e m g6 g7 g8:Nat} {c:DCode} {kc:List Value} {c6 c7 c8:List Nat} {x9 x10:Value}
theorem zdG {F:List Nat} {g:Nat} {v:Value} {l:List Int} (hm:Mine [g] w v l) (hc:Chg F w w') (hg:g∉F):Mine [g] w' v l:=hm.keep fun x hx=>by
 simp only [List.mem_cons,List.not_mem_nil,or_false] at hx;subst hx
 exact hc.block x (hm.lt x (by simp)) hg
theorem FC.step (h:FC W0 w b e c kc m g6 g7 g8 c6 c7 c8 x9 x10) (hx:Ext w w'):FC W0 w' b e c kc m g6 g7 g8 c6 c7 c8 x9 x10:=⟨h.wb.step hx,h.m6.ext hx,h.m7.ext hx,h.m8.ext hx,h.n6,h.n7,h.n8,h.d67,h.d68,h.d78⟩
theorem FC.set6 {i v:Nat} (h:FC W0 w b e c kc m g6 g7 g8 c6 c7 c8 x9 x10) (hc:Chg [g6] w w') (hm:Mine [g6] w' (sl g6 c.procs.length) ((zaI c6).set i (v:Int))):FC W0 w' b e c kc m g6 g7 g8 (c6.set i v) c7 c8 x9 x10:=
 ⟨h.wb.chg hc (by simp [h.n6]),by rw [zgz];exact hm,zdG h.m7 hc (by simp [Ne.symm h.d67]),zdG h.m8 hc (by simp [Ne.symm h.d68]),h.n6,h.n7,h.n8,h.d67,h.d68,h.d78⟩
theorem FC.set7 {i v:Nat} (h:FC W0 w b e c kc m g6 g7 g8 c6 c7 c8 x9 x10) (hc:Chg [g7] w w') (hm:Mine [g7] w' (sl g7 c.procs.length) ((zaI c7).set i (v:Int))):FC W0 w' b e c kc m g6 g7 g8 c6 (c7.set i v) c8 x9 x10:=
 ⟨h.wb.chg hc (by simp [h.n7]),zdG h.m6 hc (by simp [h.d67]),by rw [zgz];exact hm,zdG h.m8 hc (by simp [Ne.symm h.d78]),h.n6,h.n7,h.n8,h.d67,h.d68,h.d78⟩
theorem FC.set8 {i v:Nat} (h:FC W0 w b e c kc m g6 g7 g8 c6 c7 c8 x9 x10) (hc:Chg [g8] w w') (hm:Mine [g8] w' (sl g8 c.procs.length) ((zaI c8).set i (v:Int))):FC W0 w' b e c kc m g6 g7 g8 c6 c7 (c8.set i v) x9 x10:=
 ⟨h.wb.chg hc (by simp [h.n8]),zdG h.m6 hc (by simp [h.d68]),zdG h.m7 hc (by simp [h.d78]),by rw [zgz];exact hm,h.n6,h.n7,h.n8,h.d67,h.d68,h.d78⟩
end
theorem WB.ins {W0 w:World} {b e m:Nat} {c:DCode} {kc:List Value} {x6 x7 x8 x9 x10:Value} (h:WB W0 w b e c kc m x6 x7 x8 x9 x10):∃ v,(kc++[Value.slice (some ⟨m,0,none⟩) c.ins.length c.ins.length,x6,x7,x8,x9,x10])[0+0+4]?=some v∧Is W0 v c.ins:=by
 obtain ⟨F,hr⟩:=h.code
 obtain ⟨F0,c0,F1,c1,F2,c2,F3,c3,F4,c4,rfl,rfl,⟨_,_,_,_,rfl,_⟩,⟨_,_,_,_,rfl,_⟩,⟨_,_,_,_,rfl,_⟩,⟨_,_,_,_,rfl,_⟩,hr4⟩:=zk9 hr
 have hr4':=hr4
 obtain ⟨_,_,_,_,rfl,_⟩:=hr4
 exact ⟨_,rfl,_,_,hr4',rfl⟩
def fcD (c:DCode) (op:Int) (p:Nat) (M:List Nat) (j:Nat):Nat→Nat→Prop:=fun q r=>(q<p∧zmw c q op r)∨(q=p∧∃ i∈M.take j,(zam c i).op=op∧agN c i=r)
theorem ztq {c:DCode} {op:Int} {p:Nat} {M:List Nat} {j i:Nat} (htj:∀ x,x∈M.take (j+1)↔x∈M.take j∨x=i) (hn:¬(zam c i).op=op) (q r:Nat):fcD c op p M j q r↔fcD c op p M (j+1) q r:=by
 unfold fcD
 refine or_congr Iff.rfl (and_congr Iff.rfl ?_)
 constructor
 · rintro ⟨x,hx,h⟩;exact ⟨x,(htj x).2 (.inl hx),h⟩
 rintro ⟨x,hx,h⟩
 rcases (htj x).1 hx with hx | rfl
 · exact ⟨x,hx,h⟩
 exact absurd h.1 hn
theorem zrl {c:DCode} {op:Int} {p:Nat} {M:List Nat} {j i:Nat} (htj:∀ x,x∈M.take (j+1)↔x∈M.take j∨x=i) (hy:(zam c i).op=op) (q r:Nat):fcD c op p M (j+1) q r↔fcD c op p M j q r∨(q=p∧r=agN c i):=by
 unfold fcD
 constructor
 · rintro (h | ⟨h1,x,hx,h⟩)
   · exact .inl (.inl h)
   rcases (htj x).1 hx with hx | rfl
   · exact .inl (.inr ⟨h1,x,hx,h⟩)
   exact .inr ⟨h1,h.2.symm⟩
 rintro ((h | ⟨h1,x,hx,h⟩) | ⟨h1,h2⟩)
 · exact .inl h
 · exact .inr ⟨h1,x,(htj x).2 (.inl hx),h⟩
 exact .inr ⟨h1,i,(htj i).2 (.inr rfl),hy,h2.symm⟩
theorem zrm {c:DCode} (hc:CodeR c) {op:Int} (hop:op=4∨op=5) {p:Nat} {M:List Nat} (hp:p<c.procs.length) (hM:∀ i,i∈M↔zca c p i) (q r:Nat):fcD c op p M M.length q r↔fcD c op (p+1) [] 0 q r:=by
 have key:(∃ i∈M.take M.length,(zam c i).op=op∧agN c i=r)↔zmw c p op r:=by
   rw [List.take_length]
   constructor
   · rintro ⟨i,hi,h1,h2⟩
     have hl:=(hM i).1 hi
     have hin:=(ziG hc (by rw [hc.2.1.1];exact hp) hl).1
     exact ⟨i,hin,hl,h1,by rw [(zff hc hin (by omega)).1,h2]⟩
   rintro ⟨i,hin,hl,h1,h2⟩
   have:=(zff hc hin (by omega)).1
   exact ⟨i,(hM i).2 hl,h1,by omega⟩
 unfold fcD
 constructor
 · rintro (h | ⟨rfl,h⟩)
   · exact .inl ⟨by omega,h.2⟩
   exact .inl ⟨by omega,key.1 h⟩
 rintro (⟨h1,h2⟩ | ⟨_,x,hx,_⟩)
 · by_cases e:q=p
   · subst e;exact .inr ⟨rfl,key.2 h2⟩
   exact .inl ⟨by omega,h2⟩
 simp at hx
theorem zrn {c:DCode} {op:Int} {p:Nat} {M:List Nat} (q r:Nat):fcD c op p [] 0 q r↔fcD c op p M 0 q r:=by
 unfold fcD;simp
theorem CS.done {c:DCode} {op:Int} {out:List Nat} (h:CS c out (fcD c op c.procs.length [] 0)):out=cls c op:=
 CS.eq_cls (op:=op) (h.mono fun q r hq hr=>by unfold fcD;simp [hq])
structure UM (c:DCode) (p m:Nat):Prop where
 lt:m<2^c.procs.length
 self:m.testBit p=true
 snd:∀ r,m.testBit r=true→FromP c p r
theorem UM.start {c:DCode} {p:Nat} (hp:p<c.procs.length):UM c p (2^p):=⟨Nat.pow_lt_pow_right (by omega) hp,by simp [Nat.testBit_two_pow],fun r hr=>by simp [Nat.testBit_two_pow] at hr;exact .inl hr.symm⟩
theorem zkI {c:DCode} {op:Int} {q r:Nat} (hq:q<c.procs.length):(zaK (cls c op) q).testBit r=true↔r<c.procs.length∧zmw c q op r:=by rw [ztf hq,zaH]
theorem UM.more {c:DCode} (h8:c.procs.length≤8) {p m:Nat} (h:UM c p m):UM c p (m ||| orL (cls c 4) (zbo m)):=by
 have hb:∀ r,(orL (cls c 4) (zbo m)).testBit r=true→∃ i,i<c.procs.length∧m.testBit i=true∧r<c.procs.length∧zmw c i 4 r:=fun r hr=>by
   obtain ⟨i,h1,h2,h3⟩:=(zhP h.lt (by omega)).1 hr
   exact ⟨i,h1,h2,(zkI h1).1 h3⟩
 refine ⟨Nat.or_lt_two_pow h.lt (zno fun r hr=>by obtain ⟨i,_,_,h3,_⟩:=hb r hr;exact h3),by rw [Nat.testBit_or,h.self];rfl,fun r hr=>?_⟩
 rw [Nat.testBit_or,Bool.or_eq_true] at hr
 rcases hr with hr | hr
 · exact h.snd r hr
 obtain ⟨i,h1,h2,h3,h4⟩:=hb r hr
 exact (h.snd i h2).call h3 h4
theorem UM.fin {c:DCode} (h8:c.procs.length≤8) {p m:Nat} (h:UM c p m) (he:m ||| orL (cls c 4) (zbo m)=m):m=zb4 (FromP c p) c.procs.length:=by
 have hlt:∀ r,m.testBit r=true→r<c.procs.length:=fun r hr=>Decidable.byContradiction fun hn=>by
   have:=Nat.testBit_lt_two_pow (Nat.lt_of_lt_of_le h.lt (Nat.pow_le_pow_right (by omega) (by omega:c.procs.length≤r)))
   rw [this] at hr;cases hr
 refine zdS fun r=>⟨fun hr=>⟨hlt r hr,h.snd r hr⟩,fun ⟨_,hf⟩=>?_⟩
 have step:∀ i j,m.testBit i=true→j∈zlO c i→m.testBit j=true:=fun i j hi hj=>by
   obtain ⟨hj1,hj2⟩:=zaw.1 hj
   rw [←he,Nat.testBit_or,(zhP h.lt (by omega)).2 ⟨i,hlt i hi,hi,(zkI (hlt i hi)).2 ⟨hj1,hj2⟩⟩]
   simp
 rcases hf with rfl | hf
 · exact h.self
 exact hf.keeps (p:=fun i=>m.testBit i=true) h.self step
theorem zoo {c:DCode} (h8:c.procs.length≤8) (op:Int):∀ x∈cls c op,x<256:=fun x hx=>by
 obtain ⟨q,_,rfl⟩:=List.mem_map.1 hx
 exact zdI h8
theorem zu3 {c:DCode} (h8:c.procs.length≤8):∀ x∈frs c,x<256:=fun x hx=>by
 obtain ⟨q,_,rfl⟩:=List.mem_map.1 hx
 exact zdI h8
theorem zl6 {w W0:World} {b e m:Nat} {c:DCode} {kc:List Value} {x6 x7 x8 x9 x10:Value} (H:WB W0 w b e c kc m x6 x7 x8 x9 x10) (hc:CodeR c) :
   CALL Tryz.prog 171 [.pointer (some ⟨b,0,none⟩)] w fun r w'=>r=.tuple #[]∧∃ g6 g7 g8,FC W0 w' b e c kc m g6 g7 g8 (cls c 4) (cls c 5) (frs c) x9 x10:=by
 refine F171_call ?_
 unfold F171
 have h8:=hc.1.procs8
 have hil:=hc.f.ins
 refine NIL.mk rfl ?_
 refine zaa zcd ?_
 refine zaa zcJ ?_
 refine zab zc5 (zaP H.code_at) (Ext.refl _) fun v15 h15=>?_
 refine zae u24 h15 ?_
 have hxd:=zak w
 have H1:=H.step hxd
 have h6:(kc++[sl m c.ins.length]).length=6:=by rw [List.length_append,H.k5];rfl
 have hB0:fcB (World.drew1 w) b e (kc++[sl m c.ins.length]) x9 x10 (World.drew1 w):=⟨ChgI.refl _,x6,x7,x8,by rw [List.append_assoc];exact H1.blk⟩
 have hbl:=H1.blk.lt
 have hsd:(World.drew1 w).heap.size=w.heap.size:=rfl
 refine GPAR.mk (fcB (World.drew1 w) b e (kc++[sl m c.ins.length]) x9 x10) (fcR b e) (fcQ b e c.procs.length) hB0 (fun j w1 w2 h1 h2=>h1.step h6 h2) (fun j w1 w2 h=>h.sz) ?_ ?_ ?_
 · intro i j u u' T T' wa wb hij hBa hR hd hq
   match i,hij,hd,hq with
   | 0,_,hd,hq=>exact (hd (0,17) (by decide)).1.trans hq
   | 1,_,hd,hq=>exact (hd (1,18) (by decide)).1.trans hq
   | 2,_,hd,hq=>exact (hd (2,19) (by decide)).1.trans hq
   | 3,_,hd,hq=>exact (hd (3,20) (by decide)).1.trans hq
   | 4,_,hd,⟨g,q1,q2,q3,q4,q5⟩=>
     obtain ⟨e1,e2⟩:=hd (4,21) (by decide)
     simp only at e1 e2
     exact ⟨g,e1.trans q1,by rw [e2];exact q2,by rw [e2];exact q3,q4,hR.mine q4 q5⟩
   | 5,_,hd,hq=>exact (hd (5,22) (by decide)).1.trans hq
   | 6,_,hd,⟨g,q1,q2,q3,q4,q5⟩=>
     obtain ⟨e1,e2⟩:=hd (6,23) (by decide)
     simp only at e1 e2
     exact ⟨g,e1.trans q1,by rw [e2];exact q2,by rw [e2];exact q3,q4,hR.mine q4 q5⟩
   | 7,_,hd,hq=>exact (hd (7,24) (by decide)).1.trans hq
   | 8,_,hd,⟨g,q1,q2,q3,q4,q5⟩=>
     obtain ⟨e1,e2⟩:=hd (8,25) (by decide)
     simp only at e1 e2
     exact ⟨g,e1.trans q1,by rw [e2];exact q2,by rw [e2];exact q3,q4,hR.mine q4 q5⟩
   | 9,_,hd,hq=>exact (hd (9,26) (by decide)).1.trans hq
   | 10,_,hd,hq=>exact (hd (10,27) (by decide)).1.trans hq
   | 11,hij,hd,hq=>
     have e1:=(hd (4,21) (by decide)).1
     simp only at e1
     show ∃ cs,Blk b e wb cs∧cs[6]?=some (u' 21)
     rw [e1]
     exact hR.cell (fun hs=>by rcases hs with rfl | rfl | rfl<;>first | exact absurd rfl hij | decide) hq
   | 12,_,hd,hq=>exact (hd (12,28) (by decide)).1.trans hq
   | 13,_,hd,hq=>exact (hd (13,29) (by decide)).1.trans hq
   | 14,hij,hd,hq=>
     have e1:=(hd (6,23) (by decide)).1
     simp only at e1
     show ∃ cs,Blk b e wb cs∧cs[7]?=some (u' 23)
     rw [e1]
     exact hR.cell (fun hs=>by rcases hs with rfl | rfl | rfl<;>first | exact absurd rfl hij | decide) hq
   | 15,_,hd,hq=>exact (hd (15,30) (by decide)).1.trans hq
   | 16,_,hd,hq=>exact (hd (16,31) (by decide)).1.trans hq
   | 17,hij,hd,hq=>
     have e1:=(hd (8,25) (by decide)).1
     simp only at e1
     show ∃ cs,Blk b e wb cs∧cs[8]?=some (u' 25)
     rw [e1]
     exact hR.cell (fun hs=>by rcases hs with rfl | rfl | rfl<;>first | exact absurd rfl hij | decide) hq
   | n+18,_,_,_=>trivial
 · have nf:∀ j,j≠11→j≠14→j≠17→¬zuD j:=fun j a b d h=>by rcases h with h | h | h<;>contradiction
   refine ⟨?_,?_,?_,?_,?_,?_,?_,?_,?_,?_,?_,?_,?_,?_,?_,?_,?_,?_,trivial⟩
   · exact fun u T w' hB hs _ _=>⟨.ext (nf _ (by decide) (by decide) (by decide)) (Ext.refl _),rfl⟩
   · exact fun u T w' hB hs _ _=>⟨.ext (nf _ (by decide) (by decide) (by decide)) (Ext.refl _),rfl⟩
   · exact fun u T w' hB hs _ _=>⟨.ext (nf _ (by decide) (by decide) (by decide)) (Ext.refl _),rfl⟩
   · exact fun u T w' hB hs _ _=>⟨.ext (nf _ (by decide) (by decide) (by decide)) (Ext.refl _),rfl⟩
   · intro u T w' hB hs _ hp
     have q2:u 20=_:=hp.1
     rw [q2]
     exact zgC h8.2 (by omega) fun w4 hx4 r=>⟨.ext (nf _ (by decide) (by decide) (by decide)) hx4,_,rfl,Nat.le_refl _,r.lt _ (List.mem_singleton.2 rfl),by obtain ⟨_,_,_,_,hb⟩:=hB;have:=hb.lt;omega,r⟩
   · exact fun u T w' hB hs _ _=>⟨.ext (nf _ (by decide) (by decide) (by decide)) (Ext.refl _),rfl⟩
   · intro u T w' hB hs _ hp
     have q2:u 22=_:=hp.1
     rw [q2]
     exact zgC h8.2 (by omega) fun w4 hx4 r=>⟨.ext (nf _ (by decide) (by decide) (by decide)) hx4,_,rfl,Nat.le_refl _,r.lt _ (List.mem_singleton.2 rfl),by obtain ⟨_,_,_,_,hb⟩:=hB;have:=hb.lt;omega,r⟩
   · exact fun u T w' hB hs _ _=>⟨.ext (nf _ (by decide) (by decide) (by decide)) (Ext.refl _),rfl⟩
   · intro u T w' hB hs _ hp
     have q2:u 24=_:=hp.1
     rw [q2]
     exact zgC h8.2 (by omega) fun w4 hx4 r=>⟨.ext (nf _ (by decide) (by decide) (by decide)) hx4,_,rfl,Nat.le_refl _,r.lt _ (List.mem_singleton.2 rfl),by obtain ⟨_,_,_,_,hb⟩:=hB;have:=hb.lt;omega,r⟩
   · intro u T w' hB hs _ hp
     have q:u 17=_:=hp.1
     rw [q]
     exact NIL.mk rfl ⟨.ext (nf _ (by decide) (by decide) (by decide)) (Ext.refl _),rfl⟩
   · intro u T w' hB hs _ hp
     have q:u 26=_:=hp.1
     rw [q]
     exact zaa zmR ⟨.ext (nf _ (by decide) (by decide) (by decide)) (Ext.refl _),rfl⟩
   · intro u T w' hB hs _ hp
     have q:u 27=_:=hp.1
     obtain ⟨g,q1,_⟩:=hp.2.1
     rw [q,q1]
     refine zkH (j:=11) (.inl rfl) h6 hB fun w2 hR hQ=>⟨hR,?_⟩
     show ∃ cs,Blk b e w2 cs∧cs[6]?=some (u 21)
     rw [q1];exact hQ
   · intro u T w' hB hs _ hp
     have q:u 18=_:=hp.1
     rw [q]
     exact NIL.mk rfl ⟨.ext (nf _ (by decide) (by decide) (by decide)) (Ext.refl _),rfl⟩
   · intro u T w' hB hs _ hp
     have q:u 28=_:=hp.1
     rw [q]
     exact zaa zmS ⟨.ext (nf _ (by decide) (by decide) (by decide)) (Ext.refl _),rfl⟩
   · intro u T w' hB hs _ hp
     have q:u 29=_:=hp.1
     obtain ⟨g,q1,_⟩:=hp.2.1
     rw [q,q1]
     refine zkH (j:=14) (.inr (.inl rfl)) h6 hB fun w2 hR hQ=>⟨hR,?_⟩
     show ∃ cs,Blk b e w2 cs∧cs[7]?=some (u 23)
     rw [q1];exact hQ
   · intro u T w' hB hs _ hp
     have q:u 19=_:=hp.1
     rw [q]
     exact NIL.mk rfl ⟨.ext (nf _ (by decide) (by decide) (by decide)) (Ext.refl _),rfl⟩
   · intro u T w' hB hs _ hp
     have q:u 30=_:=hp.1
     rw [q]
     exact zaa zmT ⟨.ext (nf _ (by decide) (by decide) (by decide)) (Ext.refl _),rfl⟩
   intro u T w' hB hs _ hp
   have q:u 31=_:=hp.1
   obtain ⟨g,q1,_⟩:=hp.2.1
   rw [q,q1]
   refine zkH (j:=17) (.inr (.inr rfl)) h6 hB fun w2 hR hQ=>⟨hR,?_⟩
   show ∃ cs,Blk b e w2 cs∧cs[8]?=some (u 25)
   rw [q1];exact hQ
 rintro u T w2 hB hs hap ⟨-,-,-,-,⟨g6,q21,ha6,hb6,hn6,hM6⟩,-,⟨g7,q23,ha7,hb7,hn7,hM7⟩,-,⟨g8,q25,ha8,hb8,hn8,hM8⟩,-,-,⟨cs6,hB6,hc6⟩,-,-,⟨cs7,hB7,hc7⟩,-,-,⟨cs8,hB8,hc8⟩,-⟩
 have t4:=hap.1 4 (by decide)
 have t6:=hap.1 6 (by decide)
 have t8:=hap.1 8 (by decide)
 have d46:=hap.2 4 (by decide) 6 (by decide) (by decide)
 have d48:=hap.2 4 (by decide) 8 (by decide) (by decide)
 have d68:=hap.2 6 (by decide) 8 (by decide) (by decide)
 obtain ⟨hch,y6,y7,y8,hBB⟩:=hB
 have u6:=hBB.uniq hB6
 have u7:=hBB.uniq hB7
 have u8:=hBB.uniq hB8
 subst u6 u7 u8
 rw [List.getElem?_append_right (by rw [h6];decide),h6,q21] at hc6
 rw [List.getElem?_append_right (by rw [h6];decide),h6,q23] at hc7
 rw [List.getElem?_append_right (by rw [h6];decide),h6,q25] at hc8
 have e6:y6=sl g6 c.procs.length:=by simpa using hc6
 have e7:y7=sl g7 c.procs.length:=by simpa using hc7
 have e8:y8=sl g8 c.procs.length:=by simpa using hc8
 subst e6 e7 e8
 rw [List.append_assoc] at hBB
 have hW2:=H1.cells hch hBB
 have hml:=H1.live.lt m (by simp)
 have hb0:=H.b0
 have hF2:FC W0 w2 b e c kc m g6 g7 g8 (List.replicate c.procs.length 0) (List.replicate c.procs.length 0) (List.replicate c.procs.length 0) x9 x10:=⟨hW2,hM6,hM7,hM8,⟨by omega,hn6,by omega⟩,⟨by omega,hn7,by omega⟩,⟨by omega,hn8,by omega⟩,by omega,by omega,by omega⟩
 clear hc6 hc7 hc8 hB6 hB7 hB8 hBB hW2 hch H1 hB0 hap d46 d48 d68 t4 t6 t8
 have hz:∀ op,CS c (List.replicate c.procs.length 0) (fcD c op 0 [] 0):=fun op=>CS.zero fun q r h=>by unfold fcD at h;simp at h
 have hz4:=hz 4
 have hz5:=hz 5
 have hc8l:(List.replicate c.procs.length 0).length=c.procs.length:=by simp
 refine zat c.procs.length (fun k us w'=>∃ c6 c7,us=[.int .i64 (k:Int)]∧k≤c.procs.length∧FC W0 w' b e c kc m g6 g7 g8 c6 c7 (List.replicate c.procs.length 0) x9 x10∧CS c c6 (fcD c 4 k [] 0)∧CS c c7 (fcD c 5 k [] 0)) 0 (Nat.zero_le _) ⟨_,_,rfl,Nat.zero_le _,hF2,hz4,hz5⟩ ?_
 rintro p mk u3 w3 hkm ⟨c6,c7,hu,hkl,hF3,hC6,hC7⟩
 simp only [List.map_cons,List.map_nil,List.cons.injEq,and_true] at hu
 rw [hu]
 refine zah ?_
 refine br (fun hlt=>?_) (fun hge=>?_)
 · have hp:p<c.procs.length:=by omega
   have hpe:p<c.entry.length:=by rw [hc.2.1.1];exact hp
   refine (zqV hF3.wb.wl (Ext.refl _) hc hp).mono ?_
   rintro v38 w4 ⟨hx4,ho4⟩
   have hF4:=hF3.step hx4
   have hM:∀ i,i∈zby c.ins.length (zca c p)↔zca c p i:=fun i=>by rw [zaw];exact ⟨fun h=>h.2,fun h=>⟨(ziG hc hpe h).1,h⟩⟩
   have hMl:(zby c.ins.length (zca c p)).length≤1500:=Nat.le_trans zcC hil
   generalize zby c.ins.length (zca c p)=M at *
   have hg6:=hF3.m6.lt g6 (by simp)
   have hg7:=hF3.m7.lt g7 (by simp)
   refine zae u25 ho4.is ?_
   rw [zag]
   refine zat M.length (fun j us w'=>∃ c6 c7,us=[.int .i64 (j:Int)]∧j≤M.length∧FC W0 w' b e c kc m g6 g7 g8 c6 c7 (List.replicate c.procs.length 0) x9 x10∧CS c c6 (fcD c 4 p M j)∧CS c c7 (fcD c 5 p M j)∧OwnI w3.heap.size w4.heap.size w' v38 (zaI M)) 0 (Nat.zero_le _) ⟨c6,c7,rfl,Nat.zero_le _,hF4,hC6.mono fun q r _ _=>zrn q r,hC7.mono fun q r _ _=>zrn q r,ho4.toI⟩ ?_
   rintro j mj u5 w5 hjm ⟨c65,c75,hu,hjl,hF5,hC65,hC75,hO5⟩
   simp only [List.map_cons,List.map_nil,List.cons.injEq,and_true] at hu
   rw [hu]
   refine zah ?_
   refine br (fun hlt5=>?_) (fun hge5=>?_)
   case refine_2=>
     have hje:j=M.length:=by omega
     rw [hje] at hC65 hC75
     refine zaf (by omega) ?_
     exact ⟨mk-1,by omega,p+1,by omega,c65,c75,rfl,by omega,hF5,hC65.mono fun q r _ _=>zrm hc (.inl rfl) hp hM q r,hC75.mono fun q r _ _=>zrm hc (.inr rfl) hp hM q r⟩
   have hj:j<M.length:=by omega
   refine zac u25 ty3 (i:=j) hO5.is (by rw [zag];exact hj) fun b2 o2 hA2=>?_
   rw [zbb] at hA2
   refine zad ty3 hA2 (Ext.refl _) fun _=>?_
   have htj:=fun x=>zcO hj (x:=x)
   have hiv:=(hM M[j]).1 (List.getElem_mem hj)
   generalize M[j]=i at *
   have hin:=(ziG hc hpe hiv).1
   obtain ⟨v4,hv4,hi4⟩:=hF5.wb.ins
   refine NIL.mk rfl ?_
   refine zaa zcd ?_
   refine zaa zaR ?_
   refine zas zdz hF5.wb.blk hv4 ?_
   refine zac u26 zec hi4 hin fun b3 o3 hA3=>?_
   rw [zaS] at hA3
   refine zab zec hA3 hF5.wb.ext fun v51 h51=>?_
   refine zcc zrK rfl zec rfl h51 hF5.wb.ext fun w6 hx6 hAI hV6=>?_
   have hF6:=hF5.step hx6
   have hO6:=hO5.ext hx6
   have hAB6:=ze5 h51 hV6 rfl
   have hgI:=hV6.lt
   have hgI0:w5.heap.size≠g6:=by have:=hF5.m6.lt g6 (by simp);omega
   generalize w5.heap.size=gI at *
   refine JOIN.mk (fun us w'=>∃ c6',FC W0 w' b e c kc m g6 g7 g8 c6' c75 (List.replicate c.procs.length 0) x9 x10∧CS c c6' (fcD c 4 p M (j+1))∧OwnI w3.heap.size w4.heap.size w' v38 (zaI M)∧AtB W0 w' gI 0 (zam c i)) ?_ ?_
   · refine zaa zbM ?_
     refine zad ty3 (zax hAI) (Ext.refl _) fun _=>?_
     refine zai ?_
     refine br (fun c4=>?_) (fun c4=>?_)
     · obtain ⟨ha1,ha2⟩:=zff hc hin (.inl c4)
       have hxd:=zak w6
       have hF7:=hF6.step hxd
       have hO7:=hO6.ext hxd
       have hAB7:=hAB6.ext hxd
       have hgI7:gI<(World.drew1 w6).heap.size:=Nat.lt_of_lt_of_le hgI hxd.size
       generalize World.drew1 w6=w7 at *
       have hpl:p<c65.length:=by rw [hC65.1];exact hp
       refine NIL.mk rfl ?_
       refine zaa zmR ?_
       refine zas zbG hF7.wb.blk (hF7.wb.cell 1) ?_
       refine zac u25 ty3 (i:=p) hF7.m6.is (by rw [zag];exact hpl) fun b4 o4 hA4=>?_
       rw [zbz] at hA4
       refine zad ty3 hA4 (Ext.refl _) fun _=>?_
       have h256:=hC65.lt0 h8.1 hp
       refine zaa zcW ?_
       refine zad ty3 (zaX hAI) hxd fun _=>?_
       rw [ha1]
       have hpw:2^agN c i<256:=Nat.lt_of_lt_of_le (Nat.pow_lt_pow_right (by omega) ha2) (Nat.pow_le_pow_right (n:=2) (by omega) h8.1)
       refine zb2 (by kernel_rfl) u97 (by omega) ?_
       refine zfO (by omega) ?_
       refine zhV (m:=zaK c65 p) (n:=2^agN c i) (by omega) (by omega) ?_
       have hor:zaK c65 p ||| 2^agN c i<256:=Nat.or_lt_two_pow (n:=8) h256 hpw
       refine zcL (α:=Int) rfl u25 ty3 hp ?_
       refine zbP (α:=Int) rfl ty3 hF7.m6 (by rw [zag,hC65.1]) hp (zfv (v:=zaK c65 p ||| 2^agN c i) (by omega)) fun w8 hc8 hm8=>?_
       have hF8:=hF7.set6 (v:=zaK c65 p ||| 2^agN c i) hc8 hm8
       exact ⟨_,hF8,hC65.set hp ha2 fun q r=>zrl htj c4 q r,hO7.chgF hc8 (by simp;omega),hAB7.keep (hc8.block gI hgI7 (by simp;exact hgI0))⟩
     exact ⟨c65,hF6,hC65.mono fun q r _ _=>ztq htj c4 q r,hO6,hAB6⟩
   rintro u9 w9 ⟨c69,hF9,hC69,hO9,hAB9⟩
   have hAI9:=hAB9.at hF9.wb.ext
   refine zaa zbM ?_
   refine zad ty3 (zax hAI9) (Ext.refl _) fun _=>?_
   refine zai ?_
   refine br (fun c5=>?_) (fun c5=>?_)
   · obtain ⟨ha1,ha2⟩:=zff hc hin (.inr c5)
     have hxd:=zak w9
     have hF10:=hF9.step hxd
     have hO10:=hO9.ext hxd
     generalize World.drew1 w9=w10 at *
     have hpl:p<c75.length:=by rw [hC75.1];exact hp
     refine NIL.mk rfl ?_
     refine zaa zmS ?_
     refine zas zbG hF10.wb.blk (hF10.wb.cell 2) ?_
     refine zac u25 ty3 (i:=p) hF10.m7.is (by rw [zag];exact hpl) fun b4 o4 hA4=>?_
     rw [zbz] at hA4
     refine zad ty3 hA4 (Ext.refl _) fun _=>?_
     have h256:=hC75.lt0 h8.1 hp
     refine zaa zcW ?_
     refine zad ty3 (zaX hAI9) hxd fun _=>?_
     rw [ha1]
     have hpw:2^agN c i<256:=Nat.lt_of_lt_of_le (Nat.pow_lt_pow_right (by omega) ha2) (Nat.pow_le_pow_right (n:=2) (by omega) h8.1)
     refine zb2 (by kernel_rfl) u97 (by omega) ?_
     refine zfO (by omega) ?_
     refine zhV (m:=zaK c75 p) (n:=2^agN c i) (by omega) (by omega) ?_
     have hor:zaK c75 p ||| 2^agN c i<256:=Nat.or_lt_two_pow (n:=8) h256 hpw
     refine zcL (α:=Int) rfl u25 ty3 hp ?_
     refine zbP (α:=Int) rfl ty3 hF10.m7 (by rw [zag,hC75.1]) hp (zfv (v:=zaK c75 p ||| 2^agN c i) (by omega)) fun w11 hc11 hm11=>?_
     have hF11:=hF10.set7 (v:=zaK c75 p ||| 2^agN c i) hc11 hm11
     refine zaf (by omega) ?_
     exact ⟨mj-1,by omega,j+1,by omega,c69,_,rfl,by omega,hF11,hC69,hC75.set hp ha2 fun q r=>zrl htj c5 q r,hO10.chgF hc11 (by simp;omega)⟩
   refine zaf (by omega) ?_
   exact ⟨mj-1,by omega,j+1,by omega,c69,c75,rfl,by omega,hF9,hC69,hC75.mono fun q r _ _=>ztq htj c5 q r,hO9⟩
 have hke:p=c.procs.length:=by omega
 rw [hke] at hC6 hC7
 rw [hC6.done,hC7.done] at hF3
 clear hC6 hC7 hF2 hkm hu
 have hCz:CS c (List.replicate c.procs.length 0) (fun q r=>q<0∧FromP c q r):=CS.zero fun q r h=>by omega
 generalize List.replicate c.procs.length 0=c8 at *
 refine zat c.procs.length (fun k us w'=>∃ c8,us=[.int .i64 (k:Int)]∧k≤c.procs.length∧FC W0 w' b e c kc m g6 g7 g8 (cls c 4) (cls c 5) c8 x9 x10∧CS c c8 (fun q r=>q<k∧FromP c q r)) 0 (Nat.zero_le _) ⟨_,rfl,Nat.zero_le _,hF3,hCz⟩ ?_
 rintro k mk u4 w4 hkm ⟨c84,hu,hkl,hF4,hC84⟩
 simp only [List.map_cons,List.map_nil,List.cons.injEq,and_true] at hu
 rw [hu]
 refine zah ?_
 refine br (fun hlt4=>?_) (fun hge4=>?_)
 case refine_2=>
   have hke:k=c.procs.length:=by omega
   rw [hke] at hC84
   have:c84=frs c:=by
     refine List.ext_getElem (by rw [hC84.1,zky]) fun i h1 h2=>?_
     have hi:i<c.procs.length:=by rw [←hC84.1];exact h1
     rw [zb8 h1,zb8 h2,ztg hi,hC84.2 i hi]
     exact zba fun r _=>⟨fun h=>h.2,fun h=>⟨hi,h⟩⟩
   rw [this] at hF4
   exact ⟨rfl,g6,g7,g8,hF4⟩
 have hk:k<c.procs.length:=by omega
 refine zb2 (by kernel_rfl) u97 (by omega) ?_
 refine zfO (by omega) ?_
 have hU:=UM.start (c:=c) hk
 have h8':2^c.procs.length≤256:=Nat.pow_le_pow_right (n:=2) (by omega) h8.1
 refine LOOPI.mk (fun mm us w'=>∃ (s:Nat) (ag:Bool),us=[.int .i64 (s:Int),.bool ag]∧mm=(256-s)+(if ag then 1 else 0)∧FC W0 w' b e c kc m g6 g7 g8 (cls c 4) (cls c 5) c84 x9 x10∧UM c k s∧(ag=false→s=zb4 (FromP c k) c.procs.length)) (256-2^k+1) ⟨2^k,true,rfl,rfl,hF4,hU,fun e=>by cases e⟩ ?_
 rintro mm u5 w5 ⟨s,ag,hu,hm,hF5,hU5,hend⟩
 obtain ⟨hu1,hu2⟩:=zdY hu
 rw [hu1,hu2]
 have hs256:s<256:=Nat.lt_of_lt_of_le hU5.lt h8'
 refine zbH (fun hag=>?_) (fun hag=>?_)
 · rw [hag,if_pos rfl] at hm
   refine NIL.mk rfl ?_
   refine zaa zmR ?_
   refine zas zbG hF5.wb.blk (hF5.wb.cell 1) ?_
   refine (zg9 hF5.m6.is (Ext.refl _) (zoo h8.1 4) (by rw [zha];exact h8.1) (m:=s) (by rw [zha];exact hU5.lt)).mono ?_
   rintro _ w6 ⟨hx6,rfl⟩
   have hF6:=hF5.step hx6
   have hor:=zqR (zoo h8.1 4) (zbo s)
   have hU6:=hU5.more h8.1
   have hfin:=hU5.fin h8.1
   have hgt:=fun h=>zsu (m:=orL (cls c 4) (zbo s)) (n:=s) h
   refine zhV (m:=s) (n:=orL (cls c 4) (zbo s)) (by omega) (by omega) ?_
   have hor2:s ||| orL (cls c 4) (zbo s)<256:=Nat.or_lt_two_pow (n:=8) hs256 hor
   generalize s ||| orL (cls c 4) (zbo s)=t at *
   refine zaW ?_
   by_cases hts:t=s
   · refine ⟨256-t,by omega,t,_,rfl,?_,hF6,hU6,fun _=>by rw [hts];exact hfin hts⟩
     rw [hts];simp
   have hd:decide ((t:Int)≠(s:Int))=true:=decide_eq_true fun h=>hts (Int.ofNat_inj.1 h)
   have:=hgt hts
   rw [hd]
   exact ⟨256-t+1,by omega,t,true,rfl,rfl,hF6,hU6,fun e=>by cases e⟩
 have hse:=hend hag
 have hpl:k<c84.length:=by rw [hC84.1];exact hk
 refine NIL.mk rfl ?_
 refine zaa zmT ?_
 refine zas zbG hF5.wb.blk (hF5.wb.cell 3) ?_
 refine zcL (α:=Int) rfl u25 ty3 hk ?_
 refine zbP (α:=Int) rfl ty3 hF5.m8 (by rw [zag,hC84.1]) hk (zfv (v:=s) (by omega)) fun w6 hc6 hm6=>?_
 have hF6:=hF5.set8 (v:=s) hc6 hm6
 refine zaf (by omega) ?_
 refine ⟨mk-1,by omega,k+1,by omega,_,rfl,by omega,hF6,by simp [hC84.1],fun q hq=>?_⟩
 rw [zd8 hpl]
 split
 · rename_i e
   subst e
   rw [hse]
   exact zba fun r _=>⟨fun h=>⟨by omega,h⟩,fun h=>h.2⟩
 rename_i e
 rw [hC84.2 q hq]
 exact zba fun r _=>⟨fun h=>⟨by omega,h.2⟩,fun h=>⟨by omega,h.2⟩⟩
def F236 (a0:Value) (w:World) (R:VW):Prop:=
 NIL a0 <|
 rF 180 a0 0 w fun x5=>
 rF 28 x5 2 w fun x6=>
 rL 24 x6 w fun x7=>
 cL 134 [x7,(Value.string (ByteArray.mk #[109,97,105,110]))] w fun x8 w=>
 R x8 w
def cfg236:Cfg:=⟨extL,[],[],[],[],[],[]⟩
theorem F236_call {a0:Value} {w:World} {R:VW} (h:F236 a0 w R):cL 236 [a0] w R:=co (g:=cfg236) Tryz.func236 (by kernel_rfl) (by kernel_rfl) (by kernel_rfl) h
def F172 (a0:Value) (w:World) (R:VW):Prop:=
 cL 236 [a0] w fun x6 w=>
 rD (convert 3 97 x6) w fun x7=>
 rB .shl 3 U0 T0 (iV 1) x7 w fun x8=>
 LOOPI [2,3] [x8,(Value.bool true)] w fun u2 w next2=>
 BR (u2 3)
 (NIL a0 <|
 rF 180 a0 4 w fun x13=>
 rL 25 x13 w fun x14=>
 cL 235 [x14,(u2 2)] w fun x16 w=>
 NIL a0 <|
 rF 180 a0 6 w fun x18=>
 oS 3 x18 x16 w fun w=>
 (fun w=>NIL a0 <|
 rF 180 a0 3 w fun x22=>
 rL 25 x22 w fun x23=>
 NIL a0 <|
 rF 180 a0 6 w fun x26=>
 rL 3 x26 w fun x27=>
 (fun w_=>cL 235 [x23,x27] w_ fun x28 w=>
 Ext w_ w ∧
 rB .or 3 T0 T0 (u2 2) x28 w fun x29=>
 rB .neq 3 T0 T0 x29 (u2 2) w fun x32=>
 next2 [x29,x32] w) w) (World.drew1 w))
 (NIL a0 <|
 rF 180 a0 5 w fun x37=>
 oS 3 x37 (u2 2) w fun w=>
 R (Value.tuple #[]) w)
def cfg172:Cfg:=⟨extL,[],[(2,17179868700,[2,3])],[(4,[0,1,2,3,4,5,6,7,8,9,10,11],512)],[],[],[]⟩
theorem F172_call {a0:Value} {w:World} {R:VW} (h:F172 a0 w R):cL 172 [a0] w R:=co (g:=cfg172) Tryz.func172 (by kernel_rfl) (by kernel_rfl) (by kernel_rfl) h
def F109 (a0:Value) (w:World) (R:VW):Prop:=
 oP (Instr.box 28 a0) w fun x1 w=>
 rL 28 x1 w fun x7=>
 cL 72 [x7] w fun x8 w=>
 rD (Op.unary .not x8) w fun x9=>
 BR x9
 (R (Value.tuple #[(Value.pointer none),(Value.bool false)]) w)
 ((fun w=>rL 28 x1 w fun x10=>
 rF 28 x1 4 w fun x11=>
 rL 26 x11 w fun x12=>
 rN 26 3 x12 w fun x13=>
 (fun w_=>oP (Instr.makeSlice 135 x13 x13) w_ fun x14 w=>
 Ext w_ w ∧
 (rD (Instr.build 180 #[(0,x10),(1,x14)]) w fun x15=>
 oP (Instr.box 180 x15) w fun x16 w=>
 rF 28 x1 3 w fun x17=>
 rL 25 x17 w fun x18=>
 rN 25 3 x18 w fun x19=>
 LOOPI [20] [(iV 0)] w fun u5 w next5=>
 rC (u5 20) x19 w fun x21=>
 BR x21
 (rX 25 x18 (u5 20) w fun x22=>
 rL 3 x22 w fun x23=>
 NIL x16 <|
 rF 180 x16 1 w fun x26=>
 rL 135 x26 w fun x27=>
 rX 135 x27 x23 w fun x29=>
 oS 4 x29 (Value.bool true) w fun w=>
 NIL x16 <|
 rF 180 x16 1 w fun x33=>
 rL 135 x33 w fun x34=>
 cL 170 [x16,x34,x23] w fun x36 w=>
 rA (u5 20) (iV 1) w fun x37=>
 next5 [x37] w)
 (cL 171 [x16] w fun x39 w=>
 cL 172 [x16] w fun x41 w=>
 R (Value.tuple #[x16,(Value.bool true)]) w))) w) (World.drew1 w))
def cfg109:Cfg:=⟨extL,[],[(5,274876858432,[20])],[(3,[0,1,2,3,4,5,6,7],16)],[],[],[]⟩
theorem F109_call {a0:Value} {w:World} {R:VW} (h:F109 a0 w R):cL 109 [a0] w R:=co (g:=cfg109) Tryz.func109 (by kernel_rfl) (by kernel_rfl) (by kernel_rfl) h
open Rep (rep)
theorem ztr {w:World} {g e o:Nat} {cs:List Value} {x:Int} (hB:Blk g e w cs) (ho:cs[o]?=some (.int .i64 x)) (hx:I64 x):At w g o x:=by
 refine ⟨[],[.int .i64 x],⟨rfl,rfl,hx⟩,fun i u hi=>?_⟩
 have:i=0:=by
   cases i with
   | zero=>rfl
   | succ i=>simp at hi
 subst this
 simp only [List.getElem?_cons_zero,Option.some.injEq] at hi
 subst hi
 have:=hB.range o _ ho
 rw [Nat.zero_add] at this
 exact this
section
variable {W0 w w':World} {b e m g6 g7 g8:Nat} {c:DCode} {kc:List Value} {c6 c7 c8:List Nat} {x9 x10 y9 y10:Value}
theorem FC.cells (h:FC W0 w b e c kc m g6 g7 g8 c6 c7 c8 x9 x10) (hc:ChgI b (b+1) w w') (hB:Blk b e w' (kc++[.slice (some ⟨m,0,none⟩) c.ins.length c.ins.length,sl g6 c.procs.length,sl g7 c.procs.length,sl g8 c.procs.length,y9,y10])):FC W0 w' b e c kc m g6 g7 g8 c6 c7 c8 y9 y10:=
 ⟨h.wb.cells hc hB,zdG h.m6 hc.one (by simp [h.n6]),zdG h.m7 hc.one (by simp [h.n7]),zdG h.m8 hc.one (by simp [h.n8]),h.n6,h.n7,h.n8,h.d67,h.d68,h.d78⟩
theorem FC.store9 {x:Nat} {K:World→Prop} (h:FC W0 w b e c kc m g6 g7 g8 c6 c7 c8 x9 x10) (k:∀ w',FC W0 w' b e c kc m g6 g7 g8 c6 c7 c8 (.int .i64 (x:Int)) x10→K w'):OPU Tryz.prog (Instr.storeAt 3 (.pointer (some ⟨b,0+9,none⟩)) (.int .i64 (x:Int))) w K:=by
 have hl:9<(kc++[Value.slice (some ⟨m,0,none⟩) c.ins.length c.ins.length,sl g6 c.procs.length,sl g7 c.procs.length,sl g8 c.procs.length,x9,x10]).length:=by rw [List.length_append,h.wb.k5];simp
 refine zbq (α:=Raw) (lo:=0) (hi:=0) ty3 rfl rfl h.wb.blk hl (zb9 rfl) fun w2 hc2 hB2=>?_
 have:=h.wb.set 4 (.int .i64 (x:Int))
 rw [show 5+4=0+9 by omega] at this
 rw [this] at hB2
 exact k w2 (h.cells hc2 hB2)
theorem FC.store10 {x:Nat} {K:World→Prop} (h:FC W0 w b e c kc m g6 g7 g8 c6 c7 c8 x9 x10) (k:∀ w',FC W0 w' b e c kc m g6 g7 g8 c6 c7 c8 x9 (.int .i64 (x:Int))→K w'):OPU Tryz.prog (Instr.storeAt 3 (.pointer (some ⟨b,0+10,none⟩)) (.int .i64 (x:Int))) w K:=by
 have hl:10<(kc++[Value.slice (some ⟨m,0,none⟩) c.ins.length c.ins.length,sl g6 c.procs.length,sl g7 c.procs.length,sl g8 c.procs.length,x9,x10]).length:=by rw [List.length_append,h.wb.k5];simp
 refine zbq (α:=Raw) (lo:=0) (hi:=0) ty3 rfl rfl h.wb.blk hl (zb9 rfl) fun w2 hc2 hB2=>?_
 have:=h.wb.set 5 (.int .i64 (x:Int))
 rw [show 5+5=0+10 by omega] at this
 rw [this] at hB2
 exact k w2 (h.cells hc2 hB2)
end
theorem znp {w:World} {b:Nat} {c:DCode} (hA:At w b 0 c) (hc:CodeR c) :
   CALL Tryz.prog 236 [.pointer (some ⟨b,0,none⟩)] w fun r w'=>Ext w w'∧r=.int .i64 (zhC c:Nat):=by
 refine F236_call ?_
 unfold F236
 refine NIL.mk rfl ?_
 refine zaa zcd ?_
 refine zaa zcJ ?_
 refine zab zc5 (zaP hA) (Ext.refl _) fun v15 h15=>?_
 refine (zib h15 (Ext.refl _)).mono ?_
 rintro _ w2 ⟨hx2,rfl⟩
 have:=(zgA hc).1
 unfold zfV at this
 rw [this]
 exact ⟨hx2,rfl⟩
structure RM (c:DCode) (r:Nat):Prop where
 lt:r<2^c.procs.length
 self:r.testBit (zhC c)=true
 snd:∀ q,r.testBit q=true→RootP c q
noncomputable def usR (c:DCode) (r:Nat):Nat:=orL (frs c) (zbo r)
theorem zro {c:DCode} {q r:Nat} (hq:q<c.procs.length):(zaK (frs c) q).testBit r=true↔r<c.procs.length∧FromP c q r:=by rw [ztg hq,zaH]
theorem zkJ {c:DCode} (h8:c.procs.length≤8) {r p:Nat} (h:RM c r):(usR c r).testBit p=true↔∃ q,q<c.procs.length∧r.testBit q=true∧p<c.procs.length∧FromP c q p:=by
 unfold usR
 rw [zhP h.lt (by omega)]
 exact ⟨fun ⟨i,h1,h2,h3⟩=>⟨i,h1,h2,(zro h1).1 h3⟩,fun ⟨i,h1,h2,h3⟩=>⟨i,h1,h2,(zro h1).2 h3⟩⟩
theorem zts {c:DCode} (h8:c.procs.length≤8) {r:Nat} (h:RM c r):usR c r<2^c.procs.length:=zno fun p hp=>by
 obtain ⟨_,_,_,h3,_⟩:=(zkJ h8 h).1 hp;exact h3
theorem RM.start {c:DCode} (hc:CodeR c):RM c (2^zhC c):=⟨Nat.pow_lt_pow_right (by omega) (zgA hc).2,by simp [Nat.testBit_two_pow],fun q hq=>by simp [Nat.testBit_two_pow] at hq;exact hq▸.main⟩
theorem RM.more_bit {c:DCode} (h8:c.procs.length≤8) {r q:Nat} (h:RM c r):(orL (cls c 5) (zbo (usR c r))).testBit q=true↔∃ p,p<c.procs.length∧(usR c r).testBit p=true∧q<c.procs.length∧zmw c p 5 q:=by
 rw [zhP (zts h8 h) (by omega)]
 exact ⟨fun ⟨i,h1,h2,h3⟩=>⟨i,h1,h2,(zkI h1).1 h3⟩,fun ⟨i,h1,h2,h3⟩=>⟨i,h1,h2,(zkI h1).2 h3⟩⟩
theorem RM.more {c:DCode} (h8:c.procs.length≤8) {r:Nat} (h:RM c r):RM c (r ||| orL (cls c 5) (zbo (usR c r))):=by
 refine ⟨Nat.or_lt_two_pow h.lt (zno fun q hq=>by obtain ⟨_,_,_,h3,_⟩:=(h.more_bit h8).1 hq;exact h3),by rw [Nat.testBit_or,h.self];rfl,fun q hq=>?_⟩
 rw [Nat.testBit_or,Bool.or_eq_true] at hq
 rcases hq with hq | hq
 · exact h.snd q hq
 obtain ⟨p,h1,h2,h3,h4⟩:=(h.more_bit h8).1 hq
 obtain ⟨s,h5,h6,_,h7⟩:=(zkJ h8 h).1 h2
 exact .spawn (h.snd s h6) h7 h4 h3
theorem RM.fin {c:DCode} (hc:CodeR c) (h8:c.procs.length≤8) {r:Nat} (h:RM c r) (he:r ||| orL (cls c 5) (zbo (usR c r))=r):r=zgD c∧usR c r=zo6 c:=by
 have hall:∀ q,RootP c q→r.testBit q=true:=fun q hq=>by
   induction hq with
   | main=>exact h.self
   | @spawn s p q h0 h1 h2 hq ih=>
     have hs:=h0.lt hc
     rw [←he,Nat.testBit_or,(h.more_bit h8).2 ⟨p,h1.lt hs,(zkJ h8 h).2 ⟨s,hs,ih,h1.lt hs,h1⟩,hq,h2⟩]
     simp
 refine ⟨zdS fun q=>⟨fun hq=>⟨(h.snd q hq).lt hc,h.snd q hq⟩,fun hq=>hall q hq.2⟩,zdS fun p=>?_⟩
 rw [zkJ h8 h]
 constructor
 · rintro ⟨q,h1,h2,h3,h4⟩
   exact ⟨h3,q,h.snd q h2,h4⟩
 rintro ⟨h3,q,h1,h2⟩
 exact ⟨q,h1.lt hc,hall q h1,h3,h2⟩
theorem zl7 {w W0:World} {b e m g6 g7 g8:Nat} {c:DCode} {kc:List Value} {x9 x10:Value} (H:FC W0 w b e c kc m g6 g7 g8 (cls c 4) (cls c 5) (frs c) x9 x10) (hc:CodeR c) :
   CALL Tryz.prog 172 [.pointer (some ⟨b,0,none⟩)] w fun r w'=>r=.tuple #[]∧FC W0 w' b e c kc m g6 g7 g8 (cls c 4) (cls c 5) (frs c) (.int .i64 (zgD c:Nat)) (.int .i64 (zo6 c:Nat)):=by
 refine F172_call ?_
 unfold F172
 have h8:=hc.1.procs8
 have hml:=(zgA hc).2
 refine (znp H.wb.code_at hc).mono ?_
 rintro _ w1 ⟨hx1,rfl⟩
 have H1:=H.step hx1
 refine zb2 (by kernel_rfl) u97 (by omega) ?_
 refine zfO (by omega) ?_
 have hR:=RM.start hc
 have h8':2^c.procs.length≤256:=Nat.pow_le_pow_right (n:=2) (by omega) h8.1
 refine LOOPI.mk (fun mm us w'=>∃ (s:Nat) (ag:Bool) (y:Value),us=[.int .i64 (s:Int),.bool ag]∧mm=(256-s)+(if ag then 1 else 0)∧FC W0 w' b e c kc m g6 g7 g8 (cls c 4) (cls c 5) (frs c) x9 y∧RM c s∧(ag=false→s=zgD c∧y=.int .i64 (zo6 c:Nat))) (256-2^zhC c+1) ⟨2^zhC c,true,x10,rfl,rfl,H1,hR,fun e=>by cases e⟩ ?_
 rintro mm u2 w2 ⟨s,ag,y,hu,hm,H2,hR2,hend⟩
 obtain ⟨hu1,hu2⟩:=zdY hu
 rw [hu1,hu2]
 have hs256:s<256:=Nat.lt_of_lt_of_le hR2.lt h8'
 refine zbH (fun hag=>?_) (fun hag=>?_)
 · rw [hag,if_pos rfl] at hm
   refine NIL.mk rfl ?_
   refine zaa zmT ?_
   refine zas zbG H2.wb.blk (H2.wb.cell 3) ?_
   refine (zg9 H2.m8.is (Ext.refl _) (zu3 h8.1) (by rw [zky];exact h8.1) (m:=s) (by rw [zky];exact hR2.lt)).mono ?_
   rintro _ w3 ⟨hx3,rfl⟩
   have H3:=H2.step hx3
   have hul:=zts h8.1 hR2
   have hu256:usR c s<256:=Nat.lt_of_lt_of_le hul h8'
   have hue:orL (frs c) (zbo s)=usR c s:=rfl
   rw [hue]
   refine NIL.mk rfl ?_
   refine zaa zqa ?_
   refine H3.store10 fun w4 H4=>?_
   have hxd:=zak w4
   have H5:=H4.step hxd
   generalize World.drew1 w4=w5 at *
   refine NIL.mk rfl ?_
   refine zaa zmS ?_
   refine zas zbG H5.wb.blk (H5.wb.cell 2) ?_
   refine NIL.mk rfl ?_
   refine zaa zqa ?_
   refine zas ty3 H5.wb.blk (H5.wb.cell 5) ?_
   refine (zg9 H5.m7.is (Ext.refl _) (zoo h8.1 5) (by rw [zha];exact h8.1) (m:=usR c s) (by rw [zha];exact hul)).mono ?_
   rintro _ w6 ⟨hx6,rfl⟩
   have H6:=H5.step hx6
   have hor:=zqR (zoo h8.1 5) (zbo (usR c s))
   have hR6:=hR2.more h8.1
   have hfin:=hR2.fin hc h8.1
   have hgt:=fun h=>zsu (m:=orL (cls c 5) (zbo (usR c s))) (n:=s) h
   refine ⟨hx6,?_⟩
   refine zhV (m:=s) (n:=orL (cls c 5) (zbo (usR c s))) (by omega) (by omega) ?_
   have hor2:s ||| orL (cls c 5) (zbo (usR c s))<256:=Nat.or_lt_two_pow (n:=8) hs256 hor
   generalize s ||| orL (cls c 5) (zbo (usR c s))=t at *
   refine zaW ?_
   by_cases hts:t=s
   · refine ⟨256-t,by omega,t,_,_,rfl,?_,H6,hR6,fun _=>?_⟩
     · rw [hts];simp
     rw [(hfin hts).2]
     exact ⟨by rw [hts];exact (hfin hts).1,rfl⟩
   have hd:decide ((t:Int)≠(s:Int))=true:=decide_eq_true fun h=>hts (Int.ofNat_inj.1 h)
   have:=hgt hts
   rw [hd]
   exact ⟨256-t+1,by omega,t,true,_,rfl,rfl,H6,hR6,fun e=>by cases e⟩
 obtain ⟨hse,hye⟩:=hend hag
 rw [hye] at H2
 refine NIL.mk rfl ?_
 refine zaa zp9 ?_
 refine H2.store9 fun w3 H3=>?_
 rw [hse] at H3
 exact ⟨rfl,H3⟩
theorem FC.wat {W0 w:World} {b e m g6 g7 g8:Nat} {c:DCode} {kc:List Value} (H:FC W0 w b e c kc m g6 g7 g8 (cls c 4) (cls c 5) (frs c) (.int .i64 (zgD c:Nat)) (.int .i64 (zo6 c:Nat))) (h8:c.procs.length≤8):WAt w b c:=by
 have h1:zgD c<256:=zdI h8
 have h2:zo6 c<256:=zdI h8
 exact ⟨H.wb.wl,zeC H.wb.blk (H.wb.cell 1) H.m6.is,zeC H.wb.blk (H.wb.cell 2) H.m7.is,zeC H.wb.blk (H.wb.cell 3) H.m8.is,ztr H.wb.blk (H.wb.cell 4) (by unfold I64;omega),ztr H.wb.blk (H.wb.cell 5) (by unfold I64;omega)⟩
theorem zfB {w W0:World} {v0:Value} {c:DCode} (h0:Is W0 v0 c) (e0:Ext W0 w) :
   CALL Tryz.prog 109 [v0] w fun r w'=>Ext w w'∧((¬CodeR c∧r=.tuple #[.pointer none,.bool false])∨(CodeR c∧∃ b,r=.tuple #[.pointer (some ⟨b,0,none⟩),.bool true]∧WAt w' b c)):=by
 refine F109_call ?_
 unfold F109
 refine zbS h0 e0 fun w1 hx1 hA=>?_
 refine zab zcF hA (Ext.refl _) fun v7 h7=>?_
 refine (zki h7 (Ext.refl _)).mono ?_
 rintro _ w2 ⟨hx2,rfl⟩
 refine zaA ?_
 refine br (fun hn=>?_) (fun hy=>?_)
 · exact ⟨hx1.trans hx2,.inl ⟨hn,rfl⟩⟩
 have hc:CodeR c:=Decidable.not_not.1 hy
 have h8:=hc.1.procs8
 have hil:=hc.f.ins
 have hz0:=(zhw hc h8.2).2.2
 have hxd:=zak w2
 have hx3:=hx2.trans hxd
 generalize World.drew1 w2=w3 at *
 refine zab zcF hA hx3 fun v10 h10=>?_
 refine zaa zaR ?_
 refine zab zdz (zao hA) hx3 fun v12 h12=>?_
 refine zae u26 h12 ?_
 refine zeP (by omega) (by omega) fun w4 hx4 hM4=>?_
 have hs4:=hx4.size
 have hm4:=hM4.lt _ (List.mem_singleton.2 rfl)
 generalize hm:w3.heap.size=m at *
 have h10':=h10.ext hx3
 have hcells:=zjL h10'
 obtain ⟨F,kc,hr,hkc⟩:=h10'
 obtain ⟨a0,a1,a2,a3,a4,n0,n1,n2,n3,n4,k0,k1,k2,k3,k4,hcv⟩:=hcells
 have hkce:kc=[.slice a0 n0 k0,.slice a1 n1 k1,.slice a2 n2 k2,.slice a3 n3 k3,.slice a4 n4 k4]:=by
   rw [hkc] at hcv
   have:(Value.agg kc.toArray)=.agg #[.slice a0 n0 k0,.slice a1 n1 k1,.slice a2 n2 k2,.slice a3 n3 k3,.slice a4 n4 k4]:=hcv
   simpa using this
 rw [hcv]
 refine ⟨hx4,?_⟩
 refine zaQ (cells:=#[.slice a0 n0 k0,.slice a1 n1 k1,.slice a2 n2 k2,.slice a3 n3 k3,.slice a4 n4 k4,sl m c.ins.length,.slice none 0 0,.slice none 0 0,.slice none 0 0,.int .i64 0,.int .i64 0]) (by kernel_rfl) ?_
 refine zkm fun w5 hx5 hB5=>?_
 have hB5':Blk w4.heap.size 180 w5 (kc++[sl m c.ins.length,.slice none 0 0,.slice none 0 0,.slice none 0 0,.int .i64 0,.int .i64 0]):=by rw [hkce];exact hB5
 have hk5:kc.length=5:=Rep.len hr
 clear hB5 hcv hkc
 have hM5:=hM4.ext hx5
 have hx35:Ext w3 w5:=hx4.trans hx5
 generalize hb:w4.heap.size=b at *
 refine zaa za6 ?_
 refine zab zbG (zaq hA) (hx3.trans hx35) fun v18 h18=>?_
 have h18:=h18.ext hx3
 refine zae u25 h18 ?_
 have hel:c.entry.length=c.procs.length:=hc.2.1.1
 rw [hel]
 have hrep0:List.replicate c.ins.length false=zcs c.ins.length (fun i=>∃ p,p<0∧zca c p i):=zcy _ fun i ⟨p,h,_⟩=>by omega
 rw [hrep0] at hM5
 have hcell0:∀ {x1 x2 x3 x4 x5:Value},(kc++[sl m c.ins.length,x1,x2,x3,x4,x5])[0+5]?=some (sl m c.ins.length):=by intros;rw [List.getElem?_append_right (by rw [hk5];omega),hk5];rfl
 refine zat c.procs.length (fun k us w'=>us=[.int .i64 (k:Int)]∧k≤c.procs.length∧Ext w3 w'∧Blk b 180 w' (kc++[sl m c.ins.length,.slice none 0 0,.slice none 0 0,.slice none 0 0,.int .i64 0,.int .i64 0])∧Mine [m] w' (sl m c.ins.length) (zcs c.ins.length fun i=>∃ p,p<k∧zca c p i)) 0 (Nat.zero_le _) ⟨rfl,Nat.zero_le _,hx35,hB5',hM5⟩ ?_
 rintro k mk u w6 hkm ⟨hu,hkl,hx6,hB6,hM6⟩
 simp only [List.map_cons,List.map_nil,List.cons.injEq,and_true] at hu
 rw [hu]
 refine zah ?_
 refine br (fun hlt=>?_) (fun hge=>?_)
 · have hk:k<c.procs.length:=by omega
   have hke:k<c.entry.length:=by omega
   obtain ⟨he1,he2,he3⟩:=zhB hc hke
   refine zac u25 ty3 (i:=k) h18 hke fun b5 o5 hA5=>?_
   rw [zbs hke,he1] at hA5
   refine zad ty3 hA5 hx6 fun _=>?_
   refine NIL.mk rfl ?_
   refine zaa zmQ ?_
   refine zas zc6 hB6 hcell0 ?_
   refine zcL (α:=Bool) rfl zdX ty4 he2 ?_
   refine zbP (α:=Bool) rfl ty4 hM6 zau he2 zbf fun w7 hc7 hm7=>?_
   have hB7:=hB6.chgF hc7 (by simp;omega)
   have hx7:Ext w3 w7:=hx6.chgF hc7 (by simp [hm])
   have hmk7:∀ i,mkd ((zcs c.ins.length fun i=>∃ p,p<k∧zca c p i).set (eN c k) true) i↔(i<c.ins.length∧∃ p,p<k∧zca c p i)∨i=eN c k:=fun i=>by
     rw [zb3 (by rw [zau];exact he2),zbr]
   have hl7:((zcs c.ins.length fun i=>∃ p,p<k∧zca c p i).set (eN c k) true).length=c.ins.length:=by rw [List.length_set,zau]
   generalize (zcs c.ins.length fun i=>∃ p,p<k∧zca c p i).set (eN c k) true=ms7 at *
   refine NIL.mk rfl ?_
   refine zaa zmQ ?_
   refine zas zc6 hB7 hcell0 ?_
   have hK7:KAt w3 w7 b c:=⟨F,kc,hr,zon hB7,hB7.lt⟩
   refine (zqN hK7 hx7 hc rfl he2 hm7 hl7 (by omega) (by omega) ?_).mono ?_
   · intro i hi hne j hj
     rcases (hmk7 i).1 hi with ⟨h1,p,h2,h3⟩ | h
     · have hil:=zdF hc h1 hj
       exact (hmk7 j).2 (.inl ⟨hil.1,p,h2,zqT h3 hj⟩)
     exact absurd h hne
   rintro _ w8 ⟨rfl,hc8,hM8⟩
   have hset:(zcs c.ins.length fun i=>mkd ms7 i∨RP (zaD c) (eN c k) i)=zcs c.ins.length fun i=>∃ p,p<k+1∧zca c p i:=za9 fun i hi=>by
     rw [hmk7]
     constructor
     · rintro ((⟨_,p,h2,h3⟩ | h) | h)
       · exact ⟨p,by omega,h3⟩
       · exact ⟨k,by omega,.inl h⟩
       exact ⟨k,by omega,.inr h⟩
     rintro ⟨p,h2,h3⟩
     by_cases e:p=k
     · subst e
       rcases h3 with h3 | h3
       · exact .inl (.inr h3)
       exact .inr h3
     exact .inl (.inl ⟨hi,p,by omega,h3⟩)
   rw [hset] at hM8
   refine zaf (by omega) ?_
   exact ⟨mk-1,by omega,k+1,by omega,rfl,by omega,hx7.chgI hc8 (by omega),hB7.chgI hc8 (by omega),hM8⟩
 have hke:k=c.procs.length:=by omega
 have hal:(zcs c.ins.length fun i=>∃ p,p<k∧zca c p i)=zcs c.ins.length (ziH c):=by rw [hke];rfl
 rw [hal] at hM6
 have HW:WB w3 w6 b 180 c kc m (.slice none 0 0) (.slice none 0 0) (.slice none 0 0) (.int .i64 0) (.int .i64 0):=⟨hx6,hB6,⟨F,hr⟩,hM6,by omega,by omega,by omega⟩
 refine (zl6 HW hc).mono ?_
 rintro _ w7 ⟨rfl,g6,g7,g8,H7⟩
 refine (zl7 H7 hc).mono ?_
 rintro _ w8 ⟨rfl,H8⟩
 exact ⟨hx1.trans (hx3.trans H8.wb.ext),.inr ⟨hc,b,rfl,H8.wat h8.1⟩⟩
def F110 (a0:Value) (w:World) (R:VW):Prop:=
 cL 119 [a0] w fun x11 w=>
 cL 118 [a0,x11] w fun x14 w=>
 NIL a0 <|
 rF 180 a0 0 w fun x17=>
 rF 28 x17 4 w fun x18=>
 rL 26 x18 w fun x19=>
 rN 26 3 x19 w fun x20=>
 LOOPI [5,21] [(Value.slice none 0 0),(iV 0)] w fun u5 w next5=>
 rC (u5 21) x20 w fun x22=>
 BR x22
 (rX 26 x19 (u5 21) w fun x24=>
 rL 77 x24 w fun x25=>
 oP (Instr.alloc 77 true (.tuple #[])) w fun x7 w=>
 oS 77 x7 x25 w fun w=>
 rF 77 x7 0 w fun x26=>
 rL 3 x26 w fun x27=>
 rB .neq 3 T0 U0 x27 (iV 6) w fun x28=>
 BR x28
 (rA (u5 21) (iV 1) w fun x55=>
 next5 [(u5 5),x55] w)
 (rX 135 x11 (u5 21) w fun x32=>
 rL 4 x32 w fun x33=>
 rD (Op.unary .not x33) w fun x34=>
 BR x34
 (rA (u5 21) (iV 1) w fun x55=>
 next5 [(u5 5),x55] w)
 (rX 25 x14 (u5 21) w fun x38=>
 rL 3 x38 w fun x39=>
 cL 97 [x39] w fun x40 w=>
 rN 25 3 x40 w fun x41=>
 LOOPI [5,42] [(u5 5),(iV 0)] w fun u9 w next9=>
 rC (u9 42) x41 w fun x43=>
 BR x43
 (rX 25 x40 (u9 42) w fun x44=>
 rL 3 x44 w fun x45=>
 rF 77 x7 1 w fun x48=>
 rL 3 x48 w fun x49=>
 rD (Instr.build 72 #[(0,x45),(1,x49),(2,(u5 21))]) w fun x51=>
 oP (Instr.buildSlice 65 1 #[(0,x51)]) w fun x52 w=>
 oP (Builtin.append_ #[65,65] 65 [(u9 5),x52].toArray) w fun x53 w=>
 rA (u9 42) (iV 1) w fun x54=>
 next9 [x53,x54] w)
 (rA (u5 21) (iV 1) w fun x55=>
 next5 [(u9 5),x55] w))))
 (cL 173 [(u5 5),(Value.func (.func 174) #[] #[])] w fun x57 w=>
 R (u5 5) w)
def cfg110:Cfg:=⟨extL,[],[(5,72057594035831520,[5,21]),(9,36024398972453408,[5,42])],[],[],[],[]⟩
theorem F110_call {a0:Value} {w:World} {R:VW} (h:F110 a0 w R):cL 110 [a0] w R:=co (g:=cfg110) Tryz.func110 (by kernel_rfl) (by kernel_rfl) (by kernel_rfl) h
open Rep (rep)
theorem ztt {w:World} {a b d:Int} (ha:I64 a) (hb:I64 b) (hd:I64 d):Is w (.agg #[.int .i64 a,.int .i64 b,.int .i64 d]) (⟨a,b,d⟩:DOrder):=
 ⟨[],_,⟨[],[],[.int .i64 a],_,rfl,rfl,⟨rfl,rfl,ha⟩,⟨[],[],[.int .i64 b],_,rfl,rfl,⟨rfl,rfl,hb⟩,⟨rfl,rfl,hd⟩⟩⟩,rfl⟩
structure OI (wb w:World) (out:Value) (L:List DOrder):Prop where
 ext:Ext wb w
 row:∃ lo hi,wb.heap.size≤lo∧hi≤w.heap.size∧RowI lo hi 72 w out L
theorem OI.step {wb w w':World} {out:Value} {L:List DOrder} (h:OI wb w out L) (hx:Ext w w'):OI wb w' out L:=by
 obtain ⟨lo,hi,h1,h2,hr⟩:=h.row
 exact ⟨h.ext.trans hx,lo,hi,h1,Nat.le_trans h2 hx.size,hr.ext hx⟩
theorem OI.own {wb w:World} {out:Value} {L:List DOrder} (h:OI wb w out L):Own wb.heap.size w out L:=by
 obtain ⟨lo,hi,h1,h2,hr⟩:=h.row
 exact hr.own.own.mono (by omega)
theorem ziX {w W0:World} {b:Nat} {c:DCode} (hW:WAt W0 b c) (e0:Ext W0 w) (hc:CodeR c) :
   CALL Tryz.prog 110 [.pointer (some ⟨b,0,none⟩)] w fun r w'=>Ext w w'∧Own w.heap.size w' r (zdp c):=by
 refine F110_call ?_
 unfold F110
 have hil:=hc.f.ins
 have hcode:=hW.wl.code
 refine (ztk hW e0 hc).mono ?_
 rintro v11 w1 ⟨hx1,ho1⟩
 refine (ztp hW (e0.trans hx1) ho1.is (Ext.refl _) hc).mono ?_
 rintro v14 w2 ⟨hx2,ho2⟩
 have hx12:=hx1.trans hx2
 have hMe:=ho1.is.ext hx2
 have hMa:=ho2.is
 have hs12:=hx12.size
 refine NIL.mk rfl ?_
 refine zaa zcd ?_
 refine zaa zaR ?_
 refine zab zdz (zao hcode) (e0.trans hx12) fun v19 h19=>?_
 refine zae u26 h19 ?_
 have hml:(zgJ c).length=c.ins.length:=by unfold zgJ;rw [zau]
 have hbl:=zsD c
 have hO0:OI w2 w2 (.slice none 0 0) (zmx c 0):=⟨Ext.refl _,w2.heap.size,w2.heap.size,Nat.le_refl _,Nat.le_refl _,zdh _ _ _ _⟩
 refine zat c.ins.length (fun k us w'=>∃ out,us=[out,.int .i64 (k:Int)]∧k≤c.ins.length∧OI w2 w' out (zmx c k)) 0 (Nat.zero_le _) ⟨_,rfl,Nat.zero_le _,hO0⟩ ?_
 rintro k mk u w3 hkm ⟨out,hu,hkl,hO3⟩
 obtain ⟨hu1,hu2⟩:=zdY hu
 rw [hu1,hu2]
 have hsuc:zmx c (k+1)=zmx c k++zpH c k:=zfy k
 have hblk:=hbl k
 refine zah ?_
 refine br (fun hlt=>?_) (fun hge=>?_)
 case refine_2=>
   have hke:k=c.ins.length:=by omega
   rw [hke] at hO3 hblk
   obtain ⟨lo,hi,h1,h2,hr⟩:=hO3.row
   refine (zsA hr.own (by omega)).mono ?_
   rintro _ w4 ⟨hc4,ho4⟩
   rw [zrd hc] at ho4
   exact ⟨(hx12.trans hO3.ext).chgI hc4 (by omega),ho4.own.mono (by omega)⟩
 have hk:k<c.ins.length:=by omega
 refine zac u26 zec h19 hk fun b3 o3 hA3=>?_
 rw [zaS] at hA3
 refine zab zec hA3 ((e0.trans hx12).trans hO3.ext) fun v25 h25=>?_
 refine zcc zrK rfl zec rfl h25 ((e0.trans hx12).trans hO3.ext) fun w4 hx4 hAI hV4=>?_
 have hO4:=hO3.step hx4
 have hgl:w3.heap.size<w4.heap.size:=hV4.lt
 have hAB4:=ze5 h25 hV4 rfl
 have hmk:=zbk (ms:=zgJ c) (i:=k) (by rw [hml];exact hk)
 have hiff:(zgJ c)[k]=true↔MetP c k:=by
   rw [←hmk];unfold zgJ;rw [zbr];exact ⟨fun h=>h.2,fun h=>⟨by omega,h⟩⟩
 refine zaa zbM ?_
 refine zad ty3 (zax hAI) (Ext.refl _) fun _=>?_
 refine zaW ?_
 have hno:¬(MetP c k∧(zam c k).op=6)→zmx c (k+1)=zmx c k:=fun h=>by
   rw [hsuc];unfold zpH;rw [if_neg h,List.append_nil]
 refine br (fun hne=>?_) (fun heq=>?_)
 · refine zaf (by omega) ?_
   exact ⟨mk-1,by omega,k+1,by omega,out,rfl,by omega,by rw [hno fun h=>hne h.2];exact hO4⟩
 have h6:(zam c k).op=6:=Decidable.not_not.1 heq
 refine zac zdX ty4 (i:=k) hMe (by rw [hml];exact hk) fun b4 o4 hA4=>?_
 refine za3 ty4 hA4 hO4.ext ?_
 refine zaC ?_
 refine zbH (fun hf=>?_) (fun hf=>?_)
 · have hnm:¬MetP c k:=fun h=>by rw [hiff.2 h] at hf;cases hf
   refine zaf (by omega) ?_
   exact ⟨mk-1,by omega,k+1,by omega,out,rfl,by omega,by rw [hno fun h=>hnm h.1];exact hO4⟩
 have hMk:MetP c k:=hiff.1 (by simpa using hf)
 have hag:=(zdg hc hk (.inl h6)).1
 have hA:zpH c k=(zbo (zaK (zkV c) k)).map (ztn c k):=by unfold zpH;rw [if_pos ⟨hMk,h6⟩]
 rw [hA] at hsuc
 refine zac u25 ty3 (i:=k) hMa (by rw [zag,zgB];exact hk) fun b5 o5 hA5=>?_
 rw [zbz] at hA5
 refine zad ty3 hA5 hO4.ext fun _=>?_
 have hm64:=zf1 (zqU c) k
 generalize hmm:zaK (zkV c) k=m at *
 refine (ziE (m:=m) (by omega)).mono ?_
 rintro v40 w5 ⟨hx5,ho5⟩
 have hO5:=hO4.step hx5
 have hBl:=zez m 64
 have hbL:(zbo m).length≤64:=hBl
 refine zae u25 ho5.is ?_
 obtain ⟨Fb,hmb,hFb⟩:=ho5
 have hs5:=hx5.size
 have hlb:=hmb.lt
 refine zat (zbo m).length (fun j us w'=>∃ out',us=[out',.int .i64 (j:Int)]∧j≤(zbo m).length∧Ext w2 w'∧w5.heap.size≤w'.heap.size∧Mine Fb w' v40 (zbo m)∧AtB W0 w' w3.heap.size 0 (zam c k)∧∃ lo hi,w2.heap.size≤lo∧hi≤w'.heap.size∧RowI lo hi 72 w' out' (zmx c k++((zbo m).take j).map (ztn c k))∧(w3.heap.size<lo∨hi≤w3.heap.size)∧∀ b∈Fb,b<lo∨hi≤b) 0 (Nat.zero_le _) ⟨out,rfl,Nat.zero_le _,hO5.ext,Nat.le_refl _,hmb,hAB4.ext hx5,?_⟩ ?_
 · obtain ⟨lo,hi,h1,h2,hr⟩:=hO3.row
   refine ⟨lo,hi,h1,by omega,by simpa using (hr.ext (hx4.trans hx5)),.inr h2,fun b hb=>.inr ?_⟩
   have:=hFb b hb
   omega
 rintro j mj u6 w6 hjm ⟨out6,hu6,hjl,hx26,hs56,hM6,hAB6,lo,hi,h1,h2,hr6,hd3,hdb⟩
 obtain ⟨hu61,hu62⟩:=zdY hu6
 rw [hu61,hu62]
 refine zah ?_
 refine br (fun hlt6=>?_) (fun hge6=>?_)
 case refine_2=>
   refine zaf (by omega) ?_
   refine ⟨mk-1,by omega,k+1,by omega,out6,rfl,by omega,?_⟩
   rw [hsuc]
   rw [List.take_of_length_le (by omega)] at hr6
   exact ⟨hx26,lo,hi,h1,h2,hr6⟩
 have hj:j<(zbo m).length:=by omega
 refine zac u25 ty3 (i:=j) hM6.is hj fun b6 o6 hA6=>?_
 refine zad ty3 hA6 (Ext.refl _) fun _=>?_
 have hAI6:=hAB6.at ((e0.trans hx12).trans hx26)
 refine zaa zcW ?_
 refine zad ty3 (zaX hAI6) (Ext.refl _) fun _=>?_
 refine zaQ (cells:=#[.int .i64 (zbo m)[j],.int .i64 (zam c k).arg,.int .i64 (k:Int)]) (by kernel_rfl) ?_
 obtain ⟨l,hl,hbit⟩:=(zlY hm64).1 (List.getElem_mem hj)
 have hl6:=zfe hm64 hbit
 have hW:ztn c k (zbo m)[j]=⟨(zbo m)[j],(zam c k).arg,k⟩:=by unfold ztn;rw [hag]
 have hag6:=(zdg hc hk (.inl h6)).2.2
 have hlen:(zmx c k++((zbo m).take j).map (ztn c k)).length≤200000:=by
   simp only [List.length_append,List.length_map,List.length_take];omega
 refine zex (x:=(⟨(zbo m)[j],(zam c k).arg,k⟩:DOrder)) u65 zj1 z72 zvv (by decide) hr6 (lo2:=0) (hi2:=0) (zhO (ztt (by unfold I64;omega) (by unfold I64;omega) (by unfold I64;omega))) (by rw [zan];omega) (by omega) fun v' w' lo' hi' hc7 hr' hd7=>?_
 have hs7:=hc7.size
 have hs26:=hx26.size
 refine zaf (by omega) ?_
 refine ⟨mj-1,by omega,j+1,by omega,v',rfl,by omega,hx26.chgI hc7 h1,by omega,hM6.keep fun b hb=>?_,hAB6.keep ?_,lo',hi',by omega,by omega,?_,by omega,fun b hb=>?_⟩
 · exact hc7.block b (hM6.lt b hb) (hdb b hb)
 · exact hc7.block _ (by omega) hd3
 · rw [List.take_succ_eq_append_getElem hj,List.map_append,←List.append_assoc]
   simp only [List.map_cons,List.map_nil]
   rw [hW];exact hr'
 have:=hdb b hb
 have:=hM6.lt b hb
 omega
def F111 (a0:Value) (w:World) (R:VW):Prop:=
 oP (Instr.box 28 a0) w fun x1 w=>
 oP (Instr.buildSlice 65 0 #[]) w fun x8 w=>
 rL 28 x1 w fun x9=>
 cL 176 [x9] w fun x10 w=>
 LOOPI [3,5] [x8,(iV 0)] w fun u4 w next4=>
 rF 28 x1 1 w fun x12=>
 rL 24 x12 w fun x13=>
 rN 24 3 x13 w fun x14=>
 rC (u4 5) x14 w fun x15=>
 BR x15
 (LOOPI [3,6] [(u4 3),(iV 0)] w fun u7 w next7=>
 rF 28 x1 1 w fun x19=>
 rL 24 x19 w fun x20=>
 rN 24 3 x20 w fun x21=>
 rC (u7 6) x21 w fun x22=>
 BR x22
 (LOOPI [3,7] [(u7 3),(iV 0)] w fun u10 w next10=>
 rF 28 x1 4 w fun x26=>
 rL 26 x26 w fun x27=>
 rN 26 3 x27 w fun x28=>
 rC (u10 7) x28 w fun x29=>
 BR x29
 (NIL x10 <|
 rF 188 x10 1 w fun x34=>
 rL 135 x34 w fun x35=>
 rX 135 x35 (u10 7) w fun x37=>
 rL 4 x37 w fun x38=>
 BR x38
 (rF 28 x1 4 w fun x40=>
 rL 26 x40 w fun x41=>
 rX 26 x41 (u10 7) w fun x43=>
 rF 77 x43 0 w fun x44=>
 rL 3 x44 w fun x45=>
 rB .eql 3 T0 U0 x45 (iV 6) w fun x46=>
 BR x46
 (rF 28 x1 4 w fun x49=>
 rL 26 x49 w fun x50=>
 rX 26 x50 (u10 7) w fun x52=>
 rF 77 x52 1 w fun x53=>
 rL 3 x53 w fun x54=>
 rB .eql 3 T0 T0 x54 (u7 6) w fun x56=>
 BR x56
 (NIL x10 <|
 rF 188 x10 2 w fun x61=>
 rL 25 x61 w fun x62=>
 rX 25 x62 (u10 7) w fun x64=>
 rL 3 x64 w fun x65=>
 cL 177 [x65,(u4 5)] w fun x67 w=>
 BR x67
 (rD (Instr.build 72 #[(0,(u4 5)),(1,(u7 6)),(2,(u10 7))]) w fun x73=>
 oP (Instr.buildSlice 65 1 #[(0,x73)]) w fun x74 w=>
 oP (Builtin.append_ #[65,65] 65 [(u10 3),x74].toArray) w fun x75 w=>
 rA (u10 7) (iV 1) w fun x31=>
 next10 [x75,x31] w)
 (rA (u10 7) (iV 1) w fun x31=>
 next10 [(u10 3),x31] w))
 (rA (u10 7) (iV 1) w fun x31=>
 next10 [(u10 3),x31] w))
 (rA (u10 7) (iV 1) w fun x31=>
 next10 [(u10 3),x31] w))
 (rA (u10 7) (iV 1) w fun x31=>
 next10 [(u10 3),x31] w))
 (rA (u7 6) (iV 1) w fun x24=>
 next7 [(u10 3),x24] w))
 (rA (u4 5) (iV 1) w fun x17=>
 next4 [(u7 3),x17] w))
 (R (u4 3) w)
def cfg111:Cfg:=⟨extL,[],[(4,75557863725914323417320,[3,5]),(7,75557863725914323157192,[3,6]),(10,75557863725914289864840,[3,7])],[],[],[],[]⟩
theorem F111_call {a0:Value} {w:World} {R:VW} (h:F111 a0 w R):cL 111 [a0] w R:=co (g:=cfg111) Tryz.func111 (by kernel_rfl) (by kernel_rfl) (by kernel_rfl) h
def F50 (a0:Value) (w:World) (R:VW):Prop:=
 oP (Instr.box 28 a0) w fun x1 w=>
 rL 28 x1 w fun x6=>
 cL 109 [x6] w fun x7 w=>
 rE x7 0 w fun x8=>
 rE x7 1 w fun x9=>
 rD (Op.unary .not x9) w fun x11=>
 BR x11
 (R (Value.slice none 0 0) w)
 (cL 110 [x8] w fun x13 w=>
 R x13 w)
def cfg50:Cfg:=⟨extL,[],[],[],[],[],[]⟩
theorem F50_call {a0:Value} {w:World} {R:VW} (h:F50 a0 w R):cL 50 [a0] w R:=co (g:=cfg50) Tryz.func50 (by kernel_rfl) (by kernel_rfl) (by kernel_rfl) h
def F51 (a0:Value) (w:World) (R:VW):Prop:=
 oP (Instr.box 28 a0) w fun x1 w=>
 rL 28 x1 w fun x3=>
 cL 81 [x3] w fun x4 w=>
 rD (Op.unary .not x4) w fun x5=>
 BR x5
 (oP (Instr.buildSlice 65 0 #[]) w fun x6 w=>
 R x6 w)
 (rL 28 x1 w fun x7=>
 cL 111 [x7] w fun x8 w=>
 R x8 w)
def cfg51:Cfg:=⟨extL,[],[],[],[],[],[]⟩
theorem F51_call {a0:Value} {w:World} {R:VW} (h:F51 a0 w R):cL 51 [a0] w R:=co (g:=cfg51) Tryz.func51 (by kernel_rfl) (by kernel_rfl) (by kernel_rfl) h
open Rep (rep)
theorem zl8 {w W0:World} {v0:Value} {c:DCode} (h0:Is W0 v0 c) (e0:Ext W0 w) (hc:CodeR c) :
   CALL Tryz.prog 111 [v0] w fun r w'=>Ext w w'∧Own w.heap.size w' r (zdp c):=by
 refine F111_call ?_
 unfold F111
 have hil:=hc.f.ins
 have h6l:=hc.1.locks6
 refine zbS h0 e0 fun w1 hx1 hA=>?_
 refine za1 (α:=DOrder) u65 zj1 fun a8 w2 hx2 hr2=>?_
 have hx12:=hx1.trans hx2
 refine zab zcF hA hx2 fun v9 h9=>?_
 refine (zrk h9 hx2 hc).mono ?_
 rintro _ w3 ⟨hx3,gw,rfl,hmet,hmay⟩
 have hx13:=hx12.trans hx3
 have hx23:=hx2.trans hx3
 have hs2:=hx12.size
 have hml:(zgJ c).length=c.ins.length:=by unfold zgJ;rw [zau]
 generalize hwb:w3=wb at *
 have hI0:OI wb wb (.slice (some a8) 0 0) ((List.range 0).flatMap (zgE c)):=⟨Ext.refl _,wb.heap.size,wb.heap.size,Nat.le_refl _,Nat.le_refl _,zcf _ _ _ _ _⟩
 refine zat c.locks.length (fun k us w'=>∃ out,us=[out,.int .i64 (k:Int)]∧k≤c.locks.length∧OI wb w' out ((List.range k).flatMap (zgE c))) 0 (Nat.zero_le _) ⟨_,rfl,Nat.zero_le _,hI0⟩ ?_
 rintro fr mk u w4 hkm ⟨out,hu,hkl,hO4⟩
 obtain ⟨hu1,hu2⟩:=zdY hu
 rw [hu1,hu2]
 refine zaa zdy ?_
 refine zab zc5 (zaZ hA) (hx23.trans hO4.ext) fun v13 h13=>?_
 refine zae u24 h13 ?_
 refine zah ?_
 refine br (fun hlt=>?_) (fun hge=>?_)
 case refine_2=>
   have hke:fr=c.locks.length:=by omega
   rw [hke] at hO4
   exact ⟨hx13.trans hO4.ext,hO4.own.mono (by have:=hx13.size;omega)⟩
 have hfr:fr<c.locks.length:=by omega
 refine zat c.locks.length (fun k us w'=>∃ out,us=[out,.int .i64 (k:Int)]∧k≤c.locks.length∧OI wb w' out ((List.range fr).flatMap (zgE c)++(List.range k).flatMap (ziP c fr))) 0 (Nat.zero_le _) ⟨_,rfl,Nat.zero_le _,by simpa using hO4⟩ ?_
 rintro to mk7 u7 w7 hkm7 ⟨out7,hu7,hkl7,hO7⟩
 obtain ⟨hu71,hu72⟩:=zdY hu7
 rw [hu71,hu72]
 refine zaa zdy ?_
 refine zab zc5 (zaZ hA) (hx23.trans hO7.ext) fun v20 h20=>?_
 refine zae u24 h20 ?_
 refine zah ?_
 refine br (fun hlt7=>?_) (fun hge7=>?_)
 case refine_2=>
   have hke:to=c.locks.length:=by omega
   rw [hke] at hO7
   refine zaf (by omega) ?_
   exact ⟨mk-1,by omega,fr+1,by omega,out7,rfl,by omega,by rw [zfy];exact hO7⟩
 have hto:to<c.locks.length:=by omega
 refine zat c.ins.length (fun k us w'=>∃ out,us=[out,.int .i64 (k:Int)]∧k≤c.ins.length∧OI wb w' out ((List.range fr).flatMap (zgE c)++(List.range to).flatMap (ziP c fr)++(List.range k).flatMap (zeX c fr to))) 0 (Nat.zero_le _) ⟨_,rfl,Nat.zero_le _,by simpa using hO7⟩ ?_
 rintro i mk10 u10 w10 hkm10 ⟨out10,hu10,hkl10,hO10⟩
 obtain ⟨hu101,hu102⟩:=zdY hu10
 rw [hu101,hu102]
 have hx210:=hx23.trans hO10.ext
 refine zaa zaR ?_
 refine zab zdz (zao hA) hx210 fun v27 h27=>?_
 refine zae u26 h27 ?_
 refine zah ?_
 refine br (fun hlt10=>?_) (fun hge10=>?_)
 case refine_2=>
   have hke:i=c.ins.length:=by omega
   rw [hke] at hO10
   refine zaf (by omega) ?_
   exact ⟨mk7-1,by omega,to+1,by omega,out10,rfl,by omega,by rw [zfy,←List.append_assoc];exact hO10⟩
 have hi:i<c.ins.length:=by omega
 have hsuc:(List.range fr).flatMap (zgE c)++(List.range to).flatMap (ziP c fr)++(List.range (i+1)).flatMap (zeX c fr to)=(List.range fr).flatMap (zgE c)++(List.range to).flatMap (ziP c fr)++(List.range i).flatMap (zeX c fr to)++zeX c fr to i:=by
   rw [zfy,←List.append_assoc]
 have hlen:((List.range fr).flatMap (zgE c)++(List.range to).flatMap (ziP c fr)++(List.range i).flatMap (zeX c fr to)).length≤100000:=by
   have h1:=zlX hil h6l fr
   have h2:=zlW hil fr to
   have h3:=zlV c fr to i
   simp only [List.length_append];omega
 generalize (List.range fr).flatMap (zgE c)++(List.range to).flatMap (ziP c fr)=Lp at *
 have hno:¬OrdP c fr to i→Lp++(List.range (i+1)).flatMap (zeX c fr to)=Lp++(List.range i).flatMap (zeX c fr to):=fun h=>by
   rw [hsuc];unfold zeX;rw [if_neg h,List.append_nil]
 have hyes:OrdP c fr to i→Lp++(List.range (i+1)).flatMap (zeX c fr to)=Lp++(List.range i).flatMap (zeX c fr to)++[mkO fr to i]:=fun h=>by
   rw [hsuc];congr 1;unfold zeX;rw [if_pos h]
 refine NIL.mk rfl ?_
 refine zaa zgP ?_
 refine zab zc6 hmet hO10.ext fun v35 hMe=>?_
 have hmk:=zbk (ms:=zgJ c) (i:=i) (by rw [hml];exact hi)
 have hiff:(zgJ c)[i]=true↔MetP c i:=by
   rw [←hmk];unfold zgJ;rw [zbr];exact ⟨fun h=>h.2,fun h=>⟨by omega,h⟩⟩
 refine zac zdX ty4 (i:=i) hMe (by rw [hml];exact hi) fun b4 o4 hA4=>?_
 refine za3 ty4 hA4 hO10.ext ?_
 refine zbH (fun ht=>?_) (fun hf=>?_)
 case refine_2=>
   have hnm:¬MetP c i:=fun h=>by rw [hiff.2 h] at hf;cases hf
   refine zaf (by omega) ?_
   exact ⟨mk10-1,by omega,i+1,by omega,out10,rfl,by omega,by rw [hno fun h=>hnm h.1];exact hO10⟩
 have hM:=hiff.1 ht
 refine zaa zaR ?_
 refine zab zdz (zao hA) hx210 fun v41 h41=>?_
 refine zac u26 zec h41 hi fun b3 o3 hA3=>?_
 rw [zaS] at hA3
 refine zaa zbM ?_
 refine zad ty3 (zax hA3) hx210 fun _=>?_
 refine zai ?_
 refine br (fun h6=>?_) (fun h6=>?_)
 case refine_2=>
   refine zaf (by omega) ?_
   exact ⟨mk10-1,by omega,i+1,by omega,out10,rfl,by omega,by rw [hno fun h=>h6 h.2.1];exact hO10⟩
 obtain ⟨hag,_,hag6⟩:=zdg hc hi (.inl h6)
 refine zaa zaR ?_
 refine zab zdz (zao hA) hx210 fun v50 h50=>?_
 refine zac u26 zec h50 hi fun b5 o5 hA5=>?_
 rw [zaS] at hA5
 refine zaa zcW ?_
 refine zad ty3 (zaX hA5) hx210 fun _=>?_
 refine zai ?_
 refine br (fun hto'=>?_) (fun hto'=>?_)
 case refine_2=>
   refine zaf (by omega) ?_
   exact ⟨mk10-1,by omega,i+1,by omega,out10,rfl,by omega,by rw [hno fun h=>hto' (by rw [hag,h.2.2.1])];exact hO10⟩
 refine NIL.mk rfl ?_
 refine zaa zeH ?_
 refine zab zbG hmay hO10.ext fun v62 hMa=>?_
 refine zac u25 ty3 (i:=i) hMa (by rw [zag,zgB];exact hi) fun b6 o6 hA6=>?_
 rw [zbz] at hA6
 refine zad ty3 hA6 hO10.ext fun _=>?_
 have hm64:=zf1 (zqU c) i
 refine (zsn (m:=zaK (zkV c) i) (i:=fr) (by omega) (by omega)).mono ?_
 rintro _ w11 ⟨hx11,rfl⟩
 have hbit:(zaK (zkV c) i).testBit fr=true↔MayP c i fr:=by
   rw [zkw hi,zqS];exact ⟨fun h=>h.2,fun h=>⟨by omega,h⟩⟩
 have hO11:=hO10.step hx11
 refine zbH (fun hb=>?_) (fun hb=>?_)
 case refine_2=>
   refine zaf (by omega) ?_
   exact ⟨mk10-1,by omega,i+1,by omega,out10,rfl,by omega,by rw [hno fun h=>by rw [hbit.2 h.2.2.2] at hb;cases hb];exact hO11⟩
 have hP:OrdP c fr to i:=⟨hM,h6,by omega,hbit.1 hb⟩
 refine zaQ (cells:=#[.int .i64 fr,.int .i64 to,.int .i64 i]) (by kernel_rfl) ?_
 obtain ⟨lo,hi',h1,h2,hr⟩:=hO11.row
 refine zex (x:=(mkO fr to i:DOrder)) u65 zj1 z72 zvv (by decide) hr (lo2:=0) (hi2:=0) (zhO (ztt (by unfold I64;omega) (by unfold I64;omega) (by unfold I64;omega))) (by rw [zan];omega) (by omega) fun v' w' lo' hi2' hc7 hr' hd7=>?_
 have hs7:=hc7.size
 have hs11:=hO11.ext.size
 refine zaf (by omega) ?_
 refine ⟨mk10-1,by omega,i+1,by omega,v',rfl,by omega,hO11.ext.chgI hc7 h1,lo',hi2',by omega,by omega,?_⟩
 rw [hyes hP];exact hr'
open Classical in
noncomputable def zaJ (c:DCode):List DOrder:=if CodeR c then zdp c else []
theorem ziY (c:DCode):(zaJ c).length≤54000:=by
 unfold zaJ;split
 · rename_i h;exact zkD h
 simp
theorem zdW {w W0:World} {v0:Value} {c:DCode} (h0:Is W0 v0 c) (e0:Ext W0 w) :
   CALL Tryz.prog 50 [v0] w fun r w'=>Ext w w'∧Own w.heap.size w' r (zaJ c):=by
 refine F50_call ?_
 unfold F50
 refine zbS h0 e0 fun w1 hx1 hA=>?_
 refine zab zcF hA (Ext.refl _) fun v6 h6=>?_
 refine (zfB h6 (Ext.refl _)).mono ?_
 rintro r7 w2 ⟨hx2,hr⟩
 have hs1:=hx1.size
 have hs2:=hx2.size
 rcases hr with ⟨hn,rfl⟩ | ⟨hc,b,rfl,hW⟩
 · refine zaO rfl ?_
   refine zaO rfl ?_
   refine zaC ?_
   refine zbH (fun _=>?_) (fun h=>by cases h)
   refine ⟨hx1.trans hx2,?_⟩
   unfold zaJ;rw [if_neg hn]
   exact zhW rfl
 refine zaO rfl ?_
 refine zaO rfl ?_
 refine zaC ?_
 refine zbH (fun h=>by cases h) (fun _=>?_)
 refine (ziX hW (Ext.refl _) hc).mono ?_
 rintro v13 w3 ⟨hx3,ho3⟩
 refine ⟨hx1.trans (hx2.trans hx3),?_⟩
 unfold zaJ;rw [if_pos hc]
 exact ho3.mono (by omega)
theorem ziZ {w W0:World} {v0:Value} {c:DCode} (h0:Is W0 v0 c) (e0:Ext W0 w) :
   CALL Tryz.prog 51 [v0] w fun r w'=>Ext w w'∧Own w.heap.size w' r (zaJ c):=by
 refine F51_call ?_
 unfold F51
 refine zbS h0 e0 fun w1 hx1 hA=>?_
 refine zab zcF hA (Ext.refl _) fun v3 h3=>?_
 refine (zgl h3 (Ext.refl _)).mono ?_
 rintro _ w2 ⟨hx2,rfl⟩
 have hs1:=hx1.size
 have hs2:=hx2.size
 refine zaA ?_
 refine br (fun hn=>?_) (fun hy=>?_)
 · refine za1 (α:=DOrder) u65 zj1 fun a8 w3 hx3 hr3=>?_
   refine ⟨hx1.trans (hx2.trans hx3),?_⟩
   unfold zaJ;rw [if_neg hn]
   exact hr3.own.own.mono (by have:=hx3.size;omega)
 have hc:=Decidable.not_not.1 hy
 refine zab zcF hA hx2 fun v7 h7=>?_
 refine (zl8 h7 hx2 hc).mono ?_
 rintro v8 w3 ⟨hx3,ho3⟩
 refine ⟨hx1.trans (hx2.trans hx3),?_⟩
 unfold zaJ;rw [if_pos hc]
 exact ho3.mono (by omega)
theorem zgH {l:List Int} {k:Nat} {y:Int} (hk:k<l.length) (h:y∉l.take k) (c:¬l[k]=y):y∉l.take (k+1):=by
 rw [List.take_succ_eq_append_getElem hk]
 simp only [List.mem_append,List.mem_cons,List.not_mem_nil,or_false,not_or]
 exact ⟨h,fun e=>c e.symm⟩
def F189 (a0 a1:Value) (w:World) (R:VW):Prop:=
 rN 25 3 a0 w fun x7=>
 LOOPI [8] [(iV 0)] w fun u2 w next2=>
 rC (u2 8) x7 w fun x9=>
 BR x9
 (rX 25 a0 (u2 8) w fun x14=>
 rL 3 x14 w fun x15=>
 rB .eql 3 T0 T0 a1 x15 w fun x16=>
 BR x16
 (R (u2 8) w)
 (rA (u2 8) (iV 1) w fun x18=>
 next2 [x18] w))
 (R (iV (-1)) w)
def cfg189:Cfg:=⟨extL,[],[(2,524080,[8])],[],[],[],[]⟩
theorem F189_call {a0 a1:Value} {w:World} {R:VW} (h:F189 a0 a1 w R):cL 189 [a0,a1] w R:=co (g:=cfg189) Tryz.func189 (by kernel_rfl) (by kernel_rfl) (by kernel_rfl) h
theorem znq {w:World} {v0:Value} {W0:World} {l:(List Int)} {y:Int}  (h0:Is W0 v0 l) (e0:Ext W0 w)  :
   CALL Tryz.prog 189 [v0,.int .i64 y] w fun r w'=>Ext w w'∧(∃ n:Int,r=.int .i64 n∧(0≤n↔y∈l)):=by
 refine F189_call ?_
 unfold F189
 have hln7:=zaj h0
 refine zae u25 h0 ?_
 refine zat (l.length) (fun k us w'=>us=[.int .i64 (k:Int)]∧Ext w w'∧(y∉l.take k)) (0) (by omega) ⟨by simp,Ext.refl w,by simp⟩ ?_
 rintro k m2 uu2 w1_ hk2 ⟨hu,hx1_,hinv⟩
 simp only [List.map_cons,List.map_nil,List.cons.injEq,and_true] at hu
 try rw [hu]
 try clear hu
 refine zah ?_
 refine br (fun c1=>?_) (fun c1=>?_)
 · refine zac u25 ty3 h0 (by omega) fun b14 o14 h14=>?_
   refine zad ty3 h14 (e0.trans hx1_) fun hI15=>?_
   refine zai ?_
   refine br (fun c2=>?_) (fun c2=>?_)
   · refine ⟨hx1_,?_⟩
     have:y∈l:=c2▸List.getElem_mem _
     exact ⟨_,rfl,by simp [this]⟩
   refine zaf (by omega) ?_
   refine ⟨m2-1,by omega,k+1,by omega,by simp,hx1_,?_⟩
   exact zgH (by omega) hinv (fun e=>c2 e.symm)
 refine ⟨hx1_,?_⟩
 rw [List.take_of_length_le (by omega)] at hinv
 exact ⟨-1,rfl,by simp [hinv]⟩
def F120 (a0 a1:Value) (w:World) (R:VW):Prop:=
 cL 189 [a0,a1] w fun x7 w=>
 rB .geq 3 T0 U0 x7 (iV 0) w fun x8=>
 R x8 w
def cfg120:Cfg:=⟨extL,[],[],[],[],[],[]⟩
theorem F120_call {a0 a1:Value} {w:World} {R:VW} (h:F120 a0 a1 w R):cL 120 [a0,a1] w R:=co (g:=cfg120) Tryz.func120 (by kernel_rfl) (by kernel_rfl) (by kernel_rfl) h
theorem zfL {w:World} {v0:Value} {W0:World} {l:(List Int)} {y:Int}  (h0:Is W0 v0 l) (e0:Ext W0 w)  :
   CALL Tryz.prog 120 [v0,.int .i64 y] w fun r w'=>Ext w w'∧(r=.bool (decide (y∈l))):=by
 refine F120_call ?_
 unfold F120
 refine (znq h0 e0).mono ?_
 rintro _ w1_ ⟨hx1_,n7,rfl,hn7⟩
 refine zbF ?_
 refine ⟨hx1_,?_⟩
 simp [hn7]
def F121 (a0:Value) (w:World) (R:VW):Prop:=
 rN 135 3 a0 w fun x7=>
 LOOPI [3,8] [(Value.slice none 0 0),(iV 0)] w fun u3 w next3=>
 rC (u3 8) x7 w fun x9=>
 BR x9
 (rX 135 a0 (u3 8) w fun x11=>
 rL 4 x11 w fun x12=>
 BR x12
 (oP (Instr.buildSlice 25 1 #[(0,(u3 8))]) w fun x16 w=>
 oP (Builtin.append_ #[25,25] 25 [(u3 3),x16].toArray) w fun x17 w=>
 rA (u3 8) (iV 1) w fun x18=>
 next3 [x17,x18] w)
 (rA (u3 8) (iV 1) w fun x18=>
 next3 [(u3 3),x18] w))
 (R (u3 3) w)
def cfg121:Cfg:=⟨extL,[],[(3,524088,[3,8])],[],[],[],[]⟩
theorem F121_call {a0:Value} {w:World} {R:VW} (h:F121 a0 w R):cL 121 [a0] w R:=co (g:=cfg121) Tryz.func121 (by kernel_rfl) (by kernel_rfl) (by kernel_rfl) h
def F60 (a0 a1:Value) (w:World) (R:VW):Prop:=
 oP (Instr.box 28 a0) w fun x2 w=>
 rF 28 x2 4 w fun x8=>
 rL 26 x8 w fun x9=>
 rN 26 3 x9 w fun x10=>
 oP (Instr.makeSlice 135 x10 x10) w fun x11 w=>
 rL 28 x2 w fun x12=>
 cL 50 [x12] w fun x13 w=>
 rN 65 3 x13 w fun x14=>
 LOOPI [15] [(iV 0)] w fun u3 w next3=>
 rC (u3 15) x14 w fun x16=>
 BR x16
 (rX 65 x13 (u3 15) w fun x17=>
 rL 72 x17 w fun x18=>
 oP (Instr.alloc 72 true (.tuple #[])) w fun x7 w=>
 oS 72 x7 x18 w fun w=>
 rF 72 x7 0 w fun x20=>
 rL 3 x20 w fun x21=>
 cL 120 [a1,x21] w fun x22 w=>
 BR x22
 (rF 72 x7 1 w fun x25=>
 rL 3 x25 w fun x26=>
 cL 120 [a1,x26] w fun x27 w=>
 BR x27
 (rF 72 x7 2 w fun x30=>
 rL 3 x30 w fun x31=>
 rX 135 x11 x31 w fun x32=>
 oS 4 x32 (Value.bool true) w fun w=>
 rA (u3 15) (iV 1) w fun x33=>
 next3 [x33] w)
 (rA (u3 15) (iV 1) w fun x33=>
 next3 [x33] w))
 (rA (u3 15) (iV 1) w fun x33=>
 next3 [x33] w))
 (cL 121 [x11] w fun x35 w=>
 R x35 w)
def cfg60:Cfg:=⟨extL,[],[(3,17179836544,[15])],[],[],[],[]⟩
theorem F60_call {a0 a1:Value} {w:World} {R:VW} (h:F60 a0 a1 w R):cL 60 [a0,a1] w R:=co (g:=cfg60) Tryz.func60 (by kernel_rfl) (by kernel_rfl) (by kernel_rfl) h
open Rep (rep)
def zrp (L:List DOrder) (part:List Int) (k i:Nat):Prop:=∃ x∈L.take k,x.fr∈part∧x.to∈part∧x.at_=(i:Int)
theorem zl9 {L:List DOrder} {part:List Int} {k i:Nat} (hk:k<L.length):zrp L part (k+1) i↔zrp L part k i∨(L[k].fr∈part∧L[k].to∈part∧L[k].at_=(i:Int)):=by
 unfold zrp
 rw [List.take_succ_eq_append_getElem hk]
 constructor
 · rintro ⟨x,hx,h⟩
   rcases List.mem_append.1 hx with hx | hx
   · exact .inl ⟨x,hx,h⟩
   simp only [List.mem_cons,List.not_mem_nil,or_false] at hx
   subst hx;exact .inr h
 rintro (⟨x,hx,h⟩ | h)
 · exact ⟨x,List.mem_append.2 (.inl hx),h⟩
 exact ⟨_,List.mem_append.2 (.inr (by simp)),h⟩
noncomputable def zma (c:DCode) (part:List Int):List Int:=zaI (zby c.ins.length (zrp (zaJ c) part (zaJ c).length))
theorem zmb {n:Nat} {p:Nat→Prop} (h:∀ i,¬p i):zby n p=[]:=by
 rw [←zey]
 unfold zqO
 rw [List.filter_eq_nil_iff]
 intro i hi hb
 exact h i (zbr.1 hb).2
theorem znr {c:DCode} {part:List Int} (hc:¬CodeR c):zma c part=[]:=by
 unfold zma zaJ
 rw [if_neg hc,zmb]
 · rfl
 rintro i ⟨x,hx,_⟩;simp at hx
theorem zpf {c:DCode} (hc:CodeR c) {k:Nat} (hk:k<(zaJ c).length):∃ fr to i:Nat,(zaJ c)[k]=mkO fr to i∧fr<6∧to<6∧i<c.ins.length:=by
 have hm:(zaJ c)[k]∈zaJ c:=List.getElem_mem _
 generalize (zaJ c)[k]=x at hm ⊢
 unfold zaJ at hm
 rw [if_pos hc] at hm
 obtain ⟨fr,to,i,h,e⟩:=(zea hc).1 hm
 have h6:=hc.1.locks6
 have h1:=h.2.2.2.locks hc
 have hi:=h.1.lt hc
 have h2:=(zdg hc hi (.inl h.2.1)).2.1
 have h3:=h.2.2.1
 exact ⟨fr,to,i,e,by omega,by omega,hi⟩
theorem zmc {w W0:World} {v0:Value} {ms:List Bool} (h0:Is W0 v0 ms) (e0:Ext W0 w) (hn:ms.length≤2000000) :
   CALL Tryz.prog 121 [v0] w fun r w'=>Ext w w'∧Own w.heap.size w' r (zaI (zqO ms ms.length)):=by
 refine F121_call ?_
 unfold F121
 refine zae zdX h0 ?_
 refine zat ms.length (fun k us w'=>∃ (v:Value),us=[v,.int .i64 (k:Int)]∧k≤ms.length∧Ext w w'∧RowI w.heap.size w'.heap.size 3 w' v (zaI (zqO ms k))) 0 (Nat.zero_le _) ⟨_,rfl,Nat.zero_le _,Ext.refl _,zdh _ _ _ _⟩ ?_
 rintro k mk u w2 hkm ⟨v,hu,hkl,hx2,hr2⟩
 obtain ⟨hu1,hu2⟩:=zdY hu
 rw [hu1,hu2]
 refine zah ?_
 refine br (fun hlt=>?_) (fun hge=>?_)
 case refine_2=>
   have:k=ms.length:=by omega
   rw [this] at hr2
   exact ⟨hx2,hr2.own.own⟩
 have hk:k<ms.length:=by omega
 have hs2:=hx2.size
 have hg:ms.getD k false=ms[k]:=by rw [List.getD_eq_getElem?_getD,List.getElem?_eq_getElem hk];rfl
 have hil:=zob ms k
 refine zac zdX ty4 h0 hk fun b2 o2 hA2=>?_
 refine za3 ty4 hA2 (e0.trans hx2) ?_
 refine zbH (fun hf=>?_) (fun hf=>?_)
 · refine zct (lo2:=w2.heap.size) (hi2:=w2.heap.size) (x:=(k:Int)) u25 ty3 z3 zc3 (by decide) hr2 hs2 (zdo _ _ (by unfold I64;omega)) (Nat.le_refl _) hs2 (by rw [zan,zag];omega) (by rw [zag];omega) fun v54 w9 hc9 hr9=>?_
   refine zaf (by omega) ?_
   refine ⟨mk-1,by omega,k+1,by omega,v54,rfl,by omega,hx2.chgI hc9 (Nat.le_refl _),?_⟩
   rw [zgy,hg,hf,if_pos rfl,zbE]
   exact hr9
 refine zaf (by omega) ?_
 refine ⟨mk-1,by omega,k+1,by omega,v,rfl,by omega,hx2,?_⟩
 rw [zgy,hg,hf]
 simpa using hr2
theorem zrq {n:Nat} {L:List DOrder} {part:List Int}:List.replicate n false=zcs n (zrp L part 0):=
 zcy n fun i=>by rintro ⟨x,hx,_⟩;simp at hx
theorem zrr {n k:Nat} {L:List DOrder} {part:List Int} (hk:k<L.length) (h:¬(L[k].fr∈part∧L[k].to∈part)):zcs n (zrp L part (k+1))=zcs n (zrp L part k):=by
 refine congrArg (zcs n) (funext fun i=>propext ?_)
 rw [zl9 hk]
 exact ⟨fun e=>e.resolve_right fun e=>h ⟨e.1,e.2.1⟩,.inl⟩
theorem zug {n k i:Nat} {L:List DOrder} {part:List Int} (hk:k<L.length) (h:L[k].fr∈part∧L[k].to∈part) (hi:L[k].at_=(i:Int)) (hin:i<n):(zcs n (zrp L part k)).set i true=zcs n (zrp L part (k+1)):=
 zoc hin fun j=>by
   rw [zl9 hk,hi]
   exact or_congr Iff.rfl ⟨fun e=>by omega,fun e=>⟨h.1,h.2,by rw [e]⟩⟩
theorem zrs (c:DCode):c.ins.length≤zqg c:=by unfold zqg zu9;omega
theorem zje {w W0 W1:World} {v0 v1:Value} {c:DCode} {part:List Int} (h0:Is W0 v0 c) (e0:Ext W0 w) (h1:Is W1 v1 part) (e1:Ext W1 w) (hw:zqg c≤1048576) :
   CALL Tryz.prog 60 [v0,v1] w fun r w'=>Ext w w'∧Own w.heap.size w' r (zma c part):=by
 refine F60_call ?_
 unfold F60
 have hiw:=zrs c
 refine zbS h0 e0 fun w1 hx1 hA=>?_
 refine zaa zaR ?_
 refine zab zdz (zao hA) (Ext.refl _) fun v9 h9=>?_
 refine zae u26 h9 ?_
 have hs1:=hx1.size
 by_cases hc:CodeR c
 case neg=>
   refine zeM (α:=Bool) zdX ty4 rfl rfl zt3 (by omega) (by omega) fun w2 hx2 hr2=>?_
   have hs2:=hx2.size
   refine zab zcF hA hx2 fun v12 h12=>?_
   refine (zdW h12 hx2).mono ?_
   rintro v13 w3 ⟨hx3,ho3⟩
   have hol:zaJ c=[]:=by unfold zaJ;rw [if_neg hc]
   rw [hol] at ho3
   refine zae u65 ho3.is ?_
   refine zat 0 (fun k us w'=>us=[.int .i64 (0:Int)]∧w'=w3) 0 (Nat.zero_le _) ⟨rfl,rfl⟩ ?_
   rintro k mk u w4 hkm ⟨hu,rfl⟩
   simp only [List.map_cons,List.map_nil,List.cons.injEq,and_true] at hu
   rw [hu]
   refine zah ?_
   refine br (fun hlt=>by simp at hlt) (fun hge=>?_)
   refine (zmc (ms:=List.replicate c.ins.length false) (hr2.is.ext hx3) (Ext.refl _) (by rw [List.length_replicate];omega)).mono ?_
   rintro v35 w5 ⟨hx5,ho5⟩
   have hs3:=hx3.size
   have:zqO (List.replicate c.ins.length false) (List.replicate c.ins.length false).length=[]:=by
     rw [zcy (p:=fun _=>False) _ (fun _ h=>h),zau,zey,zmb fun _ h=>h]
   refine ⟨hx1.trans (hx2.trans (hx3.trans hx5)),?_⟩
   rw [znr hc]
   rw [this] at ho5
   exact ho5.mono (by omega)
 have hil:=hc.f.ins
 have hlr:=ziY c
 have hin0:0<c.ins.length:=by
   have:=hc.1.procs8
   have:=(zhw hc this.2).2.2
   omega
 refine zeP hin0 (by omega) fun w3 hx3 hM3=>?_
 have hs3:=hx3.size
 generalize hg:w1.heap.size=g at *
 have hgl:g<w3.heap.size:=hM3.lt g (by simp)
 refine zab zcF hA hx3 fun v17 h17=>?_
 refine (zdW h17 hx3).mono ?_
 rintro v18 w5 ⟨hx4,ho4⟩
 have hs5:=hx4.size
 have hM5:=hM3.ext hx4
 rw [zrq (L:=zaJ c) (part:=part)] at hM5
 have hx15:=hx3.trans hx4
 refine zae u65 ho4.is ?_
 refine zat (zaJ c).length (fun k us w'=>us=[.int .i64 (k:Int)]∧k≤(zaJ c).length∧ChgI g (g+1) w5 w'∧Mine [g] w' (.slice (some ⟨g,0,none⟩) c.ins.length c.ins.length) (zcs c.ins.length (zrp (zaJ c) part k))) 0 (Nat.zero_le _) ⟨rfl,Nat.zero_le _,ChgI.refl _,hM5⟩ ?_
 rintro k mk u w6 hkm ⟨hu,hkl,hc6,hM6⟩
 simp only [List.map_cons,List.map_nil,List.cons.injEq,and_true] at hu
 rw [hu]
 have hoI:=(ho4.toI).chg hc6 (.inr (by omega))
 have hs6:=hc6.size
 have hx06:Ext w w6:=(hx1.trans hx15).chgI hc6 (by omega)
 refine zah ?_
 refine br (fun hlt=>?_) (fun hge=>?_)
 case refine_2=>
   have hke:k=(zaJ c).length:=by omega
   rw [hke] at hM6
   refine (zmc hM6.is (Ext.refl _) (by rw [zau];omega)).mono ?_
   rintro v51 w7 ⟨hx7,ho7⟩
   rw [zau,zey] at ho7
   exact ⟨hx06.trans hx7,ho7.mono (by omega)⟩
 have hk:k<(zaJ c).length:=by omega
 obtain ⟨fr,to,i,hx,hfr,hto,hi⟩:=zpf hc hk
 refine zac u65 zj1 hoI.is hk fun b2 o2 hA2=>?_
 refine zab zj1 hA2 (Ext.refl _) fun v18 h18=>?_
 rw [hx] at h18
 refine zcc zvf rfl zj1 rfl h18 (Ext.refl _) fun w7 hx7 hAO hV7=>?_
 have hc7:=hc6.trans hx7.toI
 have hM7:=hM6.ext hx7
 have e7:=e1.trans (hx06.trans hx7)
 refine zaa zh3 ?_
 refine zad ty3 (zdT hAO) (Ext.refl _) fun _=>?_
 refine (zfL (l:=part) (y:=(fr:Int)) h1 e7).mono ?_
 rintro _ w8 ⟨hx8,rfl⟩
 have hc8:=hc7.trans hx8.toI
 have hM8:=hM7.ext hx8
 refine zbH (fun hf=>?_) (fun hf=>?_)
 case refine_2=>
   refine zaf (by omega) ?_
   refine ⟨mk-1,by omega,k+1,by omega,rfl,by omega,hc8,?_⟩
   rw [zrr hk fun h=>of_decide_eq_false hf (by have:=h.1;rw [hx] at this;exact this)]
   exact hM8
 refine zaa zh4 ?_
 refine zad ty3 (zdU hAO) hx8 fun _=>?_
 refine (zfL (l:=part) (y:=(to:Int)) h1 (e7.trans hx8)).mono ?_
 rintro _ w9 ⟨hx9,rfl⟩
 have hc9:=hc8.trans hx9.toI
 have hM9:=hM8.ext hx9
 refine zbH (fun ht=>?_) (fun ht=>?_)
 case refine_2=>
   refine zaf (by omega) ?_
   refine ⟨mk-1,by omega,k+1,by omega,rfl,by omega,hc9,?_⟩
   rw [zrr hk fun h=>of_decide_eq_false ht (by have:=h.2;rw [hx] at this;exact this)]
   exact hM9
 refine zaa zjp ?_
 refine zad ty3 (zeQ hAO) (hx8.trans hx9) fun _=>?_
 refine zcL (α:=Bool) (i:=i) rfl zdX ty4 hi ?_
 refine zbP (α:=Bool) rfl ty4 hM9 zau hi zbf fun w10 hc10 hM10=>?_
 have hc10':ChgI g (g+1) w9 w10:=hc10.toI fun b hb=>by simp only [List.mem_cons,List.not_mem_nil,or_false] at hb;omega
 refine zaf (by omega) ?_
 refine ⟨mk-1,by omega,k+1,by omega,rfl,by omega,hc9.trans hc10',?_⟩
 rw [←zug hk (i:=i) ⟨by rw [hx];exact of_decide_eq_true hf,by rw [hx];exact of_decide_eq_true ht⟩ (by rw [hx];rfl) hi]
 exact hM10
end Go.Proofs.YtbnjpfjjmhodnaaGreat
namespace Go.Sh
open Rep (rep)
instance:Rep Nat where
 size:=1
 agg:=false
 rep F _ cs x:=F=[]∧cs=[.int .u64 (x:Int)]∧x<18446744073709551616
 pos:=by decide
 sz _:=rfl
 len:=by rintro _ _ _ _ ⟨_,rfl,_⟩;rfl
 one:=by rintro _ _ _ _ ⟨_,rfl,_⟩ v hv;simp at hv;subst hv;rfl
 keep:=by rintro _ _ _ _ _ h _;exact h
 lt:=by rintro _ _ _ _ ⟨rfl,_⟩ b hb;cases hb
instance:Flat Nat:=⟨fun h=>h.1⟩
instance:RepZ Nat:=⟨0,[.int .u64 0],fun _=>⟨rfl,rfl,by decide⟩⟩
section
variable {P:Program} {w w0:World} {K:Value→Prop} {t:TypeId} {x y:Operand}
theorem zsG {x:Nat} (h:x<18446744073709551616):Mine [] w (.int .u64 (x:Int)) x:=⟨⟨_,⟨rfl,rfl,h⟩,rfl⟩,List.nodup_nil,Wr.nil w⟩
theorem zop {t by_ b o:Nat} {x:Nat} (ht:tyI P t=some (1,by_,false)) (h:At w0 b o x) (hx:Ext w0 w) (k:K (.int .u64 (x:Int))):RD P (Instr.loadAt t (.pointer (some ⟨b,o,none⟩))) w K:=
 zab (α:=Nat) ht h hx fun v hv=>by
   obtain ⟨F,cs,⟨_,rfl,_⟩,rfl⟩:=hv
   exact k
theorem zsH {n:Nat} (h:n<18446744073709551616):IntKind.u64.wrap (n:Int)=(n:Int):=by simp [IntKind.wrap,IntKind.signed,IntKind.bits];omega
theorem zoq {m n:Nat} (hm:m<4611686018427387904) (hn:n<4611686018427387904) (k:K (.int .u64 ((m ||| n:Nat):Int))):RD P (bin .or t x y (.int .u64 (m:Int)) (.int .u64 (n:Int))) w K:=by
 have hlt:m ||| n<2^62:=Nat.or_lt_two_pow hm hn
 refine zaM (fun w' _=>?_) k
 have e2:((BitVec.ofInt 64 (m:Int)) ||| (BitVec.ofInt 64 (n:Int))).toNat=m ||| n:=by
   simp only [BitVec.toNat_or,BitVec.ofInt_natCast,BitVec.toNat_ofNat]
   rw [Nat.mod_eq_of_lt (by omega),Nat.mod_eq_of_lt (by omega)]
 show (do eqGuard .or t x y (.int .u64 (m:Int)) (.int .u64 (n:Int));binOp .or t (.int .u64 (m:Int)) (.int .u64 (n:Int)):Sem Value).run P w'=_
 simp only [eqGuard,binOp,Op.intBits]
 show Result.ok (Value.int .u64 (IntKind.u64.wrap (((BitVec.ofInt 64 (m:Int)) ||| (BitVec.ofInt 64 (n:Int))).toNat:Nat))) w'=_
 rw [e2,zsH (by omega)]
theorem zhh {m n:Nat} (hm:m<4611686018427387904) (hn:n<4611686018427387904) (k:K (.int .u64 ((m &&& n:Nat):Int))):RD P (bin .and t x y (.int .u64 (m:Int)) (.int .u64 (n:Int))) w K:=by
 have hlt:m &&& n≤m:=Nat.and_le_left
 refine zaM (fun w' _=>?_) k
 have e2:((BitVec.ofInt 64 (m:Int)) &&& (BitVec.ofInt 64 (n:Int))).toNat=m &&& n:=by
   simp only [BitVec.toNat_and,BitVec.ofInt_natCast,BitVec.toNat_ofNat]
   rw [Nat.mod_eq_of_lt (by omega),Nat.mod_eq_of_lt (by omega)]
 show (do eqGuard .and t x y (.int .u64 (m:Int)) (.int .u64 (n:Int));binOp .and t (.int .u64 (m:Int)) (.int .u64 (n:Int)):Sem Value).run P w'=_
 simp only [eqGuard,binOp,Op.intBits]
 show Result.ok (Value.int .u64 (IntKind.u64.wrap (((BitVec.ofInt 64 (m:Int)) &&& (BitVec.ofInt 64 (n:Int))).toNat:Nat))) w'=_
 rw [e2,zsH (by omega)]
theorem zjM {m n:Nat} (hm:m<4611686018427387904) (hn:n<4611686018427387904) (k:K (.int .u64 ((zku m n:Nat):Int))):RD P (bin .andNot t x y (.int .u64 (m:Int)) (.int .u64 (n:Int))) w K:=by
 have hlt:zku m n≤m:=ziC m n
 refine zaM (fun w' _=>?_) k
 have e2:((BitVec.ofInt 64 (m:Int)) &&& ~~~(BitVec.ofInt 64 (n:Int))).toNat=zku m n:=by
   apply Nat.eq_of_testBit_eq
   intro i
   have hm64:m<2^64:=by omega
   have hn64:n<2^64:=by omega
   simp only [BitVec.testBit_toNat,BitVec.getLsbD_and,BitVec.getLsbD_not,BitVec.ofInt_natCast,BitVec.getLsbD_ofNat,zc0]
   by_cases hi:i<64
   · simp [hi]
   have:m.testBit i=false:=Nat.testBit_lt_two_pow (Nat.lt_of_lt_of_le hm64 (Nat.pow_le_pow_right (by omega) (by omega)))
   simp [hi,this]
 show (do eqGuard .andNot t x y (.int .u64 (m:Int)) (.int .u64 (n:Int));binOp .andNot t (.int .u64 (m:Int)) (.int .u64 (n:Int)):Sem Value).run P w'=_
 simp only [eqGuard,binOp,Op.intBits]
 show Result.ok (Value.int .u64 (IntKind.u64.wrap (((BitVec.ofInt 64 (m:Int)) &&& ~~~(BitVec.ofInt 64 (n:Int))).toNat:Nat))) w'=_
 rw [e2,zsH (by omega)]
theorem zhi {m n:Nat} {ku:IntKind} (hm:m<4611686018427387904) (k:K (.int .u64 ((m >>> n:Nat):Int))):RD P (bin .shr t x y (.int .u64 (m:Int)) (.int ku (n:Int))) w K:=by
 refine zaM (fun w' _=>?_) k
 have e0:¬((n:Int)<0):=by omega
 have e1:(m:Int).fdiv (2^(min n 64))=((m >>> n:Nat):Int):=by
   rw [Nat.shiftRight_eq_div_pow]
   have h2:((2:Int)^(min n 64))=((2^(min n 64):Nat):Int):=by simp
   rw [h2,Int.fdiv_eq_ediv_of_nonneg _ (Int.natCast_nonneg _),←Int.natCast_ediv]
   by_cases h:n≤64
   · rw [Nat.min_eq_left h]
   rw [Nat.min_eq_right (by omega),Nat.div_eq_of_lt (by omega),Nat.div_eq_of_lt (Nat.lt_of_lt_of_le (by omega:m<2^64) (Nat.pow_le_pow_right (by omega) (by omega)))]
 show (do eqGuard .shr t x y (.int .u64 (m:Int)) (.int ku (n:Int));binOp .shr t (.int .u64 (m:Int)) (.int ku (n:Int)):Sem Value).run P w'=_
 simp only [eqGuard,binOp,Op.shift,e0,if_false,Int.toNat_natCast]
 show Result.ok (Value.int .u64 ((m:Int).fdiv (2^(min n 64)))) w'=_
 rw [e1]
theorem zns {n:Nat} {ku:IntKind} (hn:n<62) (k:K (.int .u64 ((2^n:Nat):Int))):RD P (bin .shl t x y (.int .u64 1) (.int ku (n:Int))) w K:=by
 refine zaM (fun w' _=>?_) k
 have hp:(2^n:Nat)<4611686018427387904:=Nat.pow_lt_pow_right (by omega) hn
 have e1:IntKind.u64.wrap ((2^n:Nat):Int)=((2^n:Nat):Int):=zsH (by omega)
 have e0:¬((n:Int)<0):=by omega
 have e2:min n 64=n:=by omega
 show (do eqGuard .shl t x y (.int .u64 1) (.int ku (n:Int));binOp .shl t (.int .u64 1) (.int ku (n:Int)):Sem Value).run P w'=_
 simp only [eqGuard,binOp,Op.shift,e0,if_false,Int.toNat_natCast]
 show Result.ok (Value.int .u64 (IntKind.u64.wrap ((1:Int)*2^(min n 64)))) w'=_
 rw [e2,←e1]
 simp
end
end Go.Sh
namespace Go.Proofs.YtbnjpfjjmhodnaaGreat
open Go Go.Sh Go.Proofs
open Rep (rep)
section
variable {nx:Nat→List Nat} {n m i j k t:Nat} {A:List DArc} {p q:Nat→Prop}
theorem zuh:FWy nx (m+1) m j↔FWy nx m m j:=⟨FWy.old',.inl⟩
theorem zkK:zb4 p n ||| zb4 q n=zb4 (fun i=>p i∨q i) n:=zdS fun i=>by
 rw [Nat.testBit_or,Bool.or_eq_true,zaH,zaH]
 exact ⟨fun h=>h.elim (fun h=>⟨h.1,.inl h.2⟩) fun h=>⟨h.1,.inr h.2⟩,fun ⟨h,h'⟩=>h'.elim (fun h'=>.inl ⟨h,h'⟩) fun h'=>.inr ⟨h,h'⟩⟩
theorem zkL (hi:i<n):2^i=zb4 (fun j=>j=i) n:=zdS fun j=>by
 rw [Nat.testBit_two_pow,decide_eq_true_eq]
 exact ⟨fun h=>⟨h▸hi,h.symm⟩,fun h=>h.2.symm⟩
theorem zrt:0=zb4 (fun _=>False) n:=zdS fun j=>by simp
theorem zdt (hn:n≤60):zb4 p n<4611686018427387904:=Nat.lt_of_lt_of_le zkt (Nat.le_trans (Nat.pow_le_pow_right (n:=2) (by omega) hn) (by decide))
theorem zui (hn:n≤60):zb4 p n<18446744073709551616:=Nat.lt_trans (zdt hn) (by decide)
noncomputable def zc8 (nx:Nat→List Nat) (n m k:Nat):List Nat:=(List.range n).map fun i=>zb4 (FWy nx (if i<k then m+1 else m) i) n
theorem zcl:(zc8 nx n m k).length=n:=by simp [zc8]
theorem zc4 (h:i<(zc8 nx n m k).length):(zc8 nx n m k)[i]=zb4 (FWy nx (if i<k then m+1 else m) i) n:=by simp [zc8]
theorem zpg (h:m<(zc8 nx n m k).length):(zc8 nx n m k)[m]=zb4 (FWy nx m m) n:=by
 rw [zc4]
 refine zba fun j _=>?_
 split
 · exact zuh
 exact .rfl
theorem zph:zc8 nx n m n=zc8 nx n (m+1) 0:=List.map_congr_left fun i hi=>by
 rw [if_pos (List.mem_range.1 hi),if_neg (by omega)]
theorem zpi (x:Nat) (hx:x=zb4 (FWy nx (m+1) k) n) (hk:k<n):(zc8 nx n m k).set k x=zc8 nx n m (k+1):=by
 subst hx
 refine List.ext_getElem (by simp [zc8]) fun i h1 h2=>?_
 rw [List.getElem_set,zc4,zc4]
 by_cases h:k=i
 · subst h;rw [if_pos rfl,if_pos (by omega)]
 rw [if_neg h]
 by_cases h3:i<k
 · rw [if_pos h3,if_pos (by omega)]
 rw [if_neg h3,if_neg (by omega)]
theorem zpj (h:¬FWy nx m k m):zc8 nx n m k=zc8 nx n m (k+1):=List.map_congr_left fun i hi=>by
 by_cases h3:i<k
 · rw [if_pos h3,if_pos (by omega)]
 rw [if_neg h3]
 by_cases h4:i<k+1
 · have:i=k:=by omega
   subst this
   rw [if_pos h4]
   exact zba fun j _=>⟨.inl,fun h'=>h'.elim id fun h'=>absurd h'.1 h⟩
 rw [if_neg h4]
theorem zvt (h:FWy nx m k m):zb4 (FWy nx m k) n ||| zb4 (FWy nx m m) n=zb4 (FWy nx (m+1) k) n:=by
 rw [zkK]
 exact zba fun j _=>⟨fun h'=>h'.elim .inl fun h'=>.inr ⟨h,h'⟩,fun h'=>h'.elim .inl fun h'=>.inr h'.2⟩
noncomputable def zi0 (nx:Nat→List Nat) (n:Nat):List Nat:=(List.range n).map fun i=>zb4 (RP nx i) n
theorem zmd:(zi0 nx n).length=n:=by simp [zi0]
theorem zme (h:i<(zi0 nx n).length):(zi0 nx n)[i]=zb4 (RP nx i) n:=by simp [zi0]
theorem zru (hn:∀ i j,j∈nx i→i<n∧j<n):zc8 nx n n 0=zi0 nx n:=List.map_congr_left fun i hi=>by
 rw [if_neg (by omega)]
 exact zba fun j _=>FWy.iff hn
theorem zuj:nxA n []=fun _=>[]:=by
 funext i
 unfold nxA zby
 rw [List.filter_eq_nil_iff]
 intro j _ h
 simp at h
theorem zor {a:DArc} (hf:a.fr=(i:Int)) (ht:a.to=(k:Int)) (hi:i<n) (hk:k<n) {x y:Nat}:y∈nxA n (A++[a]) x↔y∈nxA n A x∨(x=i∧y=k):=by
 unfold nxA
 simp only [zaw,List.mem_append,List.mem_singleton,DArc.ext_iff,hf,ht]
 constructor
 · rintro ⟨h1,h2,h3 | ⟨h3,h4⟩⟩
   · exact .inl ⟨h1,h2,h3⟩
   exact .inr ⟨Int.ofNat_inj.1 h3,Int.ofNat_inj.1 h4⟩
 rintro (⟨h1,h2,h3⟩ | ⟨rfl,rfl⟩)
 · exact ⟨h1,h2,.inl h3⟩
 exact ⟨hk,hi,.inr ⟨rfl,rfl⟩⟩
theorem zrv:List.replicate n 0=zc8 (nxA n []) n 0 0:=by
 refine List.ext_getElem (by simp [zc8]) fun i h1 h2=>?_
 rw [zc4,List.getElem_replicate]
 refine zdS fun j=>?_
 rw [if_neg (by omega),zuj]
 simp [FWy]
theorem zpk {a:DArc} (hf:a.fr=(i:Int)) (ht:a.to=(k:Int)) (hi:i<n) (hk:k<n) (h:i<(zc8 (nxA n A) n 0 0).length) :
   (zc8 (nxA n A) n 0 0).set i ((zc8 (nxA n A) n 0 0)[i] ||| 2^k)=zc8 (nxA n (A++[a])) n 0 0:=by
 refine List.ext_getElem (by simp [zc8]) fun x h1 h2=>?_
 rw [List.getElem_set]
 simp only [zc4,zkL hk,zkK]
 by_cases hx:i=x
 · subst hx
   rw [if_pos rfl,if_neg (by omega)]
   refine zba fun j _=>?_
   show _↔j∈nxA n (A++[a]) i
   rw [zor hf ht hi hk]
   exact ⟨fun h=>h.elim .inl fun h=>.inr ⟨rfl,h⟩,fun h=>h.elim .inl fun h=>.inr h.2⟩
 rw [if_neg hx,if_neg (by omega)]
 refine zba fun j _=>?_
 show j∈nxA n A x↔j∈nxA n (A++[a]) x
 rw [zor hf ht hi hk]
 exact ⟨.inl,fun h=>h.elim id fun h=>absurd h.1.symm hx⟩
end
section
variable {n i j f:Nat} {way:Nat→Nat→Prop} {told:Nat→Prop}
def zjf (way:Nat→Nat→Prop) (i j x:Nat):Prop:=x=i∨(x<j∧way i x∧way x i)
theorem zpl (hi:i<n):2^i=zb4 (zjf way i 0) n:=by
 rw [zkL hi]
 exact zba fun j _=>⟨.inl,fun h=>h.elim id fun h=>by omega⟩
theorem zrw (hj:j<n) (h1:way i j) (h2:way j i):zb4 (zjf way i j) n ||| 2^j=zb4 (zjf way i (j+1)) n:=by
 rw [zkL hj,zkK]
 refine zba fun x _=>?_
 unfold zjf
 constructor
 · rintro ((h | h) | rfl)
   · exact .inl h
   · exact .inr ⟨by omega,h.2⟩
   exact .inr ⟨by omega,h1,h2⟩
 rintro (h | ⟨h3,h4⟩)
 · exact .inl (.inl h)
 rcases Nat.lt_or_eq_of_le (Nat.lt_succ_iff.1 h3) with h5 | h5
 · exact .inl (.inr ⟨h5,h4⟩)
 exact .inr h5
theorem zos (h:¬(way i j∧way j i)):zb4 (zjf way i j) n=zb4 (zjf way i (j+1)) n:=by
 refine zba fun x _=>?_
 unfold zjf
 constructor
 · rintro (h1 | h1)
   · exact .inl h1
   exact .inr ⟨by omega,h1.2⟩
 rintro (h1 | ⟨h3,h4⟩)
 · exact .inl h1
 rcases Nat.lt_or_eq_of_le (Nat.lt_succ_iff.1 h3) with h5 | h5
 · exact .inr ⟨h5,h4⟩
 subst h5;exact absurd h4 h
theorem zrx:zb4 (zjf way i n) n=zb4 (zbg way i) n:=zba fun x hx=>
 ⟨fun h=>h.elim .inl fun h=>.inr h.2,fun h=>h.elim .inl fun h=>.inr ⟨hx,h⟩⟩
theorem zsI (hi:i<n) (ht:¬told i):zku (zku (zb4 (way i) n) (zb4 (zbg way i) n)) (zb4 told n)=0↔OkC n way told i:=by
 constructor
 · intro h
   refine ⟨hi,ht,fun j hj hw=>?_⟩
   have h1:(zku (zku (zb4 (way i) n) (zb4 (zbg way i) n)) (zb4 told n)).testBit j=false:=by rw [h];simp
   rw [zc0,zc0] at h1
   have h2:(zb4 (way i) n).testBit j=true:=zaH.2 ⟨hj,hw⟩
   rw [h2] at h1
   by_cases h3:(zb4 told n).testBit j=true
   · exact .inr (zaH.1 h3).2
   have h4:(zb4 (zbg way i) n).testBit j=true:=by
     cases e:(zb4 (zbg way i) n).testBit j
     · simp [e,h3] at h1
     rfl
   rcases (zaH.1 h4).2 with rfl | h5
   · exact .inl hw
   exact .inl h5.2
 rintro ⟨_,_,h⟩
 refine Nat.eq_of_testBit_eq fun j=>?_
 rw [zc0,zc0,Nat.zero_testBit]
 cases e:(zb4 (way i) n).testBit j
 · simp
 obtain ⟨hj,hw⟩:=zaH.1 e
 rcases h j hj hw with h1 | h1
 · have:(zb4 (zbg way i) n).testBit j=true:=zaH.2 ⟨hj,.inr ⟨hw,h1⟩⟩
   simp [this]
 have:(zb4 told n).testBit j=true:=zaH.2 ⟨hj,h1⟩
 simp [this]
theorem zuk (h:i<n):zb4 told n ||| zb4 (zbg way i) n=zb4 (zfC way told i) n:=zkK
end
def F181 (a0 a1:Value) (w:World) (R:VW):Prop:=
 oP (Instr.makeSlice 191 a0 a0) w fun x11 w=>
 rN 131 3 a1 w fun x13=>
 LOOPI [14] [(iV 0)] w fun u3 w next3=>
 rC (u3 14) x13 w fun x15=>
 BR x15
 (rX 131 a1 (u3 14) w fun x16=>
 rL 195 x16 w fun x17=>
 oP (Instr.alloc 195 true (.tuple #[])) w fun x7 w=>
 oS 195 x7 x17 w fun w=>
 (fun w=>rF 195 x7 0 w fun x19=>
 rL 3 x19 w fun x20=>
 rX 191 x11 x20 w fun x21=>
 rL 193 x21 w fun x22=>
 rF 195 x7 1 w fun x23=>
 rL 3 x23 w fun x24=>
 rD (convert 3 97 x24) w fun x25=>
 rB .shl 193 U0 T0 (Value.int .u64 1) x25 w fun x26=>
 rB .or 193 T0 T0 x22 x26 w fun x27=>
 rX 191 x11 x20 w fun x28=>
 oS 193 x28 x27 w fun w=>
 rA (u3 14) (iV 1) w fun x29=>
 next3 [x29] w) (World.drew1 w))
 (rN 191 3 x11 w fun x31=>
 LOOPI [32] [(iV 0)] w fun u8 w next8=>
 rC (u8 32) x31 w fun x33=>
 BR x33
 (rN 191 3 x11 w fun x36=>
 LOOPI [37] [(iV 0)] w fun u11 w next11=>
 rC (u11 37) x36 w fun x38=>
 BR x38
 (rX 191 x11 (u11 37) w fun x42=>
 rL 193 x42 w fun x43=>
 rD (convert 3 97 (u8 32)) w fun x45=>
 rB .shr 193 T0 T0 x43 x45 w fun x46=>
 rB .and 193 T0 U0 x46 (Value.int .u64 1) w fun x47=>
 rB .eql 193 T0 U0 x47 (Value.int .u64 1) w fun x48=>
 BR x48
 ((fun w=>rX 191 x11 (u11 37) w fun x51=>
 rL 193 x51 w fun x52=>
 rX 191 x11 (u8 32) w fun x55=>
 rL 193 x55 w fun x56=>
 rB .or 193 T0 T0 x52 x56 w fun x57=>
 rX 191 x11 (u11 37) w fun x58=>
 oS 193 x58 x57 w fun w=>
 rA (u11 37) (iV 1) w fun x59=>
 next11 [x59] w) (World.drew1 w))
 (rA (u11 37) (iV 1) w fun x59=>
 next11 [x59] w))
 (rA (u8 32) (iV 1) w fun x60=>
 next8 [x60] w))
 (R x11 w))
def cfg181:Cfg:=⟨extL,[],[(3,1073725568,[14]),(8,2305843004918727424,[32]),(11,1152921367167894016,[37])],[(5,[0,1,2,3,4,5,6,7,8,9,10,11],0),(14,[0,1,2,3,4,5,6,7,8,9,10],0)],[],[],[]⟩
theorem F181_call {a0 a1:Value} {w:World} {R:VW} (h:F181 a0 a1 w R):cL 181 [a0,a1] w R:=co (g:=cfg181) Tryz.func181 (by kernel_rfl) (by kernel_rfl) (by kernel_rfl) h
open Rep (rep)
theorem zvS:zcn Tryz.prog 193=some [.int .u64 0]:=by kernel_rfl
structure RU (w0 w:World) (v:Value) (l:List Nat):Prop where
 ext:Ext w0 w
 own:Own w0.heap.size w v l
section
variable {w0 w w':World} {v:Value} {l:List Nat} {i m n:Nat}
theorem RU.step (h:RU w0 w v l) (hx:Ext w w'):RU w0 w' v l:=⟨h.ext.trans hx,h.own.ext hx⟩
theorem RU.get {K:Value→Prop} (h:RU w0 w v l) (hi:i<l.length) (k:K (.int .u64 (l[i]:Int))) :
   RD Tryz.prog (Instr.indexAt 191 v (.int .i64 (i:Int))) w fun a=>RD Tryz.prog (Instr.loadAt 193 a) w K:=
 zac zux zmU h.own.is hi fun b o hA=>zop zmU hA (Ext.refl _) k
theorem zkM {w1:World} {K:Value→Prop} (h:Is w1 v l) (hx:Ext w1 w) (hi:i<l.length) (k:K (.int .u64 (l[i]:Int))) :
   RD Tryz.prog (Instr.indexAt 191 v (.int .i64 (i:Int))) w fun a=>RD Tryz.prog (Instr.loadAt 193 a) w K:=
 zac zux zmU h hi fun b o hA=>zop zmU hA hx k
theorem RU.set {K:World→Prop} (h:RU w0 w v l) (hi:i<l.length) (hm:m<18446744073709551616) (k:∀ w',RU w0 w' v (l.set i m)→K w') :
   RD Tryz.prog (Instr.indexAt 191 v (.int .i64 (i:Int))) w fun a=>OPU Tryz.prog (Instr.storeAt 193 a (.int .u64 (m:Int))) w K:=by
 obtain ⟨F,hM,hF⟩:=h.own
 refine zeL zux zmU hM hi fun b o G hL=>?_
 refine zet (upd:=fun y=>l.set i y) (y':=m) zmU hL (zsG hm) fun w2 F2 hc2 hm2 hF2=>?_
 exact k w2 ⟨h.ext.chg_trans hc2 hF,F2,hm2,fun b hb=>hF b (hF2 b hb)⟩
theorem zsJ {K:Value→World→Prop} (hn:n≤60) (k:∀ v w',RU w w' v (List.replicate n 0)→K v w'):OP Tryz.prog (Instr.makeSlice 191 (.int .i64 (n:Int)) (.int .i64 (n:Int))) w K:=
 zeM (α:=Nat) zux zmU rfl rfl zvS (by omega) (by omega) fun w2 hx2 hr2=>k _ w2 ⟨hx2,hr2.own.own⟩
end
theorem zpI {m i:Nat}:(((m >>> i &&& 1:Nat):Int)=1)↔m.testBit i=true:=by
 have:=zqQ m i
 constructor
 · intro h;rw [←this,decide_eq_true_eq];exact h
 intro h;rw [←this,decide_eq_true_eq] at h;exact h
theorem zjN {w W1:World} {v1:Value} {n:Nat} {A:List DArc} (h1:Is W1 v1 A) (e1:Ext W1 w) (hn:n≤60) (hA:∀ a∈A,(0≤a.fr∧a.fr<n)∧0≤a.to∧a.to<n) (hl:A.length≤2000) :
   CALL Tryz.prog 181 [.int .i64 (n:Int),v1] w fun r w'=>Ext w w'∧Own w.heap.size w' r (zi0 (nxA n A) n):=by
 refine F181_call ?_
 unfold F181
 refine zsJ hn fun vr w1 hR1=>?_
 refine zae zjq h1 ?_
 refine zat A.length (fun k us w'=>us=[.int .i64 (k:Int)]∧k≤A.length∧RU w w' vr (zc8 (nxA n (A.take k)) n 0 0)) 0 (Nat.zero_le _) ⟨rfl,Nat.zero_le _,by rw [List.take_zero,←zrv];exact hR1⟩ ?_
 rintro k mk u w2 hkm ⟨hu,hkl,hR2⟩
 simp only [List.map_cons,List.map_nil,List.cons.injEq,and_true] at hu
 rw [hu]
 refine zah ?_
 refine br (fun hlt=>?_) (fun hge=>?_)
 · have hk:k<A.length:=by omega
   refine zac zjq zdr h1 hk fun b3 o3 hA3=>?_
   refine zab zdr hA3 (e1.trans hR2.ext) fun v17 h17=>?_
   refine zcc zr3 rfl zdr rfl h17 (e1.trans hR2.ext) fun w3 hx3 hAt3 hV3=>?_
   have hxd:=zak w3
   generalize World.drew1 w3=w4 at *
   have hR4:=(hR2.step hx3).step hxd
   obtain ⟨⟨hf0,hf1⟩,ht0,ht1⟩:=hA _ (List.getElem_mem hk)
   obtain ⟨i,hi⟩:∃ i:Nat,A[k].fr=(i:Int):=⟨A[k].fr.toNat,by omega⟩
   obtain ⟨j,hj⟩:∃ j:Nat,A[k].to=(j:Int):=⟨A[k].to.toNat,by omega⟩
   refine zaa zh6 ?_
   refine zad ty3 (zfh hAt3) hxd fun _=>?_
   rw [hi]
   refine hR4.get (by rw [zcl];omega) ?_
   refine zaa zh7 ?_
   refine zad ty3 (zfi hAt3) hxd fun _=>?_
   rw [hj]
   refine zb2 (by kernel_rfl) u97 (by omega) ?_
   refine zns (by omega) ?_
   have hj60:2^j<4611686018427387904:=Nat.lt_of_le_of_lt (Nat.pow_le_pow_right (n:=2) (by omega) (show j≤60 by omega)) (by decide)
   refine zoq (by rw [zc4];exact zdt hn) hj60 ?_
   have hb:(zc8 (nxA n (A.take k)) n 0 0)[i]'(by rw [zcl];omega) ||| 2^j<2^62:=Nat.or_lt_two_pow (by rw [zc4];exact zdt hn) hj60
   refine hR4.set (by rw [zcl];omega) (by omega) fun w5 hR5=>?_
   rw [zpk hi hj (by omega) (by omega)] at hR5
   refine zaf (by omega) ?_
   refine ⟨mk-1,by omega,k+1,by omega,rfl,by omega,?_⟩
   rw [List.take_succ_eq_append_getElem hk]
   exact hR5
 have hke:k=A.length:=by omega
 rw [hke,List.take_length] at hR2
 refine zae zux hR2.own.is ?_
 rw [zcl]
 refine zat n (fun m us w'=>us=[.int .i64 (m:Int)]∧m≤n∧RU w w' vr (zc8 (nxA n A) n m 0)) 0 (Nat.zero_le _) ⟨rfl,Nat.zero_le _,hR2⟩ ?_
 rintro m mm q3 w3 hmm ⟨hu3,hml,hR3⟩
 simp only [List.map_cons,List.map_nil,List.cons.injEq,and_true] at hu3
 rw [hu3]
 refine zah ?_
 refine br (fun hlt3=>?_) (fun hge3=>?_)
 case refine_2=>
   have hme:m=n:=by omega
   rw [hme,zru zto] at hR3
   exact ⟨hR3.ext,hR3.own⟩
 have hm:m<n:=by omega
 refine zae zux hR3.own.is ?_
 rw [zcl]
 refine zat n (fun k us w'=>us=[.int .i64 (k:Int)]∧k≤n∧RU w w' vr (zc8 (nxA n A) n m k)) 0 (Nat.zero_le _) ⟨rfl,Nat.zero_le _,hR3⟩ ?_
 rintro i mi q4 w4 hmi ⟨hu4,hil,hR4⟩
 simp only [List.map_cons,List.map_nil,List.cons.injEq,and_true] at hu4
 rw [hu4]
 refine zah ?_
 refine br (fun hlt4=>?_) (fun hge4=>?_)
 case refine_2=>
   have hie:i=n:=by omega
   rw [hie,zph] at hR4
   refine zaf (by omega) ?_
   exact ⟨mm-1,by omega,m+1,by omega,rfl,by omega,hR4⟩
 have hi:i<n:=by omega
 refine hR4.get (by rw [zcl];omega) ?_
 refine zb2 (by kernel_rfl) u97 (by omega) ?_
 refine zhi (by rw [zc4];exact zdt hn) ?_
 have h62:zb4 (FWy (nxA n A) m i) n<4611686018427387904:=zdt hn
 have hgi:(zc8 (nxA n A) n m i)[i]'(by rw [zcl];omega)=zb4 (FWy (nxA n A) m i) n:=by rw [zc4,if_neg (by omega)]
 have hgm:(zc8 (nxA n A) n m i)[m]'(by rw [zcl];omega)=zb4 (FWy (nxA n A) m m) n:=zpg _
 refine zhh (n:=1) (Nat.lt_of_le_of_lt (by rw [Nat.shiftRight_eq_div_pow];exact Nat.div_le_self _ _) (show _<_ by rw [hgi];exact h62)) (by omega) ?_
 refine zai ?_
 refine br (fun hb=>?_) (fun hb=>?_)
 · have hFW:FWy (nxA n A) m i m:=by
     rw [zpI,hgi,zaH] at hb;exact hb.2
   have hxd:=zak w4
   generalize World.drew1 w4=w5 at *
   have hR5:=hR4.step hxd
   refine hR5.get (by rw [zcl];omega) ?_
   refine hR5.get (by rw [zcl];omega) ?_
   refine zoq (by rw [hgi];exact h62) (by rw [hgm];exact zdt hn) ?_
   rw [hgi,hgm,zvt hFW]
   refine hR5.set (by rw [zcl];omega) (zui hn) fun w6 hR6=>?_
   rw [zpi _ rfl hi] at hR6
   refine zaf (by omega) ?_
   exact ⟨mi-1,by omega,i+1,by omega,rfl,by omega,hR6⟩
 have hFW:¬FWy (nxA n A) m i m:=fun h=>hb (by rw [zpI,hgi,zaH];exact ⟨hm,h⟩)
 rw [zpj hFW] at hR4
 refine zaf (by omega) ?_
 exact ⟨mi-1,by omega,i+1,by omega,rfl,by omega,hR4⟩
def F113 (a0 a1:Value) (w:World) (R:VW):Prop:=
 cL 181 [a0,a1] w fun x16 w=>
 LOOPI [6,7] [(Value.slice none 0 0),(Value.int .u64 0)] w fun u4 w next4=>
 JOIN [8,9] (fun J19=>
 LOOPI [8,9,10] [(iV (-1)),(Value.int .u64 0),(iV 0)] w fun u7 w next7=>
 rC (u7 10) a0 w fun x19=>
 BR x19
 (rB .lss 3 T0 U0 (u7 8) (iV 0) w fun x22=>
 BR x22
 (rD (convert 3 97 (u7 10)) w fun x28=>
 rB .shr 193 T0 T0 (u4 7) x28 w fun x29=>
 rB .and 193 T0 U0 x29 (Value.int .u64 1) w fun x30=>
 rB .eql 193 T0 U0 x30 (Value.int .u64 1) w fun x31=>
 BR x31
 (rA (u7 10) (iV 1) w fun x25=>
 next7 [(u7 8),(u7 9),x25] w)
 (rD (convert 3 97 (u7 10)) w fun x33=>
 rB .shl 193 U0 T0 (Value.int .u64 1) x33 w fun x34=>
 LOOPI [9,36] [x34,(iV 0)] w fun u12 w next12=>
 rC (u12 36) a0 w fun x37=>
 BR x37
 (rX 191 x16 (u7 10) w fun x41=>
 rL 193 x41 w fun x42=>
 rD (convert 3 97 (u12 36)) w fun x44=>
 rB .shr 193 T0 T0 x42 x44 w fun x45=>
 rB .and 193 T0 U0 x45 (Value.int .u64 1) w fun x46=>
 rB .eql 193 T0 U0 x46 (Value.int .u64 1) w fun x47=>
 BR x47
 (rX 191 x16 (u12 36) w fun x51=>
 rL 193 x51 w fun x52=>
 rD (convert 3 97 (u7 10)) w fun x54=>
 rB .shr 193 T0 T0 x52 x54 w fun x55=>
 rB .and 193 T0 U0 x55 (Value.int .u64 1) w fun x56=>
 rB .eql 193 T0 U0 x56 (Value.int .u64 1) w fun x57=>
 BR x57
 (rD (convert 3 97 (u12 36)) w fun x61=>
 rB .shl 193 U0 T0 (Value.int .u64 1) x61 w fun x62=>
 rB .or 193 T0 T0 (u12 9) x62 w fun x63=>
 rA (u12 36) (iV 1) w fun x64=>
 next12 [x63,x64] w)
 (rA (u12 36) (iV 1) w fun x64=>
 next12 [(u12 9),x64] w))
 (rA (u12 36) (iV 1) w fun x64=>
 next12 [(u12 9),x64] w))
 (rX 191 x16 (u7 10) w fun x67=>
 rL 193 x67 w fun x68=>
 rB .andNot 193 T0 T0 x68 (u12 9) w fun x70=>
 rB .andNot 193 T0 T0 x70 (u4 7) w fun x72=>
 rB .eql 193 T0 U0 x72 (Value.int .u64 0) w fun x73=>
 BR x73
 (rA (u7 10) (iV 1) w fun x25=>
 next7 [(u7 10),(u12 9),x25] w)
 (rA (u7 10) (iV 1) w fun x25=>
 next7 [(u7 8),(u12 9),x25] w))))
 (J19 [(u7 8),(u7 9)] w))
 (J19 [(u7 8),(u7 9)] w)) (fun u19 w=>
 rB .lss 3 T0 U0 (u19 8) (iV 0) w fun x76=>
 BR x76
 (R (u4 6) w)
 (LOOPI [12,79] [(Value.slice none 0 0),(iV 0)] w fun u23 w next23=>
 rC (u23 79) a0 w fun x80=>
 BR x80
 (rD (convert 3 97 (u23 79)) w fun x84=>
 rB .shr 193 T0 T0 (u19 9) x84 w fun x85=>
 rB .and 193 T0 U0 x85 (Value.int .u64 1) w fun x86=>
 rB .eql 193 T0 U0 x86 (Value.int .u64 1) w fun x87=>
 BR x87
 (oP (Instr.buildSlice 25 1 #[(0,(u23 79))]) w fun x90 w=>
 oP (Builtin.append_ #[25,25] 25 [(u23 12),x90].toArray) w fun x91 w=>
 rA (u23 79) (iV 1) w fun x92=>
 next23 [x91,x92] w)
 (rA (u23 79) (iV 1) w fun x92=>
 next23 [(u23 12),x92] w))
 (oP (Instr.buildSlice 31 1 #[(0,(u23 12))]) w fun x95 w=>
 oP (Builtin.append_ #[31,31] 31 [(u4 6),x95].toArray) w fun x96 w=>
 rB .or 193 T0 T0 (u4 7) (u19 9) w fun x99=>
 next4 [x96,x99] w)))
def cfg113:Cfg:=⟨extL,[(19,37778931862957161582336,[8,9])],[(4,1267650600228229401496703090640,[6,7]),(7,37778931862957161582336,[8,9,10]),(12,36893488078699629056,[9,36]),(23,9902915851373234884605652992,[12,79])],[],[],[],[]⟩
theorem F113_call {a0 a1:Value} {w:World} {R:VW} (h:F113 a0 a1 w R):cL 113 [a0,a1] w R:=co (g:=cfg113) Tryz.func113 (by kernel_rfl) (by kernel_rfl) (by kernel_rfl) h
open Rep (rep)
theorem zmf (m i:Nat):m >>> i≤m:=by rw [Nat.shiftRight_eq_div_pow];exact Nat.div_le_self _ _
theorem zi1 {w W1:World} {v1:Value} {n:Nat} {A:List DArc} (h1:Is W1 v1 A) (e1:Ext W1 w) (hn:n≤60) (hA:∀ a∈A,(0≤a.fr∧a.fr<n)∧0≤a.to∧a.to<n) (hl:A.length≤2000) :
   CALL Tryz.prog 113 [.int .i64 (n:Int),v1] w fun r w'=>Ext w w'∧Own w.heap.size w' r ((zjJ n (RP (nxA n A))).map zaI):=by
 refine F113_call ?_
 unfold F113
 refine (zjN h1 e1 hn hA hl).mono ?_
 rintro v16 w1 ⟨hx1,ho1⟩
 have hWay:=ho1.is
 have hWl:(zi0 (nxA n A) n).length=n:=zmd
 have hWg:∀ i (h:i<(zi0 (nxA n A) n).length),(zi0 (nxA n A) n)[i]=zb4 (RP (nxA n A) i) n:=fun i h=>zme h
 generalize zi0 (nxA n A) n=ws at *
 generalize RP (nxA n A)=way at *
 have hs1:=hx1.size
 refine zat n (fun k us w'=>∃ out f told L,us=[out,.int .u64 ((zb4 told n:Nat):Int)]∧f+k=n∧zcz n told≤f∧zjJ n way=L++zc1 n way f told∧L.length=k∧Ext w1 w'∧∃ lo hi,w1.heap.size≤lo∧lo≤w'.heap.size∧hi≤w'.heap.size∧RowI lo hi 25 w' out (L.map zaI)) 0 (Nat.zero_le _) ⟨_,n,fun _=>False,[],by rw [←zrt];rfl,rfl,zfA,rfl,rfl,Ext.refl _,w1.heap.size,w1.heap.size,Nat.le_refl _,Nat.le_refl _,Nat.le_refl _,zdh _ _ _ _⟩ ?_
 rintro k mk u w2 hkm ⟨out,f,told,L,hu,hfk,hlf,hcL,hLl,hx2,lo,hi,hlo,hlo2,hhi,hr2⟩
 obtain ⟨hu1,hu2⟩:=zdY hu
 rw [hu1,hu2]
 have hD62:zb4 told n<4611686018427387904:=zdt hn
 refine JOIN.mk (fun us w'=>w'=w2∧((zeA n way told=none∧∃ p,us=[.int .i64 (-1),.int .u64 p])∨∃ i:Nat,zeA n way told=some i∧us=[.int .i64 (i:Int),.int .u64 ((zb4 (zbg way i) n:Nat):Int)])) ?_ ?_
 · refine zat n (fun i us w'=>w'=w2∧i≤n∧∃ fd p,us=[.int .i64 fd,.int .u64 p,.int .i64 (i:Int)]∧((fd=-1∧∀ j,j<i→¬OkC n way told j)∨∃ i0:Nat,fd=(i0:Int)∧OkC n way told i0∧(∀ j,j<i0→¬OkC n way told j)∧p=((zb4 (zbg way i0) n:Nat):Int))) 0 (Nat.zero_le _) ⟨rfl,Nat.zero_le _,-1,0,rfl,.inl ⟨rfl,fun j hj=>by omega⟩⟩ ?_
   rintro i mi q7 w3 hmi ⟨rfl,hil,fd,p,hu7,hcase⟩
   obtain ⟨hu71,hu72,hu73⟩:=zvx hu7
   rw [hu71,hu72,hu73]
   refine zah ?_
   refine br (fun hlt=>?_) (fun hge=>?_)
   case refine_2=>
     have hie:i=n:=by omega
     refine ⟨rfl,?_⟩
     rcases hcase with ⟨rfl,hno⟩ | ⟨i0,rfl,hok,hmin,rfl⟩
     · exact .inl ⟨zfz.2 fun j hj=>hno j (by have:=hj.1;omega) hj,_,rfl⟩
     exact .inr ⟨i0,zhe hok hmin,rfl⟩
   have hi':i<n:=by omega
   refine zah ?_
   refine br (fun hfd=>?_) (fun hfd=>?_)
   case refine_2=>
     refine ⟨rfl,?_⟩
     rcases hcase with ⟨rfl,hno⟩ | ⟨i0,rfl,hok,hmin,rfl⟩
     · exact absurd (by decide) hfd
     exact .inr ⟨i0,zhe hok hmin,rfl⟩
   have hno:fd=-1∧∀ j,j<i→¬OkC n way told j:=by
     rcases hcase with h | ⟨i0,rfl,_⟩
     · exact h
     omega
   obtain ⟨rfl,hno⟩:=hno
   refine zb2 (by kernel_rfl) u97 (by omega) ?_
   refine zhi hD62 ?_
   refine zhh (n:=1) (Nat.lt_of_le_of_lt (zmf _ _) hD62) (by omega) ?_
   refine zai ?_
   refine br (fun hb=>?_) (fun hb=>?_)
   · rw [zpI,zaH] at hb
     refine zaf (by omega) ?_
     refine ⟨mi-1,by omega,i+1,by omega,rfl,by omega,-1,p,rfl,.inl ⟨rfl,fun j hj=>?_⟩⟩
     rcases Nat.lt_or_eq_of_le (Nat.lt_succ_iff.1 hj) with h | rfl
     · exact hno j h
     exact fun h=>h.2.1 hb.2
   have htd:¬told i:=fun h=>hb (by rw [zpI,zaH];exact ⟨hi',h⟩)
   refine zb2 (by kernel_rfl) u97 (by omega) ?_
   refine zns (by omega) ?_
   rw [zpl (way:=way) hi']
   refine zat n (fun j us w'=>w'=w3∧j≤n∧us=[.int .u64 ((zb4 (zjf way i j) n:Nat):Int),.int .i64 (j:Int)]) 0 (Nat.zero_le _) ⟨rfl,Nat.zero_le _,rfl⟩ ?_
   rintro j mj q12 w4 hmj ⟨rfl,hjl,hu12⟩
   obtain ⟨hu121,hu122⟩:=zdY hu12
   rw [hu121,hu122]
   have hP62:∀ j,zb4 (zjf way i j) n<4611686018427387904:=fun j=>zdt hn
   have hW62:∀ j,zb4 (way j) n<4611686018427387904:=fun j=>zdt hn
   refine zah ?_
   refine br (fun hlt2=>?_) (fun hge2=>?_)
   · have hj:j<n:=by omega
     refine zkM (i:=i) hWay hx2 (by omega) ?_
     rw [hWg]
     refine zb2 (by kernel_rfl) u97 (by omega) ?_
     refine zhi (hW62 _) ?_
     refine zhh (n:=1) (Nat.lt_of_le_of_lt (zmf _ _) (hW62 _)) (by omega) ?_
     refine zai ?_
     refine br (fun hb1=>?_) (fun hb1=>?_)
     · rw [zpI,zaH] at hb1
       refine zkM (i:=j) hWay hx2 (by omega) ?_
       rw [hWg]
       refine zb2 (by kernel_rfl) u97 (by omega) ?_
       refine zhi (hW62 _) ?_
       refine zhh (n:=1) (Nat.lt_of_le_of_lt (zmf _ _) (hW62 _)) (by omega) ?_
       refine zai ?_
       refine br (fun hb2=>?_) (fun hb2=>?_)
       · rw [zpI,zaH] at hb2
         refine zb2 (by kernel_rfl) u97 (by omega) ?_
         refine zns (by omega) ?_
         refine zoq (hP62 _) (Nat.lt_of_le_of_lt (Nat.pow_le_pow_right (n:=2) (by omega) (show j≤60 by omega)) (by decide)) ?_
         rw [zrw hj hb1.2 hb2.2]
         refine zaf (by omega) ?_
         exact ⟨mj-1,by omega,j+1,by omega,rfl,by omega,rfl⟩
       rw [zos (n:=n) (j:=j) fun h=>hb2 (by rw [zpI,zaH];exact ⟨hi',h.2⟩)]
       refine zaf (by omega) ?_
       exact ⟨mj-1,by omega,j+1,by omega,rfl,by omega,rfl⟩
     rw [zos (n:=n) (j:=j) fun h=>hb1 (by rw [zpI,zaH];exact ⟨hj,h.1⟩)]
     refine zaf (by omega) ?_
     exact ⟨mj-1,by omega,j+1,by omega,rfl,by omega,rfl⟩
   have hje:j=n:=by omega
   rw [hje,zrx]
   refine zkM (i:=i) hWay hx2 (by omega) ?_
   rw [hWg]
   refine zjM (hW62 _) (zdt hn) ?_
   refine zjM (Nat.lt_of_le_of_lt (ziC _ _) (hW62 _)) hD62 ?_
   refine zai ?_
   have hokb:=zsI (way:=way) hi' htd
   refine br (fun hb=>?_) (fun hb=>?_)
   · have hok:OkC n way told i:=hokb.1 (by omega)
     refine zaf (by omega) ?_
     exact ⟨mi-1,by omega,i+1,by omega,rfl,by omega,_,_,rfl,.inr ⟨i,rfl,hok,hno,rfl⟩⟩
   have hok:¬OkC n way told i:=fun h=>hb (by rw [hokb.2 h];rfl)
   refine zaf (by omega) ?_
   refine ⟨mi-1,by omega,i+1,by omega,rfl,by omega,-1,_,rfl,.inl ⟨rfl,fun j hj=>?_⟩⟩
   rcases Nat.lt_or_eq_of_le (Nat.lt_succ_iff.1 hj) with h | rfl
   · exact hno j h
   exact hok
 rintro q19 w3 ⟨rfl,hJ⟩
 rcases hJ with ⟨hnx,p,hu19⟩ | ⟨i,hnx,hu19⟩
 · obtain ⟨hu191,hu192⟩:=zdY hu19;clear hu19
   rw [hu191]
   refine zah ?_
   refine br (fun _=>?_) (fun h=>absurd (by decide) h)
   rw [zf2 hnx,List.append_nil] at hcL
   rw [hcL]
   exact ⟨hx1.trans hx2,hr2.own.own.mono (by omega)⟩
 obtain ⟨hu191,hu192⟩:=zdY hu19
 rw [hu191,hu192]
 refine zah ?_
 refine br (fun h=>by omega) (fun _=>?_)
 have hok:=zeS hnx
 obtain ⟨f',hcf,hlf',hff⟩:=zeT hlf hnx
 refine zat n (fun j us w'=>∃ lv,us=[lv,.int .i64 (j:Int)]∧j≤n∧Ext w3 w'∧RowI w3.heap.size w'.heap.size 3 w' lv (zaI (zby j (zbg way i)))) 0 (Nat.zero_le _) ⟨_,rfl,Nat.zero_le _,Ext.refl _,zdh _ _ _ _⟩ ?_
 rintro j mj q23 w4 hmj ⟨lv,hu23,hjl,hx4,hr4⟩
 obtain ⟨hu231,hu232⟩:=zdY hu23
 rw [hu231,hu232]
 have hs4:=hx4.size
 have hP62:zb4 (zbg way i) n<4611686018427387904:=zdt hn
 have hsl:(zby j (zbg way i)).length≤j:=zcC
 refine zah ?_
 refine br (fun hlt=>?_) (fun hge=>?_)
 · have hj:j<n:=by omega
   refine zb2 (by kernel_rfl) u97 (by omega) ?_
   refine zhi hP62 ?_
   refine zhh (n:=1) (Nat.lt_of_le_of_lt (zmf _ _) hP62) (by omega) ?_
   refine zai ?_
   refine br (fun hb=>?_) (fun hb=>?_)
   · rw [zpI,zaH] at hb
     refine zct (lo2:=w4.heap.size) (hi2:=w4.heap.size) (x:=(j:Int)) u25 ty3 z3 zc3 (by decide) hr4 hs4 (zhD (by unfold I64;omega)) (Nat.le_refl _) hs4 (by rw [zan,zag];omega) (by rw [zag];omega) fun v54 w9 hc9 hr9=>?_
     refine zaf (by omega) ?_
     refine ⟨mj-1,by omega,j+1,by omega,v54,rfl,by omega,hx4.chgI hc9 (Nat.le_refl _),?_⟩
     rw [zdE hb.2,zbE]
     exact hr9
   refine zaf (by omega) ?_
   refine ⟨mj-1,by omega,j+1,by omega,lv,rfl,by omega,hx4,?_⟩
   rw [zeg fun h=>hb (by rw [zpI,zaH];exact ⟨hj,h⟩)]
   exact hr4
 have hje:j=n:=by omega
 rw [hje] at hr4
 refine zct (lo2:=w3.heap.size) (hi2:=w4.heap.size) (x:=zaI (zby n (zbg way i))) u31 zbG z25 zu7 (by decide) (hr2.ext hx4) (by omega) hr4.own hhi (by omega) (by rw [zan,List.length_map];omega) (by rw [List.length_map];omega) fun v54 w9 hc9 hr9=>?_
 refine zoq hD62 hP62 ?_
 rw [zuk (n:=n) hok.1]
 have hs9:=hc9.size
 refine ⟨mk-1,by omega,k+1,by omega,v54,f',zfC way told i,L++[zby n (zbg way i)],rfl,by omega,hlf',by rw [hcL,hcf,List.append_assoc];rfl,by simp [hLl],(hx2.trans hx4).chgI hc9 hlo,lo,w9.heap.size,hlo,by omega,Nat.le_refl _,?_⟩
 rw [List.map_append]
 exact hr9
section
variable {nx:Nat→List Nat} {n m i j k t:Nat} {A:List DArc} {p q:Nat→Prop}
noncomputable def zbQ (nx:Nat→List Nat) (n m k j:Nat):List (List Bool):=(List.range n).map fun i=>zcs n fun x=>FWy nx (if i<k∨(i=k∧x<j) then m+1 else m) i x
theorem zmg:(zbQ nx n m k j).length=n:=by simp [zbQ]
theorem zbR (h:i<(zbQ nx n m k j).length):(zbQ nx n m k j)[i]=zcs n fun x=>FWy nx (if i<k∨(i=k∧x<j) then m+1 else m) i x:=by simp [zbQ]
theorem zot (h:i<(zbQ nx n m k j).length) {x:Nat} (hx:x<((zbQ nx n m k j)[i]).length):((zbQ nx n m k j)[i])[x]=true↔FWy nx (if i<k∨(i=k∧x<j) then m+1 else m) i x:=by
 rw [←zbk hx,zbR,zbr]
 rw [zbR,zau] at hx
 exact ⟨fun h=>h.2,fun h=>⟨hx,h⟩⟩
theorem zkN:FWy nx 0 i j↔j∈nx i:=.rfl
theorem zsK:FWy nx (m+1) k m↔FWy nx m k m:=⟨FWy.old,.inl⟩
theorem zsL:FWy nx (m+1) m j↔FWy nx m m j:=⟨FWy.old',.inl⟩
theorem zry:zbQ nx n m k n=zbQ nx n m (k+1) 0:=List.map_congr_left fun i _=>za9 fun x hx=>by
 have:(i<k∨(i=k∧x<n))↔(i<k+1∨(i=k+1∧x<0)):=by omega
 simp only [this]
theorem zpm:zbQ nx n m n 0=zbQ nx n (m+1) 0 0:=List.map_congr_left fun i hi=>za9 fun x hx=>by
 have hi:=List.mem_range.1 hi
 rw [if_pos (.inl hi),if_neg (by omega)]
theorem zpn (h:¬FWy nx m k m):zbQ nx n m k 0=zbQ nx n m (k+1) 0:=List.map_congr_left fun i hi=>za9 fun x hx=>by
 by_cases h3:i<k
 · rw [if_pos (.inl h3),if_pos (by omega)]
 rw [if_neg (by omega)]
 by_cases h4:i=k
 · subst h4
   rw [if_pos (by omega)]
   exact ⟨.inl,fun h'=>h'.elim id fun h'=>absurd h'.1 h⟩
 rw [if_neg (by omega)]
theorem zsM (h:¬FWy nx m m j):zbQ nx n m k j=zbQ nx n m k (j+1):=List.map_congr_left fun i hi=>za9 fun x hx=>by
 by_cases h1:i<k∨(i=k∧x<j)
 · rw [if_pos h1,if_pos (by omega)]
 rw [if_neg h1]
 by_cases h2:i=k∧x=j
 · obtain ⟨rfl,rfl⟩:=h2
   rw [if_pos (by omega)]
   exact ⟨.inl,fun h'=>h'.elim id fun h'=>absurd h'.2 h⟩
 rw [if_neg (by omega)]
theorem zkO {p:Nat→Prop} (hj:j<n):(zcs n p).set j true=zcs n fun x=>p x∨x=j:=by
 refine zbO (by rw [List.length_set,zau]) fun i hi=>?_
 rw [zb3 (by rw [zau];exact hj),zbr]
 exact ⟨fun h=>h.elim (fun h=>.inl h.2) .inr,fun h=>h.elim (fun h=>.inl ⟨hi,h⟩) .inr⟩
theorem zrz (hk:k<n) (hj:j<n) (h1:FWy nx m k m) (h2:FWy nx m m j) (h:k<(zbQ nx n m k j).length) :
   (zbQ nx n m k j).set k ((zbQ nx n m k j)[k].set j true)=zbQ nx n m k (j+1):=by
 refine List.ext_getElem (by simp [zbQ]) fun i h3 h4=>?_
 rw [List.getElem_set]
 by_cases hi:k=i
 · subst hi
   rw [if_pos rfl,zbR,zbR,zkO hj]
   refine za9 fun x hx=>?_
   by_cases hxj:x=j
   · subst hxj
     have e1:(if k<k∨(k=k∧x<x+1) then m+1 else m)=m+1:=if_pos (.inr ⟨rfl,by omega⟩)
     rw [e1]
     exact ⟨fun _=>.inr ⟨h1,h2⟩,fun _=>.inr rfl⟩
   by_cases hl:x<j
   · rw [if_pos (.inr ⟨rfl,hl⟩),if_pos (.inr ⟨rfl,by omega⟩)]
     exact ⟨fun h=>h.elim id fun h=>absurd h hxj,.inl⟩
   rw [if_neg (by omega),if_neg (by omega)]
   exact ⟨fun h=>h.elim id fun h=>absurd h hxj,.inl⟩
 rw [if_neg hi,zbR,zbR]
 refine za9 fun x hx=>?_
 by_cases h5:i<k∨(i=k∧x<j)
 · rw [if_pos h5,if_pos (by omega)]
 rw [if_neg h5,if_neg (by omega)]
noncomputable def zeU (nx:Nat→List Nat) (n:Nat):List (List Bool):=(List.range n).map fun i=>zcs n (RP nx i)
theorem zmh:(zeU nx n).length=n:=by simp [zeU]
theorem zgI (h:i<(zeU nx n).length):(zeU nx n)[i]=zcs n (RP nx i):=by simp [zeU]
theorem zou (h:i<(zeU nx n).length) {x:Nat} (hx:x<((zeU nx n)[i]).length):((zeU nx n)[i])[x]=true↔RP nx i x:=by
 rw [←zbk hx,zgI,zbr]
 rw [zgI,zau] at hx
 exact ⟨fun h=>h.2,fun h=>⟨hx,h⟩⟩
theorem zrA (hn:∀ i j,j∈nx i→i<n∧j<n):zbQ nx n n 0 0=zeU nx n:=List.map_congr_left fun i hi=>za9 fun x hx=>by
 rw [if_neg (by omega)]
 exact FWy.iff hn
theorem zsN:nxA n []=fun _=>[]:=by
 funext i
 unfold nxA zby
 rw [List.filter_eq_nil_iff]
 intro j _ h
 simp at h
theorem zmi {a:DArc} (hf:a.fr=(i:Int)) (ht:a.to=(k:Int)) (hi:i<n) (hk:k<n) {x y:Nat}:y∈nxA n (A++[a]) x↔y∈nxA n A x∨(x=i∧y=k):=by
 unfold nxA
 simp only [zaw,List.mem_append,List.mem_singleton,DArc.ext_iff,hf,ht]
 constructor
 · rintro ⟨h1,h2,h3 | ⟨h3,h4⟩⟩
   · exact .inl ⟨h1,h2,h3⟩
   exact .inr ⟨Int.ofNat_inj.1 h3,Int.ofNat_inj.1 h4⟩
 rintro (⟨h1,h2,h3⟩ | ⟨rfl,rfl⟩)
 · exact ⟨h1,h2,.inl h3⟩
 exact ⟨hk,hi,.inr ⟨rfl,rfl⟩⟩
theorem zpo:List.replicate n (List.replicate n false)=zbQ (nxA n []) n 0 0 0:=by
 refine List.ext_getElem (by simp [zbQ]) fun i h1 h2=>?_
 rw [zbR,List.getElem_replicate]
 refine zbO (by simp) fun j _=>?_
 rw [if_neg (by omega),zsN]
 simp [FWy,zbx]
theorem znt {a:DArc} (hf:a.fr=(i:Int)) (ht:a.to=(k:Int)) (hi:i<n) (hk:k<n) (h:i<(zbQ (nxA n A) n 0 0 0).length) :
   (zbQ (nxA n A) n 0 0 0).set i ((zbQ (nxA n A) n 0 0 0)[i].set k true)=zbQ (nxA n (A++[a])) n 0 0 0:=by
 refine List.ext_getElem (by simp [zbQ]) fun x h1 h2=>?_
 rw [List.getElem_set]
 by_cases hx:i=x
 · subst hx
   rw [if_pos rfl,zbR,zbR,zkO hk]
   refine za9 fun j _=>?_
   rw [if_neg (by omega)]
   rw [zkN,zkN,zmi hf ht hi hk]
   exact ⟨fun h=>h.elim .inl fun h=>.inr ⟨rfl,h⟩,fun h=>h.elim .inl fun h=>.inr h.2⟩
 rw [if_neg hx,zbR,zbR]
 refine za9 fun j _=>?_
 rw [if_neg (by omega)]
 rw [zkN,zkN,zmi hf ht hi hk]
 exact ⟨.inl,fun h=>h.elim id fun h=>absurd h.1.symm hx⟩
end
section
variable {n i j f:Nat} {way:Nat→Nat→Prop} {told:Nat→Prop}
def OkK (way:Nat→Nat→Prop) (told:Nat→Prop) (i j:Nat):Prop:=¬told i∧∀ x,x<j→way i x→way x i∨told x
theorem zrB (hi:i<n):OkK way told i n↔OkC n way told i:=⟨fun h=>⟨hi,h⟩,fun h=>h.2⟩
theorem zsO:OkK way told i (j+1)↔OkK way told i j∧(way i j→way j i∨told j):=by
 constructor
 · rintro ⟨h1,h2⟩;exact ⟨⟨h1,fun x hx=>h2 x (by omega)⟩,h2 j (by omega)⟩
 rintro ⟨⟨h1,h2⟩,h3⟩
 refine ⟨h1,fun x hx=>?_⟩
 rcases Nat.lt_or_eq_of_le (Nat.lt_succ_iff.1 hx) with h | rfl
 · exact h2 x h
 exact h3
def zi2 (way:Nat→Nat→Prop) (told:Nat→Prop) (i j x:Nat):Prop:=told x∨(x<j∧zbg way i x)
theorem zpp:zcs n told=zcs n (zi2 way told i 0):=za9 fun x _=>⟨.inl,fun h=>h.elim id fun h=>by omega⟩
theorem zrC:zcs n (zi2 way told i n)=zcs n (zfC way told i):=za9 fun x hx=>⟨fun h=>h.elim .inl fun h=>.inr h.2,fun h=>h.elim .inl fun h=>.inr ⟨hx,h⟩⟩
theorem zmj (hj:j<n) (h:zbg way i j):(zcs n (zi2 way told i j)).set j true=zcs n (zi2 way told i (j+1)):=by
 rw [zkO hj]
 refine za9 fun x _=>?_
 unfold zi2
 constructor
 · rintro ((h1 | h1) | rfl)
   · exact .inl h1
   · exact .inr ⟨by omega,h1.2⟩
   exact .inr ⟨by omega,h⟩
 rintro (h1 | ⟨h1,h2⟩)
 · exact .inl (.inl h1)
 rcases Nat.lt_or_eq_of_le (Nat.lt_succ_iff.1 h1) with h3 | h3
 · exact .inl (.inr ⟨h3,h2⟩)
 exact .inr h3
theorem zsP (h:¬zbg way i j):zcs n (zi2 way told i j)=zcs n (zi2 way told i (j+1)):=by
 refine za9 fun x _=>?_
 unfold zi2
 constructor
 · rintro (h1 | h1)
   · exact .inl h1
   exact .inr ⟨by omega,h1.2⟩
 rintro (h1 | ⟨h1,h2⟩)
 · exact .inl h1
 rcases Nat.lt_or_eq_of_le (Nat.lt_succ_iff.1 h1) with h3 | h3
 · exact .inr ⟨h3,h2⟩
 subst h3;exact absurd h2 h
end
def F249 (a0 a1:Value) (w:World) (R:VW):Prop:=
 oP (Instr.buildSlice 203 0 #[]) w fun x11 w=>
 LOOPI [5,6] [x11,(iV 0)] w fun u3 w next3=>
 rC (u3 6) a0 w fun x14=>
 BR x14
 (oP (Instr.makeSlice 135 a0 a0) w fun x19 w=>
 oP (Instr.buildSlice 203 1 #[(0,x19)]) w fun x20 w=>
 oP (Builtin.append_ #[203,203] 203 [(u3 5),x20].toArray) w fun x21 w=>
 rA (u3 6) (iV 1) w fun x16=>
 next3 [x21,x16] w)
 (LOOPI [7] [(iV 0)] w fun u7 w next7=>
 rN 131 3 a1 w fun x24=>
 rC (u7 7) x24 w fun x25=>
 BR x25
 ((fun w=>rX 131 a1 (u7 7) w fun x31=>
 rF 195 x31 0 w fun x32=>
 rL 3 x32 w fun x33=>
 rX 203 (u3 5) x33 w fun x34=>
 rL 135 x34 w fun x35=>
 rX 131 a1 (u7 7) w fun x38=>
 rF 195 x38 1 w fun x39=>
 rL 3 x39 w fun x40=>
 rX 135 x35 x40 w fun x41=>
 oS 4 x41 (Value.bool true) w fun w=>
 rA (u7 7) (iV 1) w fun x27=>
 next7 [x27] w) (World.drew1 w))
 (LOOPI [8] [(iV 0)] w fun u11 w next11=>
 rC (u11 8) a0 w fun x44=>
 BR x44
 (LOOPI [9] [(iV 0)] w fun u14 w next14=>
 rC (u14 9) a0 w fun x49=>
 BR x49
 (LOOPI [10] [(iV 0)] w fun u17 w next17=>
 rC (u17 10) a0 w fun x54=>
 BR x54
 (rX 203 (u3 5) (u14 9) w fun x58=>
 rL 135 x58 w fun x59=>
 rX 135 x59 (u11 8) w fun x61=>
 rL 4 x61 w fun x62=>
 BR x62
 (rX 203 (u3 5) (u11 8) w fun x68=>
 rL 135 x68 w fun x69=>
 rX 135 x69 (u17 10) w fun x71=>
 rL 4 x71 w fun x72=>
 BR x72
 (rX 203 (u3 5) (u14 9) w fun x75=>
 rL 135 x75 w fun x76=>
 rX 135 x76 (u17 10) w fun x78=>
 oS 4 x78 (Value.bool true) w fun w=>
 rA (u17 10) (iV 1) w fun x65=>
 next17 [x65] w)
 (rA (u17 10) (iV 1) w fun x65=>
 next17 [x65] w))
 (rA (u14 9) (iV 1) w fun x51=>
 next14 [x51] w))
 (rA (u14 9) (iV 1) w fun x51=>
 next14 [x51] w))
 (rA (u11 8) (iV 1) w fun x46=>
 next11 [x46] w))
 (R (u3 5) w)))
def cfg249:Cfg:=⟨extL,[],[(3,4190304,[5,6]),(7,4398042316928,[7]),(11,604462909802916540843776,[8]),(14,604462909666577098999296,[9]),(17,604462905303714959983616,[10])],[(9,[0,1,2,3,4,5,6,7,8,9,10,11,12,13,14],0)],[],[],[]⟩
theorem F249_call {a0 a1:Value} {w:World} {R:VW} (h:F249 a0 a1 w R):cL 249 [a0,a1] w R:=co (g:=cfg249) Tryz.func249 (by kernel_rfl) (by kernel_rfl) (by kernel_rfl) h
open Rep (rep)
theorem zvE:zcn Tryz.prog 4=some [.bool false]:=by kernel_rfl
structure RB (w0 w:World) (v:Value) (l:List (List Bool)):Prop where
 ext:Ext w0 w
 own:Own w0.heap.size w v l
section
variable {w0 w w' w1:World} {v:Value} {l:List (List Bool)} {i j m n:Nat}
theorem RB.step (h:RB w0 w v l) (hx:Ext w w'):RB w0 w' v l:=⟨h.ext.trans hx,h.own.ext hx⟩
theorem zhj {K:Value→Prop} (h:Is w1 v l) (hx:Ext w1 w) (hi:i<l.length) (hj:j<l[i].length) (k:K (.bool l[i][j])) :
   RD Tryz.prog (Instr.indexAt 203 v (.int .i64 (i:Int))) w fun a=>RD Tryz.prog (Instr.loadAt 135 a) w fun b=>RD Tryz.prog (Instr.indexAt 135 b (.int .i64 (j:Int))) w fun c=>RD Tryz.prog (Instr.loadAt 4 c) w K:=
 zac zuy zc6 h hi fun b o hA=>zab zc6 hA hx fun v2 h2=>zac zdX ty4 h2 hj fun b2 o2 hA2=>za3 ty4 hA2 hx k
theorem RB.set {K:World→Prop} (h:RB w0 w v l) (hi:i<l.length) (hj:j<l[i].length) (k:∀ w',RB w0 w' v (l.set i (l[i].set j true))→K w') :
   RD Tryz.prog (Instr.indexAt 203 v (.int .i64 (i:Int))) w fun a=>RD Tryz.prog (Instr.loadAt 135 a) w fun b=>RD Tryz.prog (Instr.indexAt 135 b (.int .i64 (j:Int))) w fun c=>OPU Tryz.prog (Instr.storeAt 4 c (.bool true)) w K:=by
 obtain ⟨F,hM,hF⟩:=h.own
 refine zeL zuy zc6 hM hi fun b o G hL=>?_
 refine zio zc6 hL fun b3 hM3 hG3 hb3=>?_
 refine zeL zdX ty4 hM3 hj fun b4 o4 G4 hL4=>?_
 refine zet (upd:=fun y=>l[i].set j y) (y':=true) ty4 hL4 zip fun w2 F2 hc2 hm2 hF2=>?_
 obtain ⟨F5,hm5,hF5⟩:=hb3 w2 F2 _ hc2 hm2 fun c hc=>.inl (hF2 c hc)
 refine k w2 ⟨h.ext.chg_trans (hc2.mono hG3) hF,F5,hm5,fun c hc=>?_⟩
 rcases hF5 c hc with h6 | h6
 · exact hF c h6
 exact hF c (hG3 c (hF2 c h6))
end
theorem zi3 {w W1:World} {v1:Value} {n:Nat} {A:List DArc} (h1:Is W1 v1 A) (e1:Ext W1 w) (hn:n≤60) (hA:∀ a∈A,(0≤a.fr∧a.fr<n)∧0≤a.to∧a.to<n) (hl:A.length≤2000) :
   CALL Tryz.prog 249 [.int .i64 (n:Int),v1] w fun r w'=>Ext w w'∧Own w.heap.size w' r (zeU (nxA n A) n):=by
 refine F249_call ?_
 unfold F249
 refine za1 (α:=List Bool) zuy zc6 fun a8 w1 hx1 hr1=>?_
 refine zat n (fun k us w'=>∃ out,us=[out,.int .i64 (k:Int)]∧k≤n∧Ext w w'∧RowI w.heap.size w'.heap.size 135 w' out (List.replicate k (List.replicate n false))) 0 (Nat.zero_le _) ⟨_,rfl,Nat.zero_le _,hx1,zcf _ _ _ _ _⟩ ?_
 rintro k mk q w2 hkm ⟨out,hq,hkl,hx2,hr2⟩
 obtain ⟨hq1,hq2⟩:=zdY hq;clear hq
 rw [hq1,hq2]
 have hs2:=hx2.size
 refine zah ?_
 refine br (fun hlt=>?_) (fun hge=>?_)
 · refine zeM (α:=Bool) zdX ty4 rfl rfl zvE (by omega) (by omega) fun w3 hx3 hr3=>?_
   have hs3:=hx3.size
   refine zct (x:=List.replicate n false) zuy zc6 zvM zvg (by decide) (hr2.ext hx3) (by omega) hr3.own (Nat.le_refl _) (by omega) (by rw [zan,List.length_replicate];omega) (by rw [List.length_replicate];omega) fun v54 w9 hc9 hr9=>?_
   refine zaf (by omega) ?_
   refine ⟨mk-1,by omega,k+1,by omega,v54,rfl,by omega,(hx2.trans hx3).chgI hc9 (Nat.le_refl _),?_⟩
   rw [List.replicate_succ']
   exact hr9
 have hke:k=n:=by omega
 rw [hke,zpo] at hr2
 have hR2:RB w w2 out (zbQ (nxA n []) n 0 0 0):=⟨hx2,hr2.own.own⟩
 clear hr2
 refine zat A.length (fun k us w'=>us=[.int .i64 (k:Int)]∧k≤A.length∧RB w w' out (zbQ (nxA n (A.take k)) n 0 0 0)) 0 (Nat.zero_le _) ⟨rfl,Nat.zero_le _,by rw [List.take_zero];exact hR2⟩ ?_
 rintro k mk q w3 hkm ⟨hq,hkl,hR3⟩
 simp only [List.map_cons,List.map_nil,List.cons.injEq,and_true] at hq
 rw [hq]
 refine zae zjq h1 ?_
 refine zah ?_
 refine br (fun hlt=>?_) (fun hge=>?_)
 · have hk:k<A.length:=by omega
   have hxd:=zak w3
   generalize World.drew1 w3=w4 at *
   have hR4:=hR3.step hxd
   obtain ⟨⟨hf0,hf1⟩,ht0,ht1⟩:=hA _ (List.getElem_mem hk)
   obtain ⟨i,hi⟩:∃ i:Nat,A[k].fr=(i:Int):=⟨A[k].fr.toNat,by omega⟩
   obtain ⟨j,hj⟩:∃ j:Nat,A[k].to=(j:Int):=⟨A[k].to.toNat,by omega⟩
   refine zac zjq zdr h1 hk fun b3 o3 hA3=>?_
   refine zaa zh6 ?_
   refine zad ty3 (zfh hA3) (e1.trans hR4.ext) fun _=>?_
   rw [hi]
   obtain ⟨F,hM,hF⟩:=hR4.own
   have hil:i<(zbQ (nxA n (A.take k)) n 0 0 0).length:=by rw [zmg];omega
   refine zeL zuy zc6 hM hil fun b o G hL=>?_
   refine zio zc6 hL fun b5 hM5 hG5 hb5=>?_
   refine zac zjq zdr h1 hk fun b6 o6 hA6=>?_
   refine zaa zh7 ?_
   refine zad ty3 (zfi hA6) (e1.trans hR4.ext) fun _=>?_
   rw [hj]
   refine zeL zdX ty4 hM5 (k:=j) (by rw [zbR,zau];omega) fun b7 o7 G7 hL7=>?_
   refine zet (upd:=fun y=>(zbQ (nxA n (A.take k)) n 0 0 0)[i].set j y) (y':=true) ty4 hL7 zip fun w5 F5 hc5 hm5 hF5=>?_
   obtain ⟨F6,hm6,hF6⟩:=hb5 w5 F5 _ hc5 hm5 fun c hc=>.inl (hF5 c hc)
   have hR6:RB w w5 out ((zbQ (nxA n (A.take k)) n 0 0 0).set i ((zbQ (nxA n (A.take k)) n 0 0 0)[i].set j true)):=⟨hR4.ext.chg_trans (hc5.mono hG5) hF,F6,hm6,fun c hc=>by
     rcases hF6 c hc with h6 | h6
     · exact hF c h6
     exact hF c (hG5 c (hF5 c h6))⟩
   rw [znt hi hj (by omega) (by omega)] at hR6
   refine zaf (by omega) ?_
   refine ⟨mk-1,by omega,k+1,by omega,rfl,by omega,?_⟩
   rw [List.take_succ_eq_append_getElem hk]
   exact hR6
 have hke:k=A.length:=by omega
 rw [hke,List.take_length] at hR3
 refine zat n (fun m us w'=>us=[.int .i64 (m:Int)]∧m≤n∧RB w w' out (zbQ (nxA n A) n m 0 0)) 0 (Nat.zero_le _) ⟨rfl,Nat.zero_le _,hR3⟩ ?_
 rintro m mm q3 w4 hmm ⟨hq3,hml,hR4⟩
 simp only [List.map_cons,List.map_nil,List.cons.injEq,and_true] at hq3
 rw [hq3]
 refine zah ?_
 refine br (fun hlt3=>?_) (fun hge3=>?_)
 case refine_2=>
   have hme:m=n:=by omega
   rw [hme,zrA zto] at hR4
   exact ⟨hR4.ext,hR4.own⟩
 have hm:m<n:=by omega
 refine zat n (fun k us w'=>us=[.int .i64 (k:Int)]∧k≤n∧RB w w' out (zbQ (nxA n A) n m k 0)) 0 (Nat.zero_le _) ⟨rfl,Nat.zero_le _,hR4⟩ ?_
 rintro i mi q4 w5 hmi ⟨hq4,hil,hR5⟩
 simp only [List.map_cons,List.map_nil,List.cons.injEq,and_true] at hq4
 rw [hq4]
 refine zah ?_
 refine br (fun hlt4=>?_) (fun hge4=>?_)
 case refine_2=>
   have hie:i=n:=by omega
   rw [hie,zpm] at hR5
   refine zaf (by omega) ?_
   exact ⟨mm-1,by omega,m+1,by omega,rfl,by omega,hR5⟩
 have hi:i<n:=by omega
 refine zat n (fun j us w'=>us=[.int .i64 (j:Int)]∧j≤n∧(0<j→FWy (nxA n A) m i m)∧RB w w' out (zbQ (nxA n A) n m i j)) 0 (Nat.zero_le _) ⟨rfl,Nat.zero_le _,fun h=>absurd h (by omega),hR5⟩ ?_
 rintro j mj q5 w6 hmj ⟨hq5,hjl,hpos,hR6⟩
 simp only [List.map_cons,List.map_nil,List.cons.injEq,and_true] at hq5
 rw [hq5]
 refine zah ?_
 refine br (fun hlt5=>?_) (fun hge5=>?_)
 case refine_2=>
   have hje:j=n:=by omega
   rw [hje,zry] at hR6
   refine zaf (by omega) ?_
   exact ⟨mi-1,by omega,i+1,by omega,rfl,by omega,hR6⟩
 have hj:j<n:=by omega
 have hL6:(zbQ (nxA n A) n m i j).length=n:=zmg
 have hl6:∀ x (hx:x<(zbQ (nxA n A) n m i j).length),((zbQ (nxA n A) n m i j)[x]).length=n:=fun x hx=>by rw [zbR,zau]
 refine zhj (i:=i) (j:=m) hR6.own.is (Ext.refl _) (by omega) (by rw [hl6];omega) ?_
 have hat:=zot (nx:=nxA n A) (n:=n) (m:=m) (k:=i) (j:=j) (i:=i) (by omega) (x:=m) (by rw [hl6];omega)
 have hfw:FWy (nxA n A) (if i<i∨(i=i∧m<j) then m+1 else m) i m↔FWy (nxA n A) m i m:=by
   split
   · exact zsK
   exact .rfl
 rw [hfw] at hat
 refine zbH (fun hb=>?_) (fun hb=>?_)
 case refine_2=>
   have hno:¬FWy (nxA n A) m i m:=fun h=>by rw [hat.2 h] at hb;cases hb
   have hj0:j=0:=by
     rcases Nat.eq_zero_or_pos j with h | h
     · exact h
     exact absurd (hpos h) hno
   subst hj0
   rw [zpn hno] at hR6
   refine zaf (by omega) ?_
   exact ⟨mi-1,by omega,i+1,by omega,rfl,by omega,hR6⟩
 have hyes:=hat.1 hb
 refine zhj (i:=m) (j:=j) hR6.own.is (Ext.refl _) (by omega) (by rw [hl6];omega) ?_
 have hat2:=zot (nx:=nxA n A) (n:=n) (m:=m) (k:=i) (j:=j) (i:=m) (by omega) (x:=j) (by rw [hl6];omega)
 have hfw2:FWy (nxA n A) (if m<i∨(m=i∧j<j) then m+1 else m) m j↔FWy (nxA n A) m m j:=by
   split
   · exact zsL
   exact .rfl
 rw [hfw2] at hat2
 refine zbH (fun hb2=>?_) (fun hb2=>?_)
 · have hy2:=hat2.1 hb2
   refine hR6.set (i:=i) (j:=j) (by omega) (by rw [hl6];omega) fun w7 hR7=>?_
   rw [zrz hi hj hyes hy2] at hR7
   refine zaf (by omega) ?_
   exact ⟨mj-1,by omega,j+1,by omega,rfl,by omega,fun _=>hyes,hR7⟩
 have hn2:¬FWy (nxA n A) m m j:=fun h=>by rw [hat2.2 h] at hb2;cases hb2
 rw [zsM hn2] at hR6
 refine zaf (by omega) ?_
 exact ⟨mj-1,by omega,j+1,by omega,rfl,by omega,fun _=>hyes,hR6⟩
theorem zjO {w:World} {v:Value} {x:DArc}:Is w v x↔v=.agg #[.int .i64 x.fr,.int .i64 x.to]∧I64 x.fr∧I64 x.to:=by
 constructor
 · rintro ⟨F,cs,⟨F1,F2,c1,c2,rfl,rfl,⟨rfl,rfl,h1⟩,⟨rfl,rfl,h2⟩⟩,rfl⟩
   exact ⟨rfl,h1,h2⟩
 rintro ⟨rfl,h1,h2⟩
 exact ⟨[],_,⟨[],[],[.int .i64 x.fr],[.int .i64 x.to],rfl,rfl,⟨rfl,rfl,h1⟩,⟨rfl,rfl,h2⟩⟩,rfl⟩
set_option maxRecDepth 20000 in
theorem zpq {w w0 w1:World} {K:Value→Prop} {x y:Operand} {v1 v2:Value} {a b:DArc} (h1:Is w0 v1 a) (h2:Is w1 v2 b) (k:K (.bool (decide (a=b)))):RD Tryz.prog (bin .eql 195 x y v1 v2) w K:=by
  obtain ⟨rfl,_⟩:=zjO.1 h1
  obtain ⟨rfl,_⟩:=zjO.1 h2
  refine zaM (fun w' _=>?_) k
  have hg:Tryz.prog.eqGuardType Tryz.prog.depth 195=false:=by kernel_rfl
  have e0:∀ xs ys w,(eqGuard .eql 195 x y (.agg xs) (.agg ys)).run Tryz.prog w=.ok () w:=fun xs ys w=>run_eqGuard_agg (P:=Tryz.prog) w .eql 195 x y xs ys hg
  have e1:∀ xs ys w,(Op.equalIn 10000 195 (.agg xs) (.agg ys)).run Tryz.prog w=(Op.eqFields 9999 xs ys (Tryz.prog.fieldsOf 195).toList).run Tryz.prog w:=fun xs ys w=>run_equalIn_struct w 9999 195 xs ys (by kernel_rfl) (by kernel_rfl)
  have e2:(Tryz.prog.fieldsOf 195).toList.map (fun f=>(f.name,f.type,f.offset))=[("From", 3,0),("To", 3,1)]:=by kernel_rfl
  have e3:∀ (c d:Int) (w:World),(Op.equalIn 9999 3 (.int .i64 c) (.int .i64 d)).run Tryz.prog w=.ok (c == d) w:=fun c d w=>run_equalIn_int w 9998 3 .i64 .i64 c d u3
  have hd:(a=b)↔(a.fr=b.fr∧a.to=b.to):=DArc.ext_iff
  generalize hF:(Tryz.prog.fieldsOf 195).toList=fs at e1 e2
  match fs,e2 with
  | [f0,f1],e2=>
    simp only [List.map_cons,List.map_nil,List.cons.injEq,Prod.mk.injEq,and_true] at e2
    obtain ⟨⟨n0,t0,o0⟩,⟨n1,t1,o1⟩⟩:=e2
    have p0:∀ (a b:Value) (w:World),(part 3 #[a,b] 0).run Tryz.prog w=.ok a w:=fun a b w=>by simp [part,zbJ ty3]
    have p1:∀ (a b:Value) (w:World),(part 3 #[a,b] 1).run Tryz.prog w=.ok b w:=fun a b w=>by simp [part,zbJ ty3]
    simp only [bin,Sem.run_bind,e0,Result.andThen_ok,run_eql_struct,e1,Op.eqFields,n0,n1,t0,t1,o0,o1]
    simp only [ne_eq,String.reduceEq,not_false_eq_true,if_true,Sem.run_bind,p0,p1,Result.andThen_ok,e3,Sem.run_ite,Sem.run_pure,hd]
    by_cases x0:a.fr=b.fr<;>by_cases x1:a.to=b.to<;>simp [x0,x1]
set_option maxRecDepth 20000 in
theorem zpr {w w0 w1:World} {K:Value→Prop} {x y:Operand} {v1 v2:Value} {a b:DArc} (h1:Is w0 v1 a) (h2:Is w1 v2 b) (k:K (.bool (decide (a≠b)))):RD Tryz.prog (bin .neq 195 x y v1 v2) w K:=by
  obtain ⟨rfl,_⟩:=zjO.1 h1
  obtain ⟨rfl,_⟩:=zjO.1 h2
  refine zaM (fun w' _=>?_) k
  have hg:Tryz.prog.eqGuardType Tryz.prog.depth 195=false:=by kernel_rfl
  have e0:∀ xs ys w,(eqGuard .neq 195 x y (.agg xs) (.agg ys)).run Tryz.prog w=.ok () w:=fun xs ys w=>run_eqGuard_agg (P:=Tryz.prog) w .neq 195 x y xs ys hg
  have e1:∀ xs ys w,(Op.equalIn 10000 195 (.agg xs) (.agg ys)).run Tryz.prog w=(Op.eqFields 9999 xs ys (Tryz.prog.fieldsOf 195).toList).run Tryz.prog w:=fun xs ys w=>run_equalIn_struct w 9999 195 xs ys (by kernel_rfl) (by kernel_rfl)
  have e2:(Tryz.prog.fieldsOf 195).toList.map (fun f=>(f.name,f.type,f.offset))=[("From", 3,0),("To", 3,1)]:=by kernel_rfl
  have e3:∀ (c d:Int) (w:World),(Op.equalIn 9999 3 (.int .i64 c) (.int .i64 d)).run Tryz.prog w=.ok (c == d) w:=fun c d w=>run_equalIn_int w 9998 3 .i64 .i64 c d u3
  have hd:(a=b)↔(a.fr=b.fr∧a.to=b.to):=DArc.ext_iff
  generalize hF:(Tryz.prog.fieldsOf 195).toList=fs at e1 e2
  match fs,e2 with
  | [f0,f1],e2=>
    simp only [List.map_cons,List.map_nil,List.cons.injEq,Prod.mk.injEq,and_true] at e2
    obtain ⟨⟨n0,t0,o0⟩,⟨n1,t1,o1⟩⟩:=e2
    have p0:∀ (a b:Value) (w:World),(part 3 #[a,b] 0).run Tryz.prog w=.ok a w:=fun a b w=>by simp [part,zbJ ty3]
    have p1:∀ (a b:Value) (w:World),(part 3 #[a,b] 1).run Tryz.prog w=.ok b w:=fun a b w=>by simp [part,zbJ ty3]
    simp only [bin,Sem.run_bind,e0,Result.andThen_ok,run_neq_struct,e1,Op.eqFields,n0,n1,t0,t1,o0,o1]
    simp only [ne_eq,String.reduceEq,not_false_eq_true,if_true,Sem.run_bind,p0,p1,Result.andThen_ok,e3,Sem.run_ite,Sem.run_pure,ne_eq,hd]
    by_cases x0:a.fr=b.fr<;>by_cases x1:a.to=b.to<;>simp [x0,x1]
theorem zjg {l:List DArc} {k:Nat} {y:DArc} (hk:k<l.length) (h:y∉l.take k) (c:¬l[k]=y):y∉l.take (k+1):=by
 rw [List.take_succ_eq_append_getElem hk]
 simp only [List.mem_append,List.mem_cons,List.not_mem_nil,or_false,not_or]
 exact ⟨h,fun e=>c e.symm⟩
def F247 (a0 a1:Value) (w:World) (R:VW):Prop:=
 oP (Instr.box 195 a1) w fun x3 w=>
 rN 131 3 a0 w fun x7=>
 LOOPI [8] [(iV 0)] w fun u2 w next2=>
 rC (u2 8) x7 w fun x9=>
 BR x9
 ((fun w=>rL 195 x3 w fun x11=>
 rX 131 a0 (u2 8) w fun x14=>
 rL 195 x14 w fun x15=>
 rB .eql 195 T0 T0 x11 x15 w fun x16=>
 BR x16
 (R (u2 8) w)
 (rA (u2 8) (iV 1) w fun x18=>
 next2 [x18] w)) (World.drew1 w))
 (R (iV (-1)) w)
def cfg247:Cfg:=⟨extL,[],[(2,524080,[8])],[(4,[0,1,2,3,4,5],0)],[],[],[]⟩
theorem F247_call {a0 a1:Value} {w:World} {R:VW} (h:F247 a0 a1 w R):cL 247 [a0,a1] w R:=co (g:=cfg247) Tryz.func247 (by kernel_rfl) (by kernel_rfl) (by kernel_rfl) h
theorem znu {w:World} {v0:Value} {W0:World} {l:(List DArc)} {v1:Value} {W1:World} {y:DArc}  (h0:Is W0 v0 l) (e0:Ext W0 w) (h1:Is W1 v1 y) (e1:Ext W1 w)  :
   CALL Tryz.prog 247 [v0,v1] w fun r w'=>Ext w w'∧(∃ n:Int,r=.int .i64 n∧(0≤n↔y∈l)):=by
 refine F247_call ?_
 unfold F247
 refine zaT zdr rfl h1 e1 fun w1_ hx1_ hA3 hV3=>?_
 have hln7:=zaj h0
 refine zae zjq h0 ?_
 refine zat (l.length) (fun k us w'=>us=[.int .i64 (k:Int)]∧Ext w1_ w'∧(y∉l.take k)) (0) (by omega) ⟨by simp,Ext.refl w1_,by simp⟩ ?_
 rintro k m2 uu2 w2_ hk2 ⟨hu,hx2_,hinv⟩
 simp only [List.map_cons,List.map_nil,List.cons.injEq,and_true] at hu
 try rw [hu]
 try clear hu
 refine zah ?_
 refine br (fun c1=>?_) (fun c1=>?_)
 · have hx3_:=zak w2_
   refine zbW hV3 (hx2_.trans hx3_) ?_
   refine zac zjq zdr h0 (by omega) fun b14 o14 h14=>?_
   refine zab zdr h14 (e0.trans (hx1_.trans (hx2_.trans hx3_))) fun v15 h15=>?_
   refine zpq h1 h15 ?_
   refine br (fun c2=>?_) (fun c2=>?_)
   · refine ⟨(hx1_.trans (hx2_.trans hx3_)),?_⟩
     have:y∈l:=c2▸List.getElem_mem _
     exact ⟨_,rfl,by simp [this]⟩
   refine zaf (by omega) ?_
   refine ⟨m2-1,by omega,k+1,by omega,by simp,(hx2_.trans hx3_),?_⟩
   exact zjg (by omega) hinv (fun e=>c2 e.symm)
 refine ⟨(hx1_.trans hx2_),?_⟩
 rw [List.take_of_length_le (by omega)] at hinv
 exact ⟨-1,rfl,by simp [hinv]⟩
def F182 (a0 a1:Value) (w:World) (R:VW):Prop:=
 oP (Instr.box 195 a1) w fun x3 w=>
 rL 195 x3 w fun x6=>
 cL 247 [a0,x6] w fun x7 w=>
 rB .geq 3 T0 U0 x7 (iV 0) w fun x8=>
 R x8 w
def cfg182:Cfg:=⟨extL,[],[],[],[],[],[]⟩
theorem F182_call {a0 a1:Value} {w:World} {R:VW} (h:F182 a0 a1 w R):cL 182 [a0,a1] w R:=co (g:=cfg182) Tryz.func182 (by kernel_rfl) (by kernel_rfl) (by kernel_rfl) h
theorem zjh {w:World} {v0:Value} {W0:World} {l:(List DArc)} {v1:Value} {W1:World} {y:DArc}  (h0:Is W0 v0 l) (e0:Ext W0 w) (h1:Is W1 v1 y) (e1:Ext W1 w)  :
   CALL Tryz.prog 182 [v0,v1] w fun r w'=>Ext w w'∧(r=.bool (decide (y∈l))):=by
 refine F182_call ?_
 unfold F182
 refine zaT zdr rfl h1 e1 fun w1_ hx1_ hA3 hV3=>?_
 refine zbW hV3 (Ext.refl w1_) ?_
 refine (znu h0 (e0.trans hx1_) h1 (e1.trans hx1_)).mono ?_
 rintro _ w2_ ⟨hx2_,n7,rfl,hn7⟩
 refine zbF ?_
 refine ⟨(hx1_.trans hx2_),?_⟩
 simp [hn7]
def F248 (a0 a1:Value) (w:World) (R:VW):Prop:=
 cL 100 [a0,(iV 0),(iV 60)] w fun x7 w=>
 rD (Op.unary .not x7) w fun x8=>
 BR x8
 (R (Value.bool false) w)
 (rN 131 3 a1 w fun x11=>
 rB .gtr 3 T0 U0 x11 (iV 2000) w fun x12=>
 BR x12
 (R (Value.bool false) w)
 (LOOPI [5] [(iV 0)] w fun u4 w next4=>
 rN 131 3 a1 w fun x16=>
 rC (u4 5) x16 w fun x17=>
 BR x17
 (rX 131 a1 (u4 5) w fun x22=>
 rF 195 x22 0 w fun x23=>
 rL 3 x23 w fun x24=>
 rB .sub 3 T0 U0 a0 (iV 1) w fun x26=>
 cL 100 [x24,(iV 0),x26] w fun x27 w=>
 rD (Op.unary .not x27) w fun x28=>
 BR x28
 (R (Value.bool false) w)
 (rX 131 a1 (u4 5) w fun x32=>
 rF 195 x32 1 w fun x33=>
 rL 3 x33 w fun x34=>
 rB .sub 3 T0 U0 a0 (iV 1) w fun x36=>
 cL 100 [x34,(iV 0),x36] w fun x37 w=>
 rD (Op.unary .not x37) w fun x38=>
 BR x38
 (R (Value.bool false) w)
 (rA (u4 5) (iV 1) w fun x19=>
 next4 [x19] w)))
 (R (Value.bool true) w)))
def cfg248:Cfg:=⟨extL,[],[(4,1099511611440,[5])],[],[],[],[]⟩
theorem F248_call {a0 a1:Value} {w:World} {R:VW} (h:F248 a0 a1 w R):cL 248 [a0,a1] w R:=co (g:=cfg248) Tryz.func248 (by kernel_rfl) (by kernel_rfl) (by kernel_rfl) h
def F184 (a0 a1:Value) (w:World) (R:VW):Prop:=
 oP (Instr.buildSlice 31 0 #[]) w fun x14 w=>
 cL 248 [a0,a1] w fun x17 w=>
 rD (Op.unary .not x17) w fun x18=>
 BR x18
 (R x14 w)
 (cL 249 [a0,a1] w fun x22 w=>
 oP (Instr.makeSlice 135 a0 a0) w fun x24 w=>
 LOOPI [5,8] [x14,a0] w fun u7 w next7=>
 rB .gtr 3 T0 U0 (u7 8) (iV 0) w fun x27=>
 BR x27
 (LOOPI [5,8,9] [(u7 5),(u7 8),(iV 0)] w fun u9 w next9=>
 rC (u9 9) a0 w fun x30=>
 BR x30
 (rX 135 x24 (u9 9) w fun x35=>
 rL 4 x35 w fun x36=>
 rD (Op.unary .not x36) w fun x37=>
 JOIN [10] (fun J16=>
 LOOPI [10,11] [x37,(iV 0)] w fun u13 w next13=>
 rC (u13 11) a0 w fun x40=>
 BR x40
 (BR (u13 10)
 (rX 203 x22 (u9 9) w fun x48=>
 rL 135 x48 w fun x49=>
 rX 135 x49 (u13 11) w fun x51=>
 rL 4 x51 w fun x52=>
 rD (Op.unary .not x52) w fun x53=>
 BR x53
 (rA (u13 11) (iV 1) w fun x45=>
 next13 [(Value.bool true),x45] w)
 (rX 203 x22 (u13 11) w fun x57=>
 rL 135 x57 w fun x58=>
 rX 135 x58 (u9 9) w fun x60=>
 rL 4 x60 w fun x61=>
 BR x61
 (rA (u13 11) (iV 1) w fun x45=>
 next13 [(Value.bool true),x45] w)
 (rX 135 x24 (u13 11) w fun x66=>
 rL 4 x66 w fun x67=>
 rA (u13 11) (iV 1) w fun x45=>
 next13 [x67,x45] w)))
 (J16 [(u13 10)] w))
 (J16 [(u13 10)] w)) (fun u16 w=>
 rD (Op.unary .not (u16 10)) w fun x70=>
 BR x70
 (rA (u9 9) (iV 1) w fun x32=>
 next9 [(u9 5),(u9 8),x32] w)
 (oP (Instr.buildSlice 25 0 #[]) w fun x71 w=>
 LOOPI [12,13] [x71,(iV 0)] w fun u19 w next19=>
 rC (u19 13) a0 w fun x74=>
 BR x74
 (rB .eql 3 T0 T0 (u19 13) (u9 9) w fun x79=>
 BR x79
 (oP (Instr.buildSlice 25 1 #[(0,(u19 13))]) w fun x100 w=>
 oP (Builtin.append_ #[25,25] 25 [(u19 12),x100].toArray) w fun x101 w=>
 rX 135 x24 (u19 13) w fun x104=>
 oS 4 x104 (Value.bool true) w fun w=>
 rA (u19 13) (iV 1) w fun x76=>
 next19 [x101,x76] w)
 (rX 203 x22 (u9 9) w fun x83=>
 rL 135 x83 w fun x84=>
 rX 135 x84 (u19 13) w fun x86=>
 rL 4 x86 w fun x87=>
 GBR x87
 (rX 203 x22 (u19 13) w fun x91=>
 rL 135 x91 w fun x92=>
 rX 135 x92 (u9 9) w fun x94=>
 rL 4 x94 w fun x95=>
 BR x95
 (oP (Instr.buildSlice 25 1 #[(0,(u19 13))]) w fun x100 w=>
 oP (Builtin.append_ #[25,25] 25 [(u19 12),x100].toArray) w fun x101 w=>
 rX 135 x24 (u19 13) w fun x104=>
 oS 4 x104 (Value.bool true) w fun w=>
 rA (u19 13) (iV 1) w fun x76=>
 next19 [x101,x76] w)
 (rA (u19 13) (iV 1) w fun x76=>
 next19 [(u19 12),x76] w))
 (rA (u19 13) (iV 1) w fun x76=>
 next19 [(u19 12),x76] w)
 (BR undef
 (BR undef
 (oP (Instr.buildSlice 25 1 #[(0,(u19 13))]) w fun x100 w=>
 oP (Builtin.append_ #[25,25] 25 [(u19 12),x100].toArray) w fun x101 w=>
 rX 135 x24 (u19 13) w fun x104=>
 oS 4 x104 (Value.bool true) w fun w=>
 rA (u19 13) (iV 1) w fun x76=>
 next19 [x101,x76] w)
 (rA (u19 13) (iV 1) w fun x76=>
 next19 [(u19 12),x76] w))
 (rA (u19 13) (iV 1) w fun x76=>
 next19 [(u19 12),x76] w))))
 (rN 25 3 (u19 12) w fun x107=>
 rB .sub 3 T0 T0 (u9 8) x107 w fun x108=>
 oP (Instr.buildSlice 31 1 #[(0,(u19 12))]) w fun x111 w=>
 oP (Builtin.append_ #[31,31] 31 [(u9 5),x111].toArray) w fun x112 w=>
 next7 [x112,x108] w))))
 (next7 [(u9 5),(u9 8)] w))
 (R (u7 5) w))
def cfg184:Cfg:=⟨extL,[(16,590295810083827747840,[10])],[(7,10384593717069655257060992591347488,[5,8]),(9,10384593717069655257060992390020896,[5,8,9]),(13,590295810083827747840,[10,11]),(19,40564819202580974365024857370624,[12,13])],[],[],[],[]⟩
theorem F184_call {a0 a1:Value} {w:World} {R:VW} (h:F184 a0 a1 w R):cL 184 [a0,a1] w R:=co (g:=cfg184) Tryz.func184 (by kernel_rfl) (by kernel_rfl) (by kernel_rfl) h
open Rep (rep)
theorem zfM {w W1:World} {v1:Value} {n:Nat} {A:List DArc} (h1:Is W1 v1 A) (e1:Ext W1 w) (hn:n≤60) (hA:∀ a∈A,(0≤a.fr∧a.fr<n)∧0≤a.to∧a.to<n) (hl:A.length≤2000) :
   CALL Tryz.prog 248 [.int .i64 (n:Int),v1] w fun r w'=>Ext w w'∧r=.bool true:=by
 refine F248_call ?_
 unfold F248
 refine l01In_ok.mono ?_
 rintro _ w1 ⟨hx1,rfl⟩
 refine zaA ?_
 refine br (fun h=>absurd ⟨by omega,by omega⟩ h) (fun _=>?_)
 refine zae zjq h1 ?_
 refine zcu ?_
 refine br (fun h=>by omega) (fun _=>?_)
 refine zat A.length (fun k us w'=>us=[.int .i64 (k:Int)]∧k≤A.length∧Ext w w') 0 (Nat.zero_le _) ⟨rfl,Nat.zero_le _,hx1⟩ ?_
 rintro k mk q w3 hkm ⟨hq,hkl,hx3⟩
 simp only [List.map_cons,List.map_nil,List.cons.injEq,and_true] at hq
 rw [hq]
 refine zae zjq h1 ?_
 refine zah ?_
 refine br (fun hlt=>?_) (fun hge=>?_)
 case refine_2=>exact ⟨hx3,rfl⟩
 have hk:k<A.length:=by omega
 obtain ⟨⟨hf0,hf1⟩,ht0,ht1⟩:=hA _ (List.getElem_mem hk)
 refine zac zjq zdr h1 hk fun b3 o3 hA3=>?_
 refine zaa zh6 ?_
 refine zad ty3 (zfh hA3) (e1.trans hx3) fun _=>?_
 refine za4 (by unfold I64;omega) ?_
 refine l01In_ok.mono ?_
 rintro _ w4 ⟨hx4,rfl⟩
 refine zaA ?_
 refine br (fun h=>absurd ⟨by omega,by omega⟩ h) (fun _=>?_)
 refine zac zjq zdr h1 hk fun b5 o5 hA5=>?_
 refine zaa zh7 ?_
 refine zad ty3 (zfi hA5) ((e1.trans hx3).trans hx4) fun _=>?_
 refine za4 (by unfold I64;omega) ?_
 refine l01In_ok.mono ?_
 rintro _ w6 ⟨hx6,rfl⟩
 refine zaA ?_
 refine br (fun h=>absurd ⟨by omega,by omega⟩ h) (fun _=>?_)
 refine zaf (by omega) ?_
 exact ⟨mk-1,by omega,k+1,by omega,rfl,by omega,(hx3.trans hx4).trans hx6⟩
structure CI (w1 wT w4 w:World) (tv out lv:Value) (T:List Bool) (lo hi:Nat) (L:List (List Int)) (P:List Int):Prop where
 ext:Ext w1 w
 told:OwnI w1.heap.size wT.heap.size w tv T
 s1:w1.heap.size≤wT.heap.size
 s2:wT.heap.size≤lo
 s3:hi≤w4.heap.size
 s4:w4.heap.size≤w.heap.size
 s5:wT.heap.size≤w4.heap.size
 out:RowI lo hi 25 w out L
 row:RowI w4.heap.size w.heap.size 3 w lv P
theorem CI.push {w1 wT w4 w:World} {tv out lv:Value} {T:List Bool} {lo hi j:Nat} {L:List (List Int)} {P:List Int} {K:Value→World→Prop} (h:CI w1 wT w4 w tv out lv T lo hi L P) (hj:j<T.length) (hj60:j≤60) (hP:P.length≤60)
   (k:∀ v' w',CI w1 wT w4 w' tv out v' (T.set j true) lo hi L (P++[(j:Int)])→K v' w') :
   OP Tryz.prog (Instr.buildSlice 25 1 #[(0,.int .i64 (j:Int))]) w fun s w=>OP Tryz.prog (Builtin.append_ #[25,25] 25 [lv,s].toArray) w fun x w=>RD Tryz.prog (Instr.indexAt 135 tv (.int .i64 (j:Int))) w fun a=>OPU Tryz.prog (Instr.storeAt 4 a (.bool true)) w fun w=>K x w:=by
 have hs1:=h.s1
 have hs2:=h.s2
 have hs3:=h.s3
 have hs4:=h.s4
 have hs5:=h.s5
 refine zct (lo2:=w.heap.size) (hi2:=w.heap.size) (x:=(j:Int)) u25 ty3 z3 zc3 (by decide) h.row hs4 (zdo _ _ (by unfold I64;omega)) (Nat.le_refl _) hs4 (by rw [zan];omega) (by omega) fun v5 w5 hc5 hr5=>?_
 have hsz5:=hc5.size
 obtain ⟨F,hM,hF⟩:=h.told.chg hc5 (by omega)
 refine zeL zdX ty4 hM hj fun b o G hL=>?_
 refine zet (upd:=fun y=>T.set j y) (y':=true) ty4 hL zip fun w6 F6 hc6 hm6 hF6=>?_
 have hcI:=hc6.toI hF
 have hsz6:=hcI.size
 refine k v5 w6 ⟨(h.ext.chgI hc5 (by omega)).chgI hcI (Nat.le_refl _),⟨F6,hm6,fun b hb=>hF b (hF6 b hb)⟩,hs1,hs2,hs3,by omega,hs5,(h.out.chg hc5 (by omega)).chg hcI (by omega),(hr5.chg hcI (by omega)).mono (Nat.le_refl _) hsz6⟩
theorem zsQ {way:Nat→Nat→Prop} {told:Nat→Prop} {i j m:Nat} (h:OkK way told i m) (hj:j≤m):OkK way told i j:=⟨h.1,fun x hx=>h.2 x (by omega)⟩
theorem zps {w W1:World} {v1:Value} {n:Nat} {A:List DArc} (h1:Is W1 v1 A) (e1:Ext W1 w) (hn:n≤60) (hA:∀ a∈A,(0≤a.fr∧a.fr<n)∧0≤a.to∧a.to<n) (hl:A.length≤2000) :
   CALL Tryz.prog 184 [.int .i64 (n:Int),v1] w fun r w'=>Ext w w'∧Own w.heap.size w' r ((zjJ n (RP (nxA n A))).map zaI):=by
 refine F184_call ?_
 unfold F184
 refine za1 (α:=List Int) u31 zbG fun a8 wa hxa hra=>?_
 refine (zfM h1 (e1.trans hxa) hn hA hl).mono ?_
 rintro _ wb ⟨hxb,rfl⟩
 refine zaC ?_
 refine zbH (fun h=>by cases h) (fun _=>?_)
 refine (zi3 h1 ((e1.trans hxa).trans hxb) hn hA hl).mono ?_
 rintro v22 w1 ⟨hx1,ho1⟩
 have hWay:=ho1.is
 have hWl:(zeU (nxA n A) n).length=n:=zmh
 have hWr:∀ i (h:i<(zeU (nxA n A) n).length),((zeU (nxA n A) n)[i]).length=n:=fun i h=>by rw [zgI,zau]
 have hWg:∀ i (h:i<(zeU (nxA n A) n).length) x (hx:x<((zeU (nxA n A) n)[i]).length),((zeU (nxA n A) n)[i])[x]=true↔RP (nxA n A) i x:=fun i h x hx=>zou h hx
 have htr:∀ i j k,RP (nxA n A) i j→RP (nxA n A) j k→RP (nxA n A) i k:=fun _ _ _=>RP.trans
 generalize zeU (nxA n A) n=ws at *
 generalize RP (nxA n A)=way at *
 have hxw1:=(hxa.trans hxb).trans hx1
 have hsw1:=hxw1.size
 refine zeM (α:=Bool) zdX ty4 rfl rfl zvE (by omega) (by omega) fun wT hxT hrT=>?_
 have hsT:=hxT.size
 generalize htv:(Value.slice (some ⟨w1.heap.size,0,none⟩) n n)=tv at *
 have hoT:=hrT.own
 rw [show List.replicate n (RepZ.zv:Bool)=zcs n fun _=>False from zcy n fun _=>id] at hoT
 have hl0:zcz n (fun _=>False)=n:=by
   unfold zcz zby
   rw [List.filter_eq_self.2 (fun a _=>by simp),List.length_range]
 refine zat n (fun k us w'=>∃ out f told L lo hi,us=[out,.int .i64 ((zcz n told:Nat):Int)]∧f+k=n∧zcz n told≤f∧zjJ n way=L++zc1 n way f told∧L.length=k∧Whole way told∧Ext w1 w'∧OwnI w1.heap.size wT.heap.size w' tv (zcs n told)∧wT.heap.size≤lo∧lo≤w'.heap.size∧hi≤w'.heap.size∧RowI lo hi 25 w' out (L.map zaI)) 0 (Nat.zero_le _) ⟨.slice (some a8) 0 0,n,fun _=>False,[],wT.heap.size,wT.heap.size,by rw [hl0],rfl,zfA,rfl,rfl,Whole.start,hxT,hoT,Nat.le_refl _,Nat.le_refl _,Nat.le_refl _,zcf _ _ _ _ _⟩ ?_
 rintro k mk q w2 hkm ⟨out,f,told,L,lo,hi,hq,hfk,hlf,hcL,hLl,hwh,hx2,ho2,hlo,hlo2,hhi,hr2⟩
 obtain ⟨hq1,hq2⟩:=zdY hq
 rw [hq1,hq2]
 have hs2:=hx2.size
 have hll:zcz n told≤n:=zfA
 refine zcu ?_
 refine br (fun hpos=>?_) (fun hzero=>?_)
 case refine_2=>
   rw [zf2 (zpb (by omega)),List.append_nil] at hcL
   rw [hcL]
   exact ⟨hxw1.trans hx2,hr2.own.own.mono (by omega)⟩
 obtain ⟨i1,hnx⟩:=zhf (told:=told) htr (show 0<zcz n told by omega)
 refine zat n (fun i us w'=>w'=w2∧i≤n∧us=[out,.int .i64 ((zcz n told:Nat):Int),.int .i64 (i:Int)]∧∀ j,j<i→¬OkC n way told j) 0 (Nat.zero_le _) ⟨rfl,Nat.zero_le _,rfl,fun j hj=>by omega⟩ ?_
 rintro i mi q9 w3 hmi ⟨rfl,hil,hq9,hno⟩
 obtain ⟨hq91,hq92,hq93⟩:=zvx hq9
 rw [hq91,hq92,hq93]
 refine zah ?_
 refine br (fun hlt=>?_) (fun hge=>?_)
 case refine_2=>
   have h:=zeS hnx
   exact absurd h (hno i1 (by have:=h.1;omega))
 have hi':i<n:=by omega
 have hTl:(zcs n told).length=n:=zau
 have hTg:∀ x (hx:x<(zcs n told).length),(zcs n told)[x]=true↔told x:=fun x hx=>by
   rw [←zbk hx,zbr]
   exact ⟨fun h=>h.2,fun h=>⟨by omega,h⟩⟩
 refine zac (i:=i) zdX ty4 ho2.is (by omega) fun b4 o4 hA4=>?_
 refine za3 ty4 hA4 (Ext.refl _) ?_
 refine zaC ?_
 refine JOIN.mk (fun us w'=>w'=w3∧∃ b,us=[.bool b]∧(b=true↔OkC n way told i)) ?_ ?_
 · refine zat n (fun j us w'=>w'=w3∧j≤n∧∃ b,us=[.bool b,.int .i64 (j:Int)]∧(b=true↔OkK way told i j)) 0 (Nat.zero_le _) ⟨rfl,Nat.zero_le _,_,rfl,?_⟩ ?_
   · rw [Bool.not_eq_true',←Bool.not_eq_true,hTg]
     exact ⟨fun h=>⟨h,fun x hx=>by omega⟩,fun h=>h.1⟩
   rintro j mj q13 w4 hmj ⟨rfl,hjl,b,hq13,hb⟩
   obtain ⟨hq131,hq132⟩:=zdY hq13
   rw [hq131,hq132]
   refine zah ?_
   refine br (fun hlt2=>?_) (fun hge2=>?_)
   case refine_2=>
     have hje:j=n:=by omega
     rw [hje] at hb
     exact ⟨rfl,b,rfl,hb.trans (zrB hi')⟩
   have hj:j<n:=by omega
   refine zbH (fun ht=>?_) (fun hf=>?_)
   case refine_2=>
     refine ⟨rfl,b,rfl,?_⟩
     rw [hf]
     refine ⟨(fun h=>by cases h),fun h=>?_⟩
     have:=hb.2 (zsQ ((zrB hi').2 h) (by omega))
     rw [hf] at this;cases this
   have hK:=hb.1 ht
   have hsucc:=zsO (way:=way) (told:=told) (i:=i) (j:=j)
   refine zhj (i:=i) (j:=j) hWay hx2 (by omega) (by rw [hWr];omega) ?_
   have hw1:=hWg i (by omega) j (by rw [hWr];omega)
   refine zaC ?_
   refine zbH (fun hn1=>?_) (fun hy1=>?_)
   · rw [Bool.not_eq_true',←Bool.not_eq_true,hw1] at hn1
     refine zaf (by omega) ?_
     exact ⟨mj-1,by omega,j+1,by omega,rfl,by omega,true,rfl,⟨fun _=>hsucc.2 ⟨hK,fun h=>absurd h hn1⟩,fun _=>rfl⟩⟩
   rw [Bool.not_eq_false',hw1] at hy1
   refine zhj (i:=j) (j:=i) hWay hx2 (by omega) (by rw [hWr];omega) ?_
   have hw2:=hWg j (by omega) i (by rw [hWr];omega)
   refine zbH (fun hy2=>?_) (fun hn2=>?_)
   · refine zaf (by omega) ?_
     exact ⟨mj-1,by omega,j+1,by omega,rfl,by omega,true,rfl,⟨fun _=>hsucc.2 ⟨hK,fun _=>.inl (hw2.1 hy2)⟩,fun _=>rfl⟩⟩
   have hn2':¬way j i:=fun h=>by rw [hw2.2 h] at hn2;cases hn2
   refine zac (i:=j) zdX ty4 ho2.is (by omega) fun b5 o5 hA5=>?_
   refine za3 ty4 hA5 (Ext.refl _) ?_
   refine zaf (by omega) ?_
   refine ⟨mj-1,by omega,j+1,by omega,rfl,by omega,_,rfl,?_⟩
   rw [hTg,hsucc]
   exact ⟨fun h=>⟨hK,fun _=>.inr h⟩,fun h=>(h.2 hy1).resolve_left hn2'⟩
 rintro q16 w4 ⟨rfl,b,hq16,hb⟩
 simp only [List.map_cons,List.map_nil,List.cons.injEq,and_true] at hq16
 rw [hq16]
 refine zaC ?_
 refine zbH (fun hnb=>?_) (fun hyb=>?_)
 · have hnok:¬OkC n way told i:=fun h=>by rw [hb.2 h] at hnb;cases hnb
   refine zaf (by omega) ?_
   refine ⟨mi-1,by omega,i+1,by omega,rfl,by omega,rfl,fun j hj=>?_⟩
   rcases Nat.lt_or_eq_of_le (Nat.lt_succ_iff.1 hj) with h | rfl
   · exact hno j h
   exact hnok
 have hok:OkC n way told i:=hb.1 (by simpa using hyb)
 have hnxi:=zhe hok hno
 obtain ⟨f',hcf,hlf',hff⟩:=zeT hlf hnxi
 have hleft:=zok (n:=n) hwh hok.2.1
 refine za1 (α:=Int) u25 ty3 fun a9 w5 hx5 hr5=>?_
 have hs5:=hx5.size
 have hCI0:CI w1 wT w5 w5 tv out (.slice (some a9) 0 0) (zcs n (zi2 way told i 0)) lo hi (L.map zaI) (zaI (zby 0 (zbg way i))):=
   ⟨hx2.trans hx5,by rw [←zpp];exact ho2.ext hx5,hsT,hlo,by omega,Nat.le_refl _,by omega,hr2.ext hx5,zcf _ _ _ _ _⟩
 refine zat n (fun j us w'=>∃ lv,us=[lv,.int .i64 (j:Int)]∧j≤n∧CI w1 wT w5 w' tv out lv (zcs n (zi2 way told i j)) lo hi (L.map zaI) (zaI (zby j (zbg way i)))) 0 (Nat.zero_le _) ⟨_,rfl,Nat.zero_le _,hCI0⟩ ?_
 rintro j mj q19 w6 hmj ⟨lv,hq19,hjl,hCI⟩
 obtain ⟨hq191,hq192⟩:=zdY hq19
 rw [hq191,hq192]
 have hsl:(zby j (zbg way i)).length≤j:=zcC
 refine zah ?_
 refine br (fun hlt2=>?_) (fun hge2=>?_)
 · have hj:j<n:=by omega
   refine zai ?_
   refine br (fun heq=>?_) (fun hne=>?_)
   · have hp:zbg way i j:=.inl (by omega)
     refine hCI.push (by rw [zau];exact hj) (by omega) (by rw [zag];omega) fun v' w' hC'=>?_
     rw [zmj hj hp,show zaI (zby j (zbg way i))++[(j:Int)]=zaI (zby (j+1) (zbg way i)) by rw [zdE hp,zbE];rfl] at hC'
     refine zaf (by omega) ?_
     exact ⟨mj-1,by omega,j+1,by omega,v',rfl,by omega,hC'⟩
   have hnext:¬zbg way i j→∃ m',m'<mj∧∃ k',k'+m'=n∧∃ lv',[lv,Value.int .i64 ((j+1:Nat):Int)]=[lv',.int .i64 (k':Int)]∧k'≤n∧CI w1 wT w5 w6 tv out lv' (zcs n (zi2 way told i k')) lo hi (L.map zaI) (zaI (zby k' (zbg way i))):=fun hp=>by
     rw [zsP hp,←zeg hp] at hCI
     exact ⟨mj-1,by omega,j+1,by omega,lv,rfl,by omega,hCI⟩
   refine zhj (i:=i) (j:=j) hWay hCI.ext (by omega) (by rw [hWr];omega) ?_
   have hw1:=hWg i (by omega) j (by rw [hWr];omega)
   refine zrV (fun hy1=>?_) (fun hn1=>?_)
   · refine zhj (i:=j) (j:=i) hWay hCI.ext (by omega) (by rw [hWr];omega) ?_
     have hw2:=hWg j (by omega) i (by rw [hWr];omega)
     refine zbH (fun hy2=>?_) (fun hn2=>?_)
     · have hp:zbg way i j:=.inr ⟨hw1.1 hy1,hw2.1 hy2⟩
       refine hCI.push (by rw [zau];exact hj) (by omega) (by rw [zag];omega) fun v' w' hC'=>?_
       rw [zmj hj hp,show zaI (zby j (zbg way i))++[(j:Int)]=zaI (zby (j+1) (zbg way i)) by rw [zdE hp,zbE];rfl] at hC'
       refine zaf (by omega) ?_
       exact ⟨mj-1,by omega,j+1,by omega,v',rfl,by omega,hC'⟩
     refine zaf (by omega) ?_
     refine hnext fun hp=>?_
     rcases hp with h | h
     · exact hne (by omega)
     rw [hw2.2 h.2] at hn2;cases hn2
   refine zaf (by omega) ?_
   refine hnext fun hp=>?_
   rcases hp with h | h
   · exact hne (by omega)
   rw [hw1.2 h.1] at hn1;cases hn1
 have hje:j=n:=by omega
 rw [hje,zrC] at hCI
 have hsn:(zby n (zbg way i)).length≤n:=zcC
 have hc4:=hCI.s4
 refine zae u25 hCI.row.is ?_
 refine za4 (by rw [zag];unfold I64;omega) ?_
 refine zct (lo2:=w5.heap.size) (hi2:=w6.heap.size) (x:=zaI (zby n (zbg way i))) u31 zbG z25 zu7 (by decide) hCI.out (by omega) hCI.row.own (by omega) (by omega) (by rw [zan,List.length_map];omega) (by rw [List.length_map];omega) fun v54 w9 hc9 hr9=>?_
 have hs9:=hc9.size
 refine ⟨mk-1,by omega,k+1,by omega,v54,f',zfC way told i,L++[zby n (zbg way i)],lo,w9.heap.size,?_,by omega,hlf',by rw [hcL,hcf,List.append_assoc];rfl,by simp [hLl],hwh.more htr,hCI.ext.chgI hc9 (by omega),hCI.told.chg hc9 (by omega),hlo,by omega,Nat.le_refl _,?_⟩
 · have:((zcz n told:Nat):Int)-(((zaI (zby n (zbg way i))).length:Nat):Int)=((zcz n (zfC way told i):Nat):Int):=by rw [zag];omega
   rw [this]
 rw [List.map_append]
 exact hr9
def F245 (a0 a1:Value) (w:World) (R:VW):Prop:=
 rB .lss 3 T0 U0 a0 (iV 0) w fun x8=>
 BR x8
 (R (Value.bool false) w)
 (rB .gtr 3 T0 U0 a0 (iV 60) w fun x11=>
 BR x11
 (R (Value.bool false) w)
 (rN 131 3 a1 w fun x15=>
 rB .gtr 3 T0 U0 x15 (iV 2000) w fun x16=>
 BR x16
 (R (Value.bool false) w)
 (rN 131 3 a1 w fun x19=>
 LOOPI [20] [(iV 0)] w fun u4 w next4=>
 rC (u4 20) x19 w fun x21=>
 BR x21
 (rX 131 a1 (u4 20) w fun x22=>
 rL 195 x22 w fun x23=>
 oP (Instr.alloc 195 true (.tuple #[])) w fun x6 w=>
 oS 195 x6 x23 w fun w=>
 rF 195 x6 0 w fun x24=>
 rL 3 x24 w fun x25=>
 rB .lss 3 T0 U0 x25 (iV 0) w fun x26=>
 BR x26
 (R (Value.bool false) w)
 (rF 195 x6 0 w fun x28=>
 rL 3 x28 w fun x29=>
 rB .geq 3 T0 T0 x29 a0 w fun x31=>
 BR x31
 (R (Value.bool false) w)
 (rF 195 x6 1 w fun x34=>
 rL 3 x34 w fun x35=>
 rB .lss 3 T0 U0 x35 (iV 0) w fun x36=>
 BR x36
 (R (Value.bool false) w)
 (rF 195 x6 1 w fun x39=>
 rL 3 x39 w fun x40=>
 rB .geq 3 T0 T0 x40 a0 w fun x42=>
 BR x42
 (R (Value.bool false) w)
 (rA (u4 20) (iV 1) w fun x44=>
 next4 [x44] w)))))
 (R (Value.bool true) w))))
def cfg245:Cfg:=⟨extL,[],[(4,35184371040336,[20])],[],[],[],[]⟩
theorem F245_call {a0 a1:Value} {w:World} {R:VW} (h:F245 a0 a1 w R):cL 245 [a0,a1] w R:=co (g:=cfg245) Tryz.func245 (by kernel_rfl) (by kernel_rfl) (by kernel_rfl) h
def F178 (a0 a1 a2:Value) (w:World) (R:VW):Prop:=
 cL 245 [a0,a1] w fun x12 w=>
 rD (Op.unary .not x12) w fun x13=>
 BR x13
 (R (Value.bool false) w)
 (cL 181 [a0,a1] w fun x16 w=>
 rN 25 3 a2 w fun x18=>
 LOOPI [19] [(iV 0)] w fun u5 w next5=>
 rC (u5 19) x18 w fun x20=>
 BR x20
 (rX 25 a2 (u5 19) w fun x21=>
 rL 3 x21 w fun x22=>
 rB .geq 3 T0 U0 x22 (iV 0) w fun x24=>
 BR x24
 (rC x22 a0 w fun x28=>
 BR x28
 (rX 191 x16 x22 w fun x33=>
 rL 193 x33 w fun x34=>
 rD (convert 3 97 x22) w fun x36=>
 rB .shr 193 T0 T0 x34 x36 w fun x37=>
 rB .and 193 T0 U0 x37 (Value.int .u64 1) w fun x38=>
 rB .eql 193 T0 U0 x38 (Value.int .u64 1) w fun x39=>
 BR x39
 (R (Value.bool true) w)
 (rA (u5 19) (iV 1) w fun x41=>
 next5 [x41] w))
 (rA (u5 19) (iV 1) w fun x41=>
 next5 [x41] w))
 (rA (u5 19) (iV 1) w fun x41=>
 next5 [x41] w))
 (R (Value.bool false) w))
def cfg178:Cfg:=⟨extL,[],[(5,4398045987392,[19])],[],[],[],[]⟩
theorem F178_call {a0 a1 a2:Value} {w:World} {R:VW} (h:F178 a0 a1 a2 w R):cL 178 [a0,a1,a2] w R:=co (g:=cfg178) Tryz.func178 (by kernel_rfl) (by kernel_rfl) (by kernel_rfl) h
def F185 (a0 a1 a2:Value) (w:World) (R:VW):Prop:=
 cL 248 [a0,a1] w fun x11 w=>
 rD (Op.unary .not x11) w fun x12=>
 BR x12
 (R (Value.bool false) w)
 (cL 249 [a0,a1] w fun x15 w=>
 LOOPI [8] [(iV 0)] w fun u5 w next5=>
 rN 25 3 a2 w fun x18=>
 rC (u5 8) x18 w fun x19=>
 BR x19
 ((fun w=>rX 25 a2 (u5 8) w fun x24=>
 rL 3 x24 w fun x25=>
 rB .sub 3 T0 U0 a0 (iV 1) w fun x27=>
 cL 100 [x25,(iV 0),x27] w fun x28 w=>
 BR x28
 (rX 25 a2 (u5 8) w fun x33=>
 rL 3 x33 w fun x34=>
 rX 203 x15 x34 w fun x35=>
 rL 135 x35 w fun x36=>
 rX 25 a2 (u5 8) w fun x39=>
 rL 3 x39 w fun x40=>
 rX 135 x36 x40 w fun x41=>
 rL 4 x41 w fun x42=>
 BR x42
 (R (Value.bool true) w)
 (rA (u5 8) (iV 1) w fun x21=>
 next5 [x21] w))
 (rA (u5 8) (iV 1) w fun x21=>
 next5 [x21] w)) (World.drew1 w))
 (R (Value.bool false) w))
def cfg185:Cfg:=⟨extL,[],[(5,17592185979200,[8])],[(7,[0,1,2,3,4,5,6,7,8,9,10,11,12,13,14,15,16,17,18,19,20,21],0)],[],[],[]⟩
theorem F185_call {a0 a1 a2:Value} {w:World} {R:VW} (h:F185 a0 a1 a2 w R):cL 185 [a0,a1,a2] w R:=co (g:=cfg185) Tryz.func185 (by kernel_rfl) (by kernel_rfl) (by kernel_rfl) h
open Rep (rep)
theorem zji {w W1:World} {v1:Value} {n:Nat} {A:List DArc} (h1:Is W1 v1 A) (e1:Ext W1 w) (hn:n≤60) (hA:∀ a∈A,(0≤a.fr∧a.fr<n)∧0≤a.to∧a.to<n) (hl:A.length≤2000) :
   CALL Tryz.prog 245 [.int .i64 (n:Int),v1] w fun r w'=>Ext w w'∧r=.bool true:=by
 refine F245_call ?_
 unfold F245
 refine zah ?_
 refine br (fun h=>by omega) (fun _=>?_)
 refine zcu ?_
 refine br (fun h=>by omega) (fun _=>?_)
 refine zae zjq h1 ?_
 refine zcu ?_
 refine br (fun h=>by omega) (fun _=>?_)
 refine zae zjq h1 ?_
 refine zat A.length (fun k us w'=>us=[.int .i64 (k:Int)]∧k≤A.length∧Ext w w') 0 (Nat.zero_le _) ⟨rfl,Nat.zero_le _,Ext.refl _⟩ ?_
 rintro k mk q w3 hkm ⟨hq,hkl,hx3⟩
 simp only [List.map_cons,List.map_nil,List.cons.injEq,and_true] at hq
 rw [hq]
 refine zah ?_
 refine br (fun hlt=>?_) (fun hge=>?_)
 case refine_2=>exact ⟨hx3,rfl⟩
 have hk:k<A.length:=by omega
 obtain ⟨⟨hf0,hf1⟩,ht0,ht1⟩:=hA _ (List.getElem_mem hk)
 refine zac zjq zdr h1 hk fun b3 o3 hA3=>?_
 refine zab zdr hA3 (e1.trans hx3) fun v17 h17=>?_
 refine zcc zr3 rfl zdr rfl h17 (e1.trans hx3) fun w4 hx4 hA4 hV4=>?_
 refine zaa zh6 ?_
 refine zad ty3 (zfh hA4) (Ext.refl _) fun _=>?_
 refine zah ?_
 refine br (fun h=>by omega) (fun _=>?_)
 refine zaa zh6 ?_
 refine zad ty3 (zfh hA4) (Ext.refl _) fun _=>?_
 refine zbF ?_
 refine br (fun h=>by omega) (fun _=>?_)
 refine zaa zh7 ?_
 refine zad ty3 (zfi hA4) (Ext.refl _) fun _=>?_
 refine zah ?_
 refine br (fun h=>by omega) (fun _=>?_)
 refine zaa zh7 ?_
 refine zad ty3 (zfi hA4) (Ext.refl _) fun _=>?_
 refine zbF ?_
 refine br (fun h=>by omega) (fun _=>?_)
 refine zaf (by omega) ?_
 exact ⟨mk-1,by omega,k+1,by omega,rfl,by omega,hx3.trans hx4⟩
theorem zkP {w W1 W2:World} {v1 v2:Value} {n:Nat} {A:List DArc} {p:List Nat} (h1:Is W1 v1 A) (e1:Ext W1 w) (h2:Is W2 v2 (zaI p)) (e2:Ext W2 w) (hn:n≤60) (hA:∀ a∈A,(0≤a.fr∧a.fr<n)∧0≤a.to∧a.to<n) (hl:A.length≤2000) (hp:∀ x∈p,x<n) (hpl:p.length≤60) :
   CALL Tryz.prog 178 [.int .i64 (n:Int),v1,v2] w fun r w'=>Ext w w'∧∃ b,r=.bool b∧(b=true↔zol (nxA n A) p):=by
 refine F178_call ?_
 unfold F178
 refine (zji h1 e1 hn hA hl).mono ?_
 rintro _ w1 ⟨hx1,rfl⟩
 refine zaC ?_
 refine zbH (fun h=>by cases h) (fun _=>?_)
 refine (zjN h1 (e1.trans hx1) hn hA hl).mono ?_
 rintro v16 w2 ⟨hx2,ho2⟩
 have hWay:=ho2.is
 refine zae u25 h2 ?_
 rw [zag]
 refine zat p.length (fun k us w'=>us=[.int .i64 (k:Int)]∧k≤p.length∧Ext w2 w'∧∀ x∈p.take k,¬RP (nxA n A) x x) 0 (Nat.zero_le _) ⟨rfl,Nat.zero_le _,Ext.refl _,by simp⟩ ?_
 rintro k mk q w3 hkm ⟨hq,hkl,hx3,hno⟩
 simp only [List.map_cons,List.map_nil,List.cons.injEq,and_true] at hq
 rw [hq]
 refine zah ?_
 refine br (fun hlt=>?_) (fun hge=>?_)
 case refine_2=>
   have hke:k=p.length:=by omega
   rw [hke,List.take_length] at hno
   exact ⟨(hx1.trans hx2).trans hx3,false,rfl,(fun h=>by cases h),fun ⟨x,hx,hr⟩=>absurd hr (hno x hx)⟩
 have hk:k<p.length:=by omega
 have hpk:=hp _ (List.getElem_mem hk)
 refine zac (i:=k) u25 ty3 h2 (by rw [zag];exact hk) fun b3 o3 hA3=>?_
 rw [zbb] at hA3
 refine zad ty3 hA3 (((e2.trans hx1).trans hx2).trans hx3) fun _=>?_
 refine zbF ?_
 refine br (fun _=>?_) (fun h=>by omega)
 refine zah ?_
 refine br (fun _=>?_) (fun h=>by omega)
 refine zkM (i:=p[k]) hWay hx3 (by rw [zmd];exact hpk) ?_
 rw [zme]
 have h62:zb4 (RP (nxA n A) p[k]) n<4611686018427387904:=zdt hn
 refine zb2 (by kernel_rfl) u97 (by omega) ?_
 refine zhi h62 ?_
 refine zhh (n:=1) (Nat.lt_of_le_of_lt (zmf _ _) h62) (by omega) ?_
 refine zai ?_
 refine br (fun hb=>?_) (fun hb=>?_)
 · rw [zpI,zaH] at hb
   exact ⟨(hx1.trans hx2).trans hx3,true,rfl,fun _=>⟨_,List.getElem_mem hk,hb.2⟩,fun _=>rfl⟩
 refine zaf (by omega) ?_
 refine ⟨mk-1,by omega,k+1,by omega,rfl,by omega,hx3,fun x hx=>?_⟩
 rw [List.take_succ_eq_append_getElem hk] at hx
 rcases List.mem_append.1 hx with hx | hx
 · exact hno x hx
 simp only [List.mem_singleton] at hx
 subst hx
 exact fun h=>hb (by rw [zpI,zaH];exact ⟨hpk,h⟩)
theorem zkQ {w W1 W2:World} {v1 v2:Value} {n:Nat} {A:List DArc} {p:List Nat} (h1:Is W1 v1 A) (e1:Ext W1 w) (h2:Is W2 v2 (zaI p)) (e2:Ext W2 w) (hn:n≤60) (hA:∀ a∈A,(0≤a.fr∧a.fr<n)∧0≤a.to∧a.to<n) (hl:A.length≤2000) (hp:∀ x∈p,x<n) (hpl:p.length≤60) :
   CALL Tryz.prog 185 [.int .i64 (n:Int),v1,v2] w fun r w'=>Ext w w'∧∃ b,r=.bool b∧(b=true↔zol (nxA n A) p):=by
 refine F185_call ?_
 unfold F185
 refine (zfM h1 e1 hn hA hl).mono ?_
 rintro _ w1 ⟨hx1,rfl⟩
 refine zaC ?_
 refine zbH (fun h=>by cases h) (fun _=>?_)
 refine (zi3 h1 (e1.trans hx1) hn hA hl).mono ?_
 rintro v16 w2 ⟨hx2,ho2⟩
 have hWay:=ho2.is
 refine zat p.length (fun k us w'=>us=[.int .i64 (k:Int)]∧k≤p.length∧Ext w2 w'∧∀ x∈p.take k,¬RP (nxA n A) x x) 0 (Nat.zero_le _) ⟨rfl,Nat.zero_le _,Ext.refl _,by simp⟩ ?_
 rintro k mk q w3 hkm ⟨hq,hkl,hx3,hno⟩
 simp only [List.map_cons,List.map_nil,List.cons.injEq,and_true] at hq
 rw [hq]
 refine zae u25 h2 ?_
 rw [zag]
 refine zah ?_
 refine br (fun hlt=>?_) (fun hge=>?_)
 case refine_2=>
   have hke:k=p.length:=by omega
   rw [hke,List.take_length] at hno
   exact ⟨(hx1.trans hx2).trans hx3,false,rfl,(fun h=>by cases h),fun ⟨x,hx,hr⟩=>absurd hr (hno x hx)⟩
 have hk:k<p.length:=by omega
 have hpk:=hp _ (List.getElem_mem hk)
 have hxd:=zak w3
 generalize World.drew1 w3=w4 at *
 have hx4:=hx3.trans hxd
 have e4:=((e2.trans hx1).trans hx2).trans hx4
 refine zac (i:=k) u25 ty3 h2 (by rw [zag];exact hk) fun b3 o3 hA3=>?_
 rw [zbb] at hA3
 refine zad ty3 hA3 e4 fun _=>?_
 refine za4 (by unfold I64;omega) ?_
 refine l01In_ok.mono ?_
 rintro _ w5 ⟨hx5,rfl⟩
 refine br (fun _=>?_) (fun h=>absurd ⟨by omega,by omega⟩ h)
 refine zac (i:=k) u25 ty3 h2 (by rw [zag];exact hk) fun b6 o6 hA6=>?_
 rw [zbb] at hA6
 refine zad ty3 hA6 (e4.trans hx5) fun _=>?_
 have hi:p[k]<(zeU (nxA n A) n).length:=by rw [zmh];exact hpk
 refine zac (i:=p[k]) zuy zc6 hWay hi fun b7 o7 hA7=>?_
 refine zab zc6 hA7 (hx4.trans hx5) fun v7 h7=>?_
 refine zac (i:=k) u25 ty3 h2 (by rw [zag];exact hk) fun b8 o8 hA8=>?_
 rw [zbb] at hA8
 refine zad ty3 hA8 (e4.trans hx5) fun _=>?_
 have hj:p[k]<((zeU (nxA n A) n)[p[k]]).length:=by rw [zgI,zau];exact hpk
 refine zac (i:=p[k]) zdX ty4 h7 hj fun b9 o9 hA9=>?_
 refine za3 ty4 hA9 (hx4.trans hx5) ?_
 have hat:=zou hi hj
 refine zbH (fun hb=>?_) (fun hb=>?_)
 · exact ⟨((hx1.trans hx2).trans hx4).trans hx5,true,rfl,fun _=>⟨_,List.getElem_mem hk,hat.1 hb⟩,fun _=>rfl⟩
 refine zaf (by omega) ?_
 refine ⟨mk-1,by omega,k+1,by omega,rfl,by omega,hx4.trans hx5,fun x hx=>?_⟩
 rw [List.take_succ_eq_append_getElem hk] at hx
 rcases List.mem_append.1 hx with hx | hx
 · exact hno x hx
 simp only [List.mem_singleton] at hx
 subst hx
 exact fun h=>by rw [hat.2 h] at hb;cases hb
def F114 (a0:Value) (w:World) (R:VW):Prop:=
 rN 65 3 a0 w fun x8=>
 LOOPI [3,9] [(Value.slice none 0 0),(iV 0)] w fun u3 w next3=>
 rC (u3 9) x8 w fun x10=>
 BR x10
 (rX 65 a0 (u3 9) w fun x11=>
 rL 72 x11 w fun x12=>
 oP (Instr.alloc 72 true (.tuple #[])) w fun x5 w=>
 oS 72 x5 x12 w fun w=>
 rF 72 x5 0 w fun x13=>
 rL 3 x13 w fun x14=>
 rF 72 x5 1 w fun x15=>
 rL 3 x15 w fun x16=>
 rD (Instr.build 195 #[(0,x14),(1,x16)]) w fun x17=>
 oP (Instr.alloc 195 true (.tuple #[])) w fun x6 w=>
 oS 195 x6 x17 w fun w=>
 rL 195 x6 w fun x19=>
 cL 182 [(u3 3),x19] w fun x20 w=>
 rD (Op.unary .not x20) w fun x21=>
 BR x21
 (rL 195 x6 w fun x23=>
 oP (Instr.buildSlice 131 1 #[(0,x23)]) w fun x24 w=>
 oP (Builtin.append_ #[131,131] 131 [(u3 3),x24].toArray) w fun x25 w=>
 rA (u3 9) (iV 1) w fun x26=>
 next3 [x25,x26] w)
 (rA (u3 9) (iV 1) w fun x26=>
 next3 [(u3 3),x26] w))
 (R (u3 3) w)
def cfg114:Cfg:=⟨extL,[],[(3,134217320,[3,9])],[],[],[],[]⟩
theorem F114_call {a0:Value} {w:World} {R:VW} (h:F114 a0 w R):cL 114 [a0] w R:=co (g:=cfg114) Tryz.func114 (by kernel_rfl) (by kernel_rfl) (by kernel_rfl) h
open Rep (rep)
theorem zi4 {w W1:World} {v1:Value} {c:DCode} (h1:Is W1 v1 (zdp c)) (e1:Ext W1 w) (hc:CodeR c) :
   CALL Tryz.prog 114 [v1] w fun r w'=>Ext w w'∧∃ A,AInv (zdp c) A∧Own w.heap.size w' r A:=by
 refine F114_call ?_
 unfold F114
 have hol:=zkD hc
 have h6l:=hc.1.locks6
 refine zae u65 h1 ?_
 refine zat (zdp c).length (fun k us w'=>∃ out A,us=[out,.int .i64 (k:Int)]∧k≤(zdp c).length∧Ext w w'∧RowI w.heap.size w'.heap.size 195 w' out A∧AInv ((zdp c).take k) A) 0 (Nat.zero_le _) ⟨_,[],rfl,Nat.zero_le _,Ext.refl _,zdh _ _ _ _,by rw [List.take_zero];exact AInv.start⟩ ?_
 rintro k mk q w2 hkm ⟨out,A,hq,hkl,hx2,hr2,hI⟩
 obtain ⟨hq1,hq2⟩:=zdY hq
 rw [hq1,hq2]
 have hs2:=hx2.size
 refine zah ?_
 refine br (fun hlt=>?_) (fun hge=>?_)
 case refine_2=>
   have hke:k=(zdp c).length:=by omega
   rw [hke,List.take_length] at hI
   exact ⟨hx2,A,hI,hr2.own.own⟩
 have hk:k<(zdp c).length:=by omega
 have hso:((zdp c).take k++[(zdp c)[k]]).Pairwise ltO:=by
   rw [←List.take_succ_eq_append_getElem hk]
   exact (znm c).sublist (List.take_sublist _ _)
 have hlenA:=zkE h6l hI.pw (hI.rng hc)
 refine zac u65 zj1 h1 hk fun b3 o3 hA3=>?_
 refine zab zj1 hA3 (e1.trans hx2) fun v12 h12=>?_
 refine zcc zvf rfl zj1 rfl h12 (e1.trans hx2) fun w3 hx3 hAt3 hV3=>?_
 refine zaa zh3 ?_
 refine zad ty3 (zdT hAt3) (Ext.refl _) fun hI0=>?_
 refine zaa zh4 ?_
 refine zad ty3 (zdU hAt3) (Ext.refl _) fun hI1=>?_
 refine zaQ (cells:=#[.int .i64 (zdp c)[k].fr,.int .i64 (zdp c)[k].to]) (by kernel_rfl) ?_
 have hIs:Is w3 (.agg #[.int .i64 (zdp c)[k].fr,.int .i64 (zdp c)[k].to]) (zfD (zdp c)[k]):=zjO.2 ⟨rfl,hI0,hI1⟩
 refine zcc zr3 rfl zdr rfl hIs (Ext.refl _) fun w4 hx4 hAt4 hV4=>?_
 refine zab zdr hAt4 (Ext.refl _) fun v19 h19=>?_
 have hr4:=(hr2.ext hx3).ext hx4
 refine (zjh hr4.is (Ext.refl _) h19 (Ext.refl _)).mono ?_
 rintro _ w5 ⟨hx5,rfl⟩
 have hx25:=(hx3.trans hx4).trans hx5
 refine zaA ?_
 refine br (fun hno=>?_) (fun hyes=>?_)
 · refine zab zdr hAt4 hx5 fun v23 h23=>?_
   have hs25:=hx25.size
   refine zct (lo2:=w5.heap.size) (hi2:=w5.heap.size) (x:=zfD (zdp c)[k]) zjq zdr zvw zuP (by decide) (hr4.ext hx5) (by omega) (zhO (h23.ext hx5)) (by omega) (by omega) (by rw [zan];omega) (by omega) fun v' w9 hc9 hr9=>?_
   refine zaf (by omega) ?_
   refine ⟨mk-1,by omega,k+1,by omega,v',A++[zfD (zdp c)[k]],rfl,by omega,(hx2.trans hx25).chgI hc9 (Nat.le_refl _),hr9,?_⟩
   rw [List.take_succ_eq_append_getElem hk]
   exact hI.new hso hno
 have hyes:=Decidable.not_not.1 hyes
 refine zaf (by omega) ?_
 refine ⟨mk-1,by omega,k+1,by omega,out,A,rfl,by omega,hx2.trans hx25,(hr4.ext hx5).mono (Nat.le_refl _) hx25.size,?_⟩
 rw [List.take_succ_eq_append_getElem hk]
 exact hI.old hyes
theorem zkR {c:DCode} (hc:CodeR c) {A:List DArc} (h:AInv (zdp c) A):(∀ a∈A,(0≤a.fr∧a.fr<c.locks.length)∧0≤a.to∧a.to<c.locks.length)∧A.length≤2000:=by
 have h1:AInv ((zdp c).take (zdp c).length) A:=by rw [List.take_length];exact h
 have h2:=h1.rng hc
 have:=zkE hc.1.locks6 h.pw h2
 exact ⟨h2,by omega⟩
open Classical in
noncomputable def znv (c:DCode) (k:Nat):List (List Nat):=((zaN c).take k).filter fun p=>decide (zol (nxL c) p)
theorem zsR {c:DCode} {k:Nat} (hk:k<(zaN c).length) (h:zol (nxL c) (zaN c)[k]):znv c (k+1)=znv c k++[(zaN c)[k]]:=by
 unfold znv
 rw [List.take_succ_eq_append_getElem hk,List.filter_append]
 simp [h]
theorem zul {c:DCode} {k:Nat} (hk:k<(zaN c).length) (h:¬zol (nxL c) (zaN c)[k]):znv c (k+1)=znv c k:=by
 unfold znv
 rw [List.take_succ_eq_append_getElem hk,List.filter_append]
 simp [h]
theorem zov (c:DCode) (k:Nat):(znv c k).length≤k:=Nat.le_trans (List.length_filter_le _ _) (by rw [List.length_take];omega)
theorem znw {c:DCode} {cs:List (List Int)} (hp:cs.Perm ((znv c (zaN c).length).map zaI)) (hs:cs.Pairwise fun a b=>hd0 a<hd0 b):cs=(zcA c).map zaI:=by
 refine ziT hs (by rw [List.pairwise_map];exact zl4 c) fun x=>?_
 rw [hp.mem_iff]
 simp only [List.mem_map,zcQ]
 unfold znv
 rw [List.take_length]
 simp only [List.mem_filter,decide_eq_true_eq]
theorem zsS {α:Type} {f:α→List Nat} {Z:List α} {z:α} (hz:z∈Z) (h:(Z.flatMap f).Nodup):(f z).Nodup:=by
 obtain ⟨l1,l2,rfl⟩:=List.append_of_mem hz
 rw [List.flatMap_append,List.nodup_append] at h
 have h2:=h.2.1
 rw [List.flatMap_cons,List.nodup_append] at h2
 exact h2.1
theorem zrD {w:World} {v:Value} {l:List (List Int)} {F:List Nat} (hM:Mine F w v l):∃ Z:List (List Nat×Value×List Int),l=Z.map (·.2.2)∧(∀ z∈Z,Mine z.1 w z.2.1 z.2.2)∧(Z.flatMap (·.1)).Nodup∧(∀ c∈Z.flatMap (·.1),c∈F) ∧
   (Z≠[]→∃ b o cap,v=.slice (some ⟨b,o,none⟩) l.length cap∧b∈F∧b∉Z.flatMap (·.1)∧w.rangeAt b o (Z.map (·.2.1))):=by
 obtain ⟨⟨c0,⟨a,cap,Fi,xs,rfl,h1,h2,hc,h4⟩,rfl⟩,hnd,hw⟩:=hM
 obtain ⟨Z,rfl,rfl,rfl,hZ⟩:=zf3 hc
 rcases h4 with ⟨h4,rfl⟩ | ⟨b,o,rfl,rfl,hr,hbl⟩
 · have:Z=[]:=by simpa using h4
   subst this
   exact ⟨[],rfl,by simp,by simp,by simp,fun h=>absurd rfl h⟩
 rw [List.nodup_cons] at hnd
 have hsub:∀ z∈Z,∀ c∈z.1,c∈Z.flatMap (·.1):=fun z hz c hc=>List.mem_flatMap.2 ⟨z,hz,hc⟩
 refine ⟨Z,rfl,fun z hz=>⟨⟨_,hZ z hz,rfl⟩,?_,hw.sub fun c hc=>List.mem_cons_of_mem _ (hsub z hz c hc)⟩,hnd.2,fun c hc=>List.mem_cons_of_mem _ hc,fun _=>⟨b,o,cap,rfl,by simp,hnd.1,hr⟩⟩
 exact zsS (f:=(·.1)) hz hnd.2
def F112 (a0:Value) (w:World) (R:VW):Prop:=
 (fun w=>NIL a0 <|
 rF 180 a0 0 w fun x10=>
 rF 28 x10 1 w fun x11=>
 rL 24 x11 w fun x12=>
 rN 24 3 x12 w fun x13=>
 (fun w_=>cL 110 [a0] w_ fun x15 w=>
 Ext w_ w ∧
 (fun w_=>cL 114 [x15] w_ fun x16 w=>
 Ext w_ w ∧
 cL 113 [x13,x16] w fun x19 w=>
 rN 31 3 x19 w fun x20=>
 LOOPI [5,21] [(Value.slice none 0 0),(iV 0)] w fun u4 w next4=>
 rC (u4 21) x20 w fun x22=>
 BR x22
 (rX 31 x19 (u4 21) w fun x23=>
 rL 25 x23 w fun x24=>
 cL 178 [x13,x16,x24] w fun x28 w=>
 BR x28
 (oP (Instr.buildSlice 31 1 #[(0,x24)]) w fun x31 w=>
 oP (Builtin.append_ #[31,31] 31 [(u4 5),x31].toArray) w fun x32 w=>
 rA (u4 21) (iV 1) w fun x33=>
 next4 [x32,x33] w)
 (rA (u4 21) (iV 1) w fun x33=>
 next4 [(u4 5),x33] w))
 (cL 179 [(u4 5),(Value.func (.func 180) #[] #[])] w fun x35 w=>
 R (u4 5) w)) w) w) (World.drew1 w)
def cfg112:Cfg:=⟨extL,[],[(4,17177772192,[5,21])],[(1,[0,1,2,3,4,5,6,7,8,9,10],384)],[],[],[]⟩
theorem F112_call {a0:Value} {w:World} {R:VW} (h:F112 a0 w R):cL 112 [a0] w R:=co (g:=cfg112) Tryz.func112 (by kernel_rfl) (by kernel_rfl) (by kernel_rfl) h
def F53 (a0:Value) (w:World) (R:VW):Prop:=
 oP (Instr.box 28 a0) w fun x1 w=>
 rL 28 x1 w fun x6=>
 cL 109 [x6] w fun x7 w=>
 rE x7 0 w fun x8=>
 rE x7 1 w fun x9=>
 rD (Op.unary .not x9) w fun x11=>
 BR x11
 (R (Value.slice none 0 0) w)
 (cL 112 [x8] w fun x13 w=>
 R x13 w)
def cfg53:Cfg:=⟨extL,[],[],[],[],[],[]⟩
theorem F53_call {a0:Value} {w:World} {R:VW} (h:F53 a0 w R):cL 53 [a0] w R:=co (g:=cfg53) Tryz.func53 (by kernel_rfl) (by kernel_rfl) (by kernel_rfl) h
def F54 (a0:Value) (w:World) (R:VW):Prop:=
 oP (Instr.box 28 a0) w fun x1 w=>
 rL 28 x1 w fun x10=>
 cL 109 [x10] w fun x11 w=>
 rE x11 0 w fun x12=>
 rE x11 1 w fun x13=>
 rD (Op.unary .not x13) w fun x15=>
 BR x15
 (R (Value.tuple #[(Value.slice none 0 0),(Value.bool false)]) w)
 (cL 112 [x12] w fun x18 w=>
 rN 31 3 x18 w fun x19=>
 rB .gtr 3 T0 U0 x19 (iV 0) w fun x20=>
 BR x20
 (R (Value.tuple #[(Value.slice none 0 0),(Value.bool false)]) w)
 ((fun w=>rF 28 x1 1 w fun x22=>
 rL 24 x22 w fun x23=>
 rN 24 3 x23 w fun x24=>
 (fun w_=>cL 110 [x12] w_ fun x26 w=>
 Ext w_ w ∧
 (fun w_=>cL 114 [x26] w_ fun x27 w=>
 Ext w_ w ∧
 (fun w_=>cL 113 [x24,x27] w_ fun x28 w=>
 Ext w_ w ∧
 rN 31 3 x28 w fun x29=>
 LOOPI [6,30] [(Value.slice none 0 0),(iV 0)] w fun u6 w next6=>
 rC (u6 30) x29 w fun x31=>
 BR x31
 (rX 31 x28 (u6 30) w fun x32=>
 rL 25 x32 w fun x33=>
 oP (Builtin.append_ #[25,25] 25 [(u6 6),x33].toArray) w fun x36 w=>
 rA (u6 30) (iV 1) w fun x37=>
 next6 [x36,x37] w)
 (R (Value.tuple #[(u6 6),(Value.bool true)]) w)) w) w) w) (World.drew1 w)))
def cfg54:Cfg:=⟨extL,[],[(6,273804165440,[6,30])],[(5,[0,1,2,3,8,4,5,6,7],112)],[],[],[]⟩
theorem F54_call {a0:Value} {w:World} {R:VW} (h:F54 a0 w R):cL 54 [a0] w R:=co (g:=cfg54) Tryz.func54 (by kernel_rfl) (by kernel_rfl) (by kernel_rfl) h
open Rep (rep)
theorem zmk {α β:Type} {f:α→List β} {l:List α} {k:Nat} {x:β} (h:x∈(l.take k).flatMap f):x∈l.flatMap f:=by
 obtain ⟨z,hz,hx⟩:=List.mem_flatMap.1 h
 exact List.mem_flatMap.2 ⟨z,List.mem_of_mem_take hz,hx⟩
theorem zpt {α:Type} {f:α→List Nat} {l:List α} {k:Nat} (hk:k<l.length) (hn:(l.flatMap f).Nodup):∀ c∈f l[k],c∉(l.take k).flatMap f:=fun c hc h=>by
 have e:l=l.take k++l[k] :: l.drop (k+1):=by rw [←List.drop_eq_getElem_cons hk,List.take_append_drop]
 rw [e,List.flatMap_append,List.nodup_append] at hn
 exact hn.2.2 c h c (by rw [List.flatMap_cons];exact List.mem_append_left _ hc) rfl
theorem zdl {α β:Type} {f:α→List β} {l:List α} {k:Nat} (hk:k<l.length):(l.take (k+1)).flatMap f=(l.take k).flatMap f++f l[k]:=by
 rw [List.take_succ_eq_append_getElem hk,List.flatMap_append];simp
theorem zml {w W0:World} {b:Nat} {c:DCode} (hW:WAt W0 b c) (e0:Ext W0 w) (hc:CodeR c) :
   CALL Tryz.prog 112 [.pointer (some ⟨b,0,none⟩)] w fun r w'=>Ext w w'∧Own w.heap.size w' r ((zcA c).map zaI):=by
 refine F112_call ?_
 unfold F112
 have h6l:=hc.1.locks6
 have hcode:=hW.wl.code
 have hxd:=zak w
 generalize World.drew1 w=w1 at *
 refine NIL.mk rfl ?_
 refine zaa zcd ?_
 refine zaa zdy ?_
 refine zab zc5 (zaZ hcode) (e0.trans hxd) fun v12 h12=>?_
 refine zae u24 h12 ?_
 refine (ziX hW (e0.trans hxd) hc).mono ?_
 rintro v15 w2 ⟨hx2,ho2⟩
 refine ⟨hx2,?_⟩
 refine (zi4 ho2.is (Ext.refl _) hc).mono ?_
 rintro v16 w3 ⟨hx3,A,hAI,ho3⟩
 refine ⟨hx3,?_⟩
 obtain ⟨hAr,hAl⟩:=zkR hc hAI
 refine (zi1 ho3.is (Ext.refl _) (by omega) hAr hAl).mono ?_
 rintro v19 w4 ⟨hx4,ho4⟩
 rw [zgF hc hAI] at ho4
 have hx03:=(hxd.trans hx2).trans hx3
 have hs3:=hx03.size
 have hs4:=hx4.size
 obtain ⟨F,hM,hF⟩:=ho4
 change Mine F w4 v19 ((zaN c).map zaI) at hM
 have hll:=zeB c
 refine zae u31 hM.is ?_
 rw [List.length_map]
 obtain ⟨Z,hZl,hZ,hZn,hZF,hZs⟩:=zrD hM
 have hZlen:Z.length=(zaN c).length:=by have:=congrArg List.length hZl;simpa using this.symm
 refine zat (zaN c).length (fun k us w'=>∃ out FO,us=[out,.int .i64 (k:Int)]∧k≤(zaN c).length∧Ext w3 w'∧w4.heap.size≤w'.heap.size∧RowG FO 25 w' out ((znv c k).map zaI)∧FO.Nodup∧(∀ x∈FO,x∈(Z.take k).flatMap (·.1)∨w4.heap.size≤x)∧∀ x,x<w4.heap.size→x∉(Z.take k).flatMap (·.1)→w'.heap[x]?=w4.heap[x]?) 0 (Nat.zero_le _) ⟨_,[],rfl,Nat.zero_le _,hx4,Nat.le_refl _,.inl ⟨none,rfl,by simp [znv],rfl⟩,List.nodup_nil,by simp,fun _ _ _=>rfl⟩ ?_
 rintro k mk q w5 hkm ⟨out,FO,hq,hkl,hx5,hs5,hr5,hn5,hFO,hkeep⟩
 obtain ⟨hq1,hq2⟩:=zdY hq
 rw [hq1,hq2]
 have hcl:=zov c k
 have hFOge:∀ x∈FO,w3.heap.size≤x:=fun x hx=>by
   rcases hFO x hx with h | h
   · exact hF x (hZF x (zmk h))
   omega
 refine zah ?_
 refine br (fun hlt=>?_) (fun hge=>?_)
 case refine_2=>
   have hke:k=(zaN c).length:=by omega
   rw [hke] at hr5
   have hown:OwnI w3.heap.size w5.heap.size w5 out ((znv c (zaN c).length).map zaI):=⟨FO,⟨hr5.own,hn5,hr5.wr⟩,fun x hx=>⟨hFOge x hx,hr5.lt x hx⟩⟩
   have hin:∀ p∈znv c (zaN c).length,p∈zaN c:=fun p hp=>by
     unfold znv at hp
     exact List.mem_of_mem_take (List.mem_filter.1 hp).1
   refine (zsE hown (by rw [List.length_map];have:=zov c (zaN c).length;omega) (fun x hx=>?_) (fun x hx=>?_) ?_).mono ?_
   · obtain ⟨p,hp,rfl⟩:=List.mem_map.1 hx
     obtain ⟨n,_,h2,_⟩:=zdk (hin p hp)
     intro e
     have h3:p=[]:=List.eq_nil_of_length_eq_zero (by rw [←zag,e];rfl)
     rw [h3] at h2;cases h2
   · obtain ⟨p,hp,rfl⟩:=List.mem_map.1 hx
     obtain ⟨n,h1,_,h2⟩:=zdk (hin p hp)
     rw [zc2 h1];omega
   · rw [List.pairwise_map]
     unfold znv
     exact ((zl3 c).sublist (List.take_sublist _ _)).filter _
   rintro _ w6 ⟨hc6,cs',ho6,hp6,hs6⟩
   rw [znw hp6 hs6] at ho6
   exact ⟨(hx03.trans hx5).chgI hc6 hs3,ho6.own.mono hs3⟩
 have hk:k<(zaN c).length:=by omega
 have hkZ:k<Z.length:=by omega
 obtain ⟨b9,o9,cap,rfl,hbF,hbZ,hrZ⟩:=hZs (List.ne_nil_of_length_pos (by omega))
 have hzk:=hZ _ (List.getElem_mem hkZ)
 have hlk:Z[k].2.2=zaI (zaN c)[k]:=by
   have h1:((zaN c).map zaI)[k]?=(Z.map (·.2.2))[k]?:=by rw [hZl]
   rw [List.getElem?_map,List.getElem?_map,List.getElem?_eq_getElem hk,List.getElem?_eq_getElem hkZ] at h1
   simpa using h1.symm
 have hap:=zpt (f:=(·.1)) hkZ hZn
 have hzk5:Mine Z[k].1 w5 Z[k].2.1 Z[k].2.2:=hzk.keep fun x hx=>hkeep x (hzk.lt x hx) (hap x hx)
 have hb5:w5.heap[b9]?=w4.heap[b9]?:=hkeep b9 (hM.lt b9 hbF) fun h=>hbZ (zmk h)
 have hr9:w5.rangeAt b9 (o9+k*1) [Z[k].2.1]:=fun j v hj=>by
   cases j with
   | zero=>
     simp only [List.getElem?_cons_zero,Option.some.injEq] at hj
     subst hj
     rw [World.cell?_of_block (w:=w4) hb5,Nat.mul_one,Nat.add_zero]
     exact hrZ k _ (by rw [List.getElem?_map,List.getElem?_eq_getElem hkZ];rfl)
   | succ j=>simp at hj
 refine zaM (v:=.pointer (some ⟨b9,o9+k*1,none⟩)) (fun w' _=>by rw [zcb u31 zbG (by omega) (by rw [List.length_map];omega)];simp) ?_
 refine zrW (α:=List Int) zbG (by
   obtain ⟨cs,hr,hv⟩:=hzk5.own
   obtain ⟨v,rfl⟩:∃ v,cs=[v]:=List.length_eq_one_iff.1 (Rep.len hr)
   have:Z[k].2.1=v:=hv
   rw [this];exact hr) hr9 ?_
 change CALL Tryz.prog _ [_,_,Z[k].2.1] w5 _
 rw [hlk] at hzk5
 refine (zkP ho3.is hx5 hzk5.is (Ext.refl _) (by omega) hAr hAl (zcP (List.getElem_mem hk)).2 (by have:=(zcP (List.getElem_mem hk)).1;omega)).mono ?_
 rintro _ w6 ⟨hx6,bb,rfl,hbb⟩
 rw [zgF hc hAI] at hbb
 have hs6:=hx6.size
 have hr6:=hr5.keep fun x hx=>hx6.heap (hr5.lt x hx)
 have hkeep6:∀ x,x<w4.heap.size→x∉(Z.take k).flatMap (·.1)→w6.heap[x]?=w4.heap[x]?:=fun x hx hn=>(hx6.heap (by omega)).trans (hkeep x hx hn)
 refine zbH (fun hy=>?_) (fun hn=>?_)
 · have hcy:=hbb.1 hy
   refine zgn (K:=fun w1 r w2=>_) u31 zbG z25 zu7 (by decide) hr6 hn5 (hzk5.ext hx6) (fun x hx hxF=>?_) (by rw [List.length_map,zan];omega) (by rw [List.length_map];omega) (fun w7 v' w8 G' hx7 hc8 hR8 hN8 hs8=>?_) fun s w7 _ h=>h
   · rcases hFO x hxF with h | h
     · exact hap x hx h
     have:=hzk.lt x hx;omega
   refine zaf (by omega) ?_
   refine ⟨mk-1,by omega,k+1,by omega,v',G',rfl,by omega,((hx5.trans hx6).trans hx7).chg_trans hc8 hFOge,?_,?_,hN8,fun x hx=>?_,fun x hx hn=>?_⟩
   · have:=hx7.size;have:=hc8.size;omega
   · rw [zsR hk hcy,List.map_append];exact hR8
   · rw [zdl hkZ]
     rcases hs8 x hx with h | h | h
     · rcases hFO x h with h | h
       · exact .inl (List.mem_append_left _ h)
       exact .inr h
     · exact .inl (List.mem_append_right _ h)
     exact .inr (by omega)
   rw [zdl hkZ] at hn
   have hn1:x∉(Z.take k).flatMap (·.1):=fun h=>hn (List.mem_append_left _ h)
   have hnF:x∉FO:=fun h=>by
     rcases hFO x h with h | h
     · exact hn1 h
     omega
   have h7:=hx7.size
   rw [hc8.block x (by omega) hnF,hx7.heap (by omega)]
   exact hkeep6 x hx hn1
 have hcy:¬zol (nxL c) (zaN c)[k]:=fun h=>by rw [hbb.2 h] at hn;cases hn
 refine zaf (by omega) ?_
 refine ⟨mk-1,by omega,k+1,by omega,out,FO,rfl,by omega,hx5.trans hx6,by omega,by rw [zul hk hcy];exact hr6,hn5,fun x hx=>?_,fun x hx hn=>?_⟩
 · rw [zdl hkZ]
   rcases hFO x hx with h | h
   · exact .inl (List.mem_append_left _ h)
   exact .inr h
 rw [zdl hkZ] at hn
 exact hkeep6 x hx fun h=>hn (List.mem_append_left _ h)
open Classical in
noncomputable def zb5 (c:DCode):List (List Int):=if CodeR c then (zcA c).map zaI else []
theorem zpu (c:DCode):(zb5 c).length≤6∧∀ x∈zb5 c,x.length≤6:=by
 unfold zb5
 split
 · rename_i h
   have h6:=h.1.locks6
   refine ⟨by rw [List.length_map];have:=zpd c;omega,fun x hx=>?_⟩
   obtain ⟨p,hp,rfl⟩:=List.mem_map.1 hx
   have:=(zl5 hp).1
   rw [zag];omega
 simp
theorem zi5 {w W0:World} {v0:Value} {c:DCode} (h0:Is W0 v0 c) (e0:Ext W0 w) :
   CALL Tryz.prog 53 [v0] w fun r w'=>Ext w w'∧Own w.heap.size w' r (zb5 c):=by
 refine F53_call ?_
 unfold F53
 refine zbS h0 e0 fun w1 hx1 hA=>?_
 refine zab zcF hA (Ext.refl _) fun v6 h6=>?_
 refine (zfB h6 (Ext.refl _)).mono ?_
 rintro r7 w2 ⟨hx2,hr⟩
 have hs1:=hx1.size
 have hs2:=hx2.size
 rcases hr with ⟨hn,rfl⟩ | ⟨hc,b,rfl,hW⟩
 · refine zaO rfl ?_
   refine zaO rfl ?_
   refine zaC ?_
   refine zbH (fun _=>?_) (fun h=>by cases h)
   refine ⟨hx1.trans hx2,?_⟩
   unfold zb5;rw [if_neg hn]
   exact zhW rfl
 refine zaO rfl ?_
 refine zaO rfl ?_
 refine zaC ?_
 refine zbH (fun h=>by cases h) (fun _=>?_)
 refine (zml hW (Ext.refl _) hc).mono ?_
 rintro v13 w3 ⟨hx3,ho3⟩
 refine ⟨hx1.trans (hx2.trans hx3),?_⟩
 unfold zb5;rw [if_pos hc]
 exact ho3.mono (by omega)
def okR (c:DCode):Prop:=CodeR c∧zcA c=[]
open Classical in
noncomputable def zeV (c:DCode):List Int:=if okR c then zaI (ziU c) else []
open Classical in
noncomputable def zrM (c:DCode):Bool:=decide (okR c)
theorem zrE (c:DCode) (hc:CodeR c):(ziU c).length≤36:=by
 have h6:=hc.1.locks6
 have h1:=ziV (m:=c.locks.length) (l:=zaN c) fun p hp=>(zcP hp).1
 have h2:=zeB c
 have:(zaN c).length*c.locks.length≤6*6:=Nat.mul_le_mul (by omega) h6
 unfold ziU;omega
theorem znx (c:DCode):(zeV c).length≤36:=by
 unfold zeV;split
 · rename_i h;rw [zag];exact zrE c h.1
 simp
theorem zpv {l:List (List Nat)} {k:Nat} (hk:k<l.length):zaI ((l.take (k+1)).flatten)=zaI ((l.take k).flatten)++zaI l[k]:=by
 rw [List.take_succ_eq_append_getElem hk,List.flatten_append,zbE];simp
theorem zmm {c:DCode} (hc:CodeR c) (k:Nat):((zaN c).take k).flatten.length≤36:=by
 have h6:=hc.1.locks6
 have h1:=ziV (m:=c.locks.length) (l:=(zaN c).take k) fun p hp=>(zcP (List.mem_of_mem_take hp)).1
 have h2:=zeB c
 have h3:((zaN c).take k).length≤6:=by rw [List.length_take];omega
 have:((zaN c).take k).length*c.locks.length≤6*6:=Nat.mul_le_mul h3 h6
 omega
theorem zkS {w W0:World} {v0:Value} {c:DCode} (h0:Is W0 v0 c) (e0:Ext W0 w) :
   CALL Tryz.prog 54 [v0] w fun r w'=>Ext w w'∧∃ v,r=.tuple #[v,.bool (zrM c)]∧Own w.heap.size w' v (zeV c):=by
 refine F54_call ?_
 unfold F54
 refine zbS h0 e0 fun w1 hx1 hA=>?_
 refine zab zcF hA (Ext.refl _) fun v6 h6=>?_
 refine (zfB h6 (Ext.refl _)).mono ?_
 rintro r7 w2 ⟨hx2,hr⟩
 have hs1:=hx1.size
 have hs2:=hx2.size
 have hno:¬okR c→Ext w w2∧∃ v,Value.tuple #[.slice none 0 0,.bool false]=.tuple #[v,.bool (zrM c)]∧Own w.heap.size w2 v (zeV c):=fun h=>
   ⟨hx1.trans hx2,.slice none 0 0,by unfold zrM;simp only [h,decide_false],by unfold zeV;rw [if_neg h];exact zhW rfl⟩
 rcases hr with ⟨hn,rfl⟩ | ⟨hc,b,rfl,hW⟩
 · refine zaO rfl ?_
   refine zaO rfl ?_
   refine zaC ?_
   refine zbH (fun _=>?_) (fun h=>by cases h)
   exact hno fun h=>hn h.1
 refine zaO rfl ?_
 refine zaO rfl ?_
 refine zaC ?_
 refine zbH (fun h=>by cases h) (fun _=>?_)
 refine (zml hW (Ext.refl _) hc).mono ?_
 rintro v18 w3 ⟨hx3,ho3⟩
 refine zae u31 ho3.is ?_
 rw [List.length_map]
 refine zcu ?_
 refine br (fun hg=>?_) (fun hg=>?_)
 · have h:¬okR c:=fun h=>by rw [h.2] at hg;simp at hg
   exact ⟨(hx1.trans hx2).trans hx3,.slice none 0 0,by unfold zrM;simp only [h,decide_false],by unfold zeV;rw [if_neg h];exact zhW rfl⟩
 have hok:okR c:=⟨hc,List.eq_nil_of_length_eq_zero (by omega)⟩
 have h6l:=hc.1.locks6
 have hxd:=zak w3
 generalize World.drew1 w3=w4 at *
 refine zaa zdy ?_
 refine zab zc5 (zaZ hA) ((hx2.trans hx3).trans hxd) fun v23 h23=>?_
 refine zae u24 h23 ?_
 refine (ziX hW (hx3.trans hxd) hc).mono ?_
 rintro v26 w5 ⟨hx5,ho5⟩
 refine ⟨hx5,?_⟩
 refine (zi4 ho5.is (Ext.refl _) hc).mono ?_
 rintro v27 w6 ⟨hx6,A,hAI,ho6⟩
 refine ⟨hx6,?_⟩
 obtain ⟨hAr,hAl⟩:=zkR hc hAI
 refine (zi1 ho6.is (Ext.refl _) (by omega) hAr hAl).mono ?_
 rintro v28 w7 ⟨hx7,ho7⟩
 rw [zgF hc hAI] at ho7
 change Own w6.heap.size w7 v28 ((zaN c).map zaI) at ho7
 refine ⟨hx7,?_⟩
 have hx27:=(((hx2.trans hx3).trans hxd).trans hx5).trans (hx6.trans hx7)
 have hs27:=hx27.size
 have hll:=zeB c
 refine zae u31 ho7.is ?_
 rw [List.length_map]
 refine zat (zaN c).length (fun k us w'=>∃ out,us=[out,.int .i64 (k:Int)]∧k≤(zaN c).length∧Ext w7 w'∧RowI w7.heap.size w'.heap.size 3 w' out (zaI ((zaN c).take k).flatten)) 0 (Nat.zero_le _) ⟨_,rfl,Nat.zero_le _,Ext.refl _,by rw [List.take_zero];exact zdh _ _ _ _⟩ ?_
 rintro k mk q w8 hkm ⟨out,hq,hkl,hx8,hr8⟩
 obtain ⟨hq1,hq2⟩:=zdY hq
 rw [hq1,hq2]
 have hs8:=hx8.size
 refine zah ?_
 refine br (fun hlt=>?_) (fun hge=>?_)
 · have hk:k<(zaN c).length:=by omega
   have hfl:=zmm hc k
   have hpl:=(zcP (List.getElem_mem hk)).1
   refine zac (i:=k) u31 zbG ho7.is (by rw [List.length_map];exact hk) fun b3 o3 hA3=>?_
   refine zab zbG hA3 hx8 fun v33 h33=>?_
   rw [List.getElem_map] at h33
   refine zgQ u25 ty3 zc3 hr8 hs8 h33 hx8 (by rw [zag,zag,zan];omega) (by rw [zag,zag];omega) fun v36 w9 hc9 hr9=>?_
   refine zaf (by omega) ?_
   refine ⟨mk-1,by omega,k+1,by omega,v36,rfl,by omega,hx8.chgI hc9 (Nat.le_refl _),?_⟩
   rw [zpv hk]
   exact hr9
 have hke:k=(zaN c).length:=by omega
 rw [hke,List.take_length] at hr8
 refine ⟨(hx1.trans hx27).trans hx8,out,by unfold zrM;simp only [hok,decide_true],?_⟩
 unfold zeV;rw [if_pos hok]
 exact hr8.own.own.mono (by omega)
end Go.Proofs.YtbnjpfjjmhodnaaGreat
