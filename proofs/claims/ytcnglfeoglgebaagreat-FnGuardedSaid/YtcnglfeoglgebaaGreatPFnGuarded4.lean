/-
  Parts of the proof, put together by program.
-/
import Derived.Test.YtcnglfeoglgebaaGreatPFnGuarded3
set_option linter.unusedVariables false
set_option linter.unusedSimpArgs false
set_option linter.unusedSectionVars false
namespace Go.Proofs.YtcnglfeoglgebaaGreat
open Go Go.Sh Go.Proofs
open Rep (rep)
def F103 (a0:Value) (w:World) (R:VW):Prop:=
 NIL a0 <|
 rF 92 a0 0 w fun x13=>
 rF 36 x13 2 w fun x14=>
 rL 24 x14 w fun x15=>
 rN 24 3 x15 w fun x16=>
 (fun w0=>GPAR w0 [[(0,17)],[(1,18)],[(2,19)],[(3,20)],[(4,21),(3,20),(3,20)],[(5,22)],[(6,23),(5,22),(5,22)],[(7,24)],[(8,25),(7,24),(7,24)],[(9,26),(0,17),(0,17),(3,20),(4,21)],[(10,27),(9,26),(0,17),(3,20),(4,21)],[(10,27),(4,21),(0,17),(3,20),(4,21)],[(12,28),(1,18),(0,17),(1,18),(3,20),(4,21),(5,22),(6,23),(9,26),(10,27)],[(13,29),(12,28),(0,17),(1,18),(3,20),(4,21),(5,22),(6,23),(9,26),(10,27)],[(13,29),(6,23),(0,17),(1,18),(3,20),(4,21),(5,22),(6,23),(9,26),(10,27)],[(15,30),(2,19),(0,17),(1,18),(2,19),(3,20),(4,21),(5,22),(6,23),(7,24),(8,25),(9,26),(10,27),(12,28),(13,29)],[(16,31),(15,30),(0,17),(1,18),(2,19),(3,20),(4,21),(5,22),(6,23),(7,24),(8,25),(9,26),(10,27),(12,28),(13,29)],[(16,31),(8,25),(0,17),(1,18),(2,19),(3,20),(4,21),(5,22),(6,23),(7,24),(8,25),(9,26),(10,27),(12,28),(13,29)]] (fun B R Q=>
 (∀ (u1:Env) (T:Nat→Nat×Nat) (w:World),B w→w0.heap.size≤w.heap.size→zau [] w0.heap.size w.heap.size T→(True)→(fun w1=>R 0 w1 w∧Q 0 (upd u1 17 a0) (za3 T 0 (w1.heap.size,w.heap.size)) w) w) ∧
 (∀ (u1:Env) (T:Nat→Nat×Nat) (w:World),B w→w0.heap.size≤w.heap.size→zau [] w0.heap.size w.heap.size T→(True)→(fun w1=>R 1 w1 w∧Q 1 (upd u1 18 a0) (za3 T 1 (w1.heap.size,w.heap.size)) w) w) ∧
 (∀ (u1:Env) (T:Nat→Nat×Nat) (w:World),B w→w0.heap.size≤w.heap.size→zau [] w0.heap.size w.heap.size T→(True)→(fun w1=>R 2 w1 w∧Q 2 (upd u1 19 a0) (za3 T 2 (w1.heap.size,w.heap.size)) w) w) ∧
 (∀ (u1:Env) (T:Nat→Nat×Nat) (w:World),B w→w0.heap.size≤w.heap.size→zau [] w0.heap.size w.heap.size T→(True)→(fun w1=>R 3 w1 w∧Q 3 (upd u1 20 x16) (za3 T 3 (w1.heap.size,w.heap.size)) w) w) ∧
 (∀ (u1:Env) (T:Nat→Nat×Nat) (w:World),B w→w0.heap.size≤w.heap.size→zau [3,3] w0.heap.size w.heap.size T→(Q 3 u1 T w∧Q 3 u1 T w∧True)→(fun w1=>oP (Instr.makeSlice 33 (u1 20) (u1 20)) w fun x21 w=>
 R 4 w1 w∧Q 4 (upd u1 21 x21) (za3 T 4 (w1.heap.size,w.heap.size)) w) w) ∧
 (∀ (u1:Env) (T:Nat→Nat×Nat) (w:World),B w→w0.heap.size≤w.heap.size→zau [] w0.heap.size w.heap.size T→(True)→(fun w1=>R 5 w1 w∧Q 5 (upd u1 22 x16) (za3 T 5 (w1.heap.size,w.heap.size)) w) w) ∧
 (∀ (u1:Env) (T:Nat→Nat×Nat) (w:World),B w→w0.heap.size≤w.heap.size→zau [5,5] w0.heap.size w.heap.size T→(Q 5 u1 T w∧Q 5 u1 T w∧True)→(fun w1=>oP (Instr.makeSlice 33 (u1 22) (u1 22)) w fun x23 w=>
 R 6 w1 w∧Q 6 (upd u1 23 x23) (za3 T 6 (w1.heap.size,w.heap.size)) w) w) ∧
 (∀ (u1:Env) (T:Nat→Nat×Nat) (w:World),B w→w0.heap.size≤w.heap.size→zau [] w0.heap.size w.heap.size T→(True)→(fun w1=>R 7 w1 w∧Q 7 (upd u1 24 x16) (za3 T 7 (w1.heap.size,w.heap.size)) w) w) ∧
 (∀ (u1:Env) (T:Nat→Nat×Nat) (w:World),B w→w0.heap.size≤w.heap.size→zau [7,7] w0.heap.size w.heap.size T→(Q 7 u1 T w∧Q 7 u1 T w∧True)→(fun w1=>oP (Instr.makeSlice 33 (u1 24) (u1 24)) w fun x25 w=>
 R 8 w1 w∧Q 8 (upd u1 25 x25) (za3 T 8 (w1.heap.size,w.heap.size)) w) w) ∧
 (∀ (u1:Env) (T:Nat→Nat×Nat) (w:World),B w→w0.heap.size≤w.heap.size→zau [0,0,3,4] w0.heap.size w.heap.size T→(Q 0 u1 T w∧Q 0 u1 T w∧Q 3 u1 T w∧Q 4 u1 T w∧True)→(fun w1=>NIL (u1 17) <|
 R 9 w1 w∧Q 9 (upd u1 26 (u1 17)) (za3 T 9 (w1.heap.size,w.heap.size)) w) w) ∧
 (∀ (u1:Env) (T:Nat→Nat×Nat) (w:World),B w→w0.heap.size≤w.heap.size→zau [9,0,3,4] w0.heap.size w.heap.size T→(Q 9 u1 T w∧Q 0 u1 T w∧Q 3 u1 T w∧Q 4 u1 T w∧True)→(fun w1=>rF 92 (u1 26) 2 w fun x27=>
 R 10 w1 w∧Q 10 (upd u1 27 x27) (za3 T 10 (w1.heap.size,w.heap.size)) w) w) ∧
 (∀ (u1:Env) (T:Nat→Nat×Nat) (w:World),B w→w0.heap.size≤w.heap.size→zau [10,4,0,3,4] w0.heap.size w.heap.size T→(Q 10 u1 T w∧Q 4 u1 T w∧Q 0 u1 T w∧Q 3 u1 T w∧Q 4 u1 T w∧True)→(fun w1=>oS 33 (u1 27) (u1 21) w fun w=>
 R 11 w1 w∧Q 11 u1 (za3 T 11 (w1.heap.size,w.heap.size)) w) w) ∧
 (∀ (u1:Env) (T:Nat→Nat×Nat) (w:World),B w→w0.heap.size≤w.heap.size→zau [1,0,1,3,4,5,6,9,10,11] w0.heap.size w.heap.size T→(Q 1 u1 T w∧Q 0 u1 T w∧Q 1 u1 T w∧Q 3 u1 T w∧Q 4 u1 T w∧Q 5 u1 T w∧Q 6 u1 T w∧Q 9 u1 T w∧Q 10 u1 T w∧Q 11 u1 T w∧True)→(fun w1=>NIL (u1 18) <|
 R 12 w1 w∧Q 12 (upd u1 28 (u1 18)) (za3 T 12 (w1.heap.size,w.heap.size)) w) w) ∧
 (∀ (u1:Env) (T:Nat→Nat×Nat) (w:World),B w→w0.heap.size≤w.heap.size→zau [12,0,1,3,4,5,6,9,10,11] w0.heap.size w.heap.size T→(Q 12 u1 T w∧Q 0 u1 T w∧Q 1 u1 T w∧Q 3 u1 T w∧Q 4 u1 T w∧Q 5 u1 T w∧Q 6 u1 T w∧Q 9 u1 T w∧Q 10 u1 T w∧Q 11 u1 T w∧True)→(fun w1=>rF 92 (u1 28) 3 w fun x29=>
 R 13 w1 w∧Q 13 (upd u1 29 x29) (za3 T 13 (w1.heap.size,w.heap.size)) w) w) ∧
 (∀ (u1:Env) (T:Nat→Nat×Nat) (w:World),B w→w0.heap.size≤w.heap.size→zau [13,6,11,0,1,3,4,5,6,9,10,11] w0.heap.size w.heap.size T→(Q 13 u1 T w∧Q 6 u1 T w∧Q 11 u1 T w∧Q 0 u1 T w∧Q 1 u1 T w∧Q 3 u1 T w∧Q 4 u1 T w∧Q 5 u1 T w∧Q 6 u1 T w∧Q 9 u1 T w∧Q 10 u1 T w∧Q 11 u1 T w∧True)→(fun w1=>oS 33 (u1 29) (u1 23) w fun w=>
 R 14 w1 w∧Q 14 u1 (za3 T 14 (w1.heap.size,w.heap.size)) w) w) ∧
 (∀ (u1:Env) (T:Nat→Nat×Nat) (w:World),B w→w0.heap.size≤w.heap.size→zau [2,0,1,2,3,4,5,6,7,8,9,10,11,12,13,14] w0.heap.size w.heap.size T→(Q 2 u1 T w∧Q 0 u1 T w∧Q 1 u1 T w∧Q 2 u1 T w∧Q 3 u1 T w∧Q 4 u1 T w∧Q 5 u1 T w∧Q 6 u1 T w∧Q 7 u1 T w∧Q 8 u1 T w∧Q 9 u1 T w∧Q 10 u1 T w∧Q 11 u1 T w∧Q 12 u1 T w∧Q 13 u1 T w∧Q 14 u1 T w∧True)→(fun w1=>NIL (u1 19) <|
 R 15 w1 w∧Q 15 (upd u1 30 (u1 19)) (za3 T 15 (w1.heap.size,w.heap.size)) w) w) ∧
 (∀ (u1:Env) (T:Nat→Nat×Nat) (w:World),B w→w0.heap.size≤w.heap.size→zau [15,0,1,2,3,4,5,6,7,8,9,10,11,12,13,14] w0.heap.size w.heap.size T→(Q 15 u1 T w∧Q 0 u1 T w∧Q 1 u1 T w∧Q 2 u1 T w∧Q 3 u1 T w∧Q 4 u1 T w∧Q 5 u1 T w∧Q 6 u1 T w∧Q 7 u1 T w∧Q 8 u1 T w∧Q 9 u1 T w∧Q 10 u1 T w∧Q 11 u1 T w∧Q 12 u1 T w∧Q 13 u1 T w∧Q 14 u1 T w∧True)→(fun w1=>rF 92 (u1 30) 4 w fun x31=>
 R 16 w1 w∧Q 16 (upd u1 31 x31) (za3 T 16 (w1.heap.size,w.heap.size)) w) w) ∧
 (∀ (u1:Env) (T:Nat→Nat×Nat) (w:World),B w→w0.heap.size≤w.heap.size→zau [16,8,14,0,1,2,3,4,5,6,7,8,9,10,11,12,13,14] w0.heap.size w.heap.size T→(Q 16 u1 T w∧Q 8 u1 T w∧Q 14 u1 T w∧Q 0 u1 T w∧Q 1 u1 T w∧Q 2 u1 T w∧Q 3 u1 T w∧Q 4 u1 T w∧Q 5 u1 T w∧Q 6 u1 T w∧Q 7 u1 T w∧Q 8 u1 T w∧Q 9 u1 T w∧Q 10 u1 T w∧Q 11 u1 T w∧Q 12 u1 T w∧Q 13 u1 T w∧Q 14 u1 T w∧True)→(fun w1=>oS 33 (u1 31) (u1 25) w fun w=>
 R 17 w1 w∧Q 17 u1 (za3 T 17 (w1.heap.size,w.heap.size)) w) w) ∧
 True)
 (fun B Q=>∀ (u1:Env) (T:Nat→Nat×Nat) (w:World),B w→w0.heap.size≤w.heap.size→zau [0,1,2,3,4,5,6,7,8,9,10,11,12,13,14,15,16,17] w0.heap.size w.heap.size T→(Q 0 u1 T w∧Q 1 u1 T w∧Q 2 u1 T w∧Q 3 u1 T w∧Q 4 u1 T w∧Q 5 u1 T w∧Q 6 u1 T w∧Q 7 u1 T w∧Q 8 u1 T w∧Q 9 u1 T w∧Q 10 u1 T w∧Q 11 u1 T w∧Q 12 u1 T w∧Q 13 u1 T w∧Q 14 u1 T w∧Q 15 u1 T w∧Q 16 u1 T w∧Q 17 u1 T w∧True) →
 LOOPI [33] [(iV 0)] w fun u3 w next3=>
 rC (u3 33) x16 w fun x34=>
 BR x34
 (cL 183 [a0,(u3 33)] w fun x38 w=>
 rN 33 3 x38 w fun x39=>
 LOOPI [40] [(iV 0)] w fun u6 w next6=>
 rC (u6 40) x39 w fun x41=>
 BR x41
 (rX 33 x38 (u6 40) w fun x42=>
 rL 3 x42 w fun x43=>
 NIL a0 <|
 rF 92 a0 0 w fun x46=>
 rF 36 x46 4 w fun x47=>
 rL 34 x47 w fun x48=>
 rX 34 x48 x43 w fun x50=>
 rL 84 x50 w fun x51=>
 oP (Instr.alloc 84 true (.tuple #[])) w fun x6 w=>
 oS 84 x6 x51 w fun w=>
 JOIN [] (fun J11=>
 rF 84 x6 0 w fun x52=>
 rL 3 x52 w fun x53=>
 rB .eql 3 T0 U0 x53 (iV 4) w fun x54=>
 BR x54
 ((fun w=>NIL a0 <|
 rF 92 a0 2 w fun x57=>
 rL 33 x57 w fun x58=>
 rX 33 x58 (u3 33) w fun x60=>
 rL 3 x60 w fun x61=>
 rF 84 x6 1 w fun x62=>
 rL 3 x62 w fun x63=>
 rD (convert 3 105 x63) w fun x64=>
 rB .shl 3 U0 T0 (iV 1) x64 w fun x65=>
 rB .or 3 T0 T0 x61 x65 w fun x66=>
 rX 33 x58 (u3 33) w fun x67=>
 oS 3 x67 x66 w fun w=>
 J11 [] w) (World.drew1 w))
 (J11 [] w)) (fun u11 w=>
 rF 84 x6 0 w fun x68=>
 rL 3 x68 w fun x69=>
 rB .eql 3 T0 U0 x69 (iV 5) w fun x70=>
 BR x70
 ((fun w=>NIL a0 <|
 rF 92 a0 3 w fun x73=>
 rL 33 x73 w fun x74=>
 rX 33 x74 (u3 33) w fun x76=>
 rL 3 x76 w fun x77=>
 rF 84 x6 1 w fun x78=>
 rL 3 x78 w fun x79=>
 rD (convert 3 105 x79) w fun x80=>
 rB .shl 3 U0 T0 (iV 1) x80 w fun x81=>
 rB .or 3 T0 T0 x77 x81 w fun x82=>
 rX 33 x74 (u3 33) w fun x83=>
 oS 3 x83 x82 w fun w=>
 rA (u6 40) (iV 1) w fun x84=>
 next6 [x84] w) (World.drew1 w))
 (rA (u6 40) (iV 1) w fun x84=>
 next6 [x84] w)))
 (rA (u3 33) (iV 1) w fun x85=>
 next3 [x85] w))
 (LOOPI [87] [(iV 0)] w fun u16 w next16=>
 rC (u16 87) x16 w fun x88=>
 BR x88
 (rD (convert 3 105 (u16 87)) w fun x91=>
 rB .shl 3 U0 T0 (iV 1) x91 w fun x92=>
 LOOPI [8,9] [x92,(Value.bool true)] w fun u20 w next20=>
 BR (u20 9)
 (NIL a0 <|
 rF 92 a0 2 w fun x97=>
 rL 33 x97 w fun x98=>
 cL 116 [x98,(u20 8)] w fun x100 w=>
 rB .or 3 T0 T0 (u20 8) x100 w fun x101=>
 rB .neq 3 T0 T0 x101 (u20 8) w fun x104=>
 next20 [x101,x104] w)
 (NIL a0 <|
 rF 92 a0 4 w fun x108=>
 rL 33 x108 w fun x109=>
 rX 33 x109 (u16 87) w fun x112=>
 oS 3 x112 (u20 8) w fun w=>
 rA (u16 87) (iV 1) w fun x113=>
 next16 [x113] w))
 (R (Value.tuple #[]) w)))) (World.drew1 w)
def cfg103:Cfg:={ ext:=extL,joins:=[(11,295143401579725455360,[])],loops:=[(3,77371252455336258591260776,[33]),(6,38685626227667034078969952,[40]),(16,20769187279396805603449450954491776,[87]),(20,81119734894292398653589812152064,[8,9])],draws:=[(10,[0,1,2,3,4,5,6,7,8,9,10,11,12,13],0),(12,[0,1,2,3,4,5,6,7,8,9,10,11,12,13],0)],pars:=[],gpars:=[(1,4294836224)] }
theorem F103_call {a0:Value} {w:World} {R:VW} (h:F103 a0 w R):cL 103 [a0] w R:=co (g:=cfg103) Tryz.func103 (by kernel_rfl) (by kernel_rfl) (by kernel_rfl) h
open Rep (rep)
abbrev sl (g n:Nat):Value:=.slice (some ⟨g,0,none⟩) n n
structure FC (W0 w:World) (b e:Nat) (c:DCode) (kc:List Value) (m g6 g7 g8:Nat) (c6 c7 c8:List Nat) (x9 x10:Value):Prop where
 wb:WB W0 w b e c kc m (sl g6 c.procs.length) (sl g7 c.procs.length) (sl g8 c.procs.length) x9 x10
 m6:Mine [g6] w (sl g6 c.procs.length) (zaZ c6)
 m7:Mine [g7] w (sl g7 c.procs.length) (zaZ c7)
 m8:Mine [g8] w (sl g8 c.procs.length) (zaZ c8)
 n6:W0.heap.size≤g6∧g6≠b∧g6≠m
 n7:W0.heap.size≤g7∧g7≠b∧g7≠m
 n8:W0.heap.size≤g8∧g8≠b∧g8≠m
 d67:g6≠g7
 d68:g6≠g8
 d78:g7≠g8
section
variable {W0 w w':World} {b e m g6 g7 g8:Nat} {c:DCode} {kc:List Value} {c6 c7 c8:List Nat} {x9 x10:Value}
theorem zcs {F:List Nat} {g:Nat} {v:Value} {l:List Int} (hm:Mine [g] w v l) (hc:Chg F w w') (hg:g∉F):Mine [g] w' v l:=hm.keep fun x hx=>by
 simp only [List.mem_cons,List.not_mem_nil,or_false] at hx;subst hx
 exact hc.block x (hm.lt x (by simp)) hg
theorem FC.step (h:FC W0 w b e c kc m g6 g7 g8 c6 c7 c8 x9 x10) (hx:Ext w w'):FC W0 w' b e c kc m g6 g7 g8 c6 c7 c8 x9 x10:=⟨h.wb.step hx,h.m6.ext hx,h.m7.ext hx,h.m8.ext hx,h.n6,h.n7,h.n8,h.d67,h.d68,h.d78⟩
theorem FC.set6 {i v:Nat} (h:FC W0 w b e c kc m g6 g7 g8 c6 c7 c8 x9 x10) (hc:Chg [g6] w w') (hm:Mine [g6] w' (sl g6 c.procs.length) ((zaZ c6).set i (v:Int))):FC W0 w' b e c kc m g6 g7 g8 (c6.set i v) c7 c8 x9 x10:=
 ⟨h.wb.chg hc (by simp [h.n6]),by rw [ze7];exact hm,zcs h.m7 hc (by simp [Ne.symm h.d67]),zcs h.m8 hc (by simp [Ne.symm h.d68]),h.n6,h.n7,h.n8,h.d67,h.d68,h.d78⟩
theorem FC.set7 {i v:Nat} (h:FC W0 w b e c kc m g6 g7 g8 c6 c7 c8 x9 x10) (hc:Chg [g7] w w') (hm:Mine [g7] w' (sl g7 c.procs.length) ((zaZ c7).set i (v:Int))):FC W0 w' b e c kc m g6 g7 g8 c6 (c7.set i v) c8 x9 x10:=
 ⟨h.wb.chg hc (by simp [h.n7]),zcs h.m6 hc (by simp [h.d67]),by rw [ze7];exact hm,zcs h.m8 hc (by simp [Ne.symm h.d78]),h.n6,h.n7,h.n8,h.d67,h.d68,h.d78⟩
theorem FC.set8 {i v:Nat} (h:FC W0 w b e c kc m g6 g7 g8 c6 c7 c8 x9 x10) (hc:Chg [g8] w w') (hm:Mine [g8] w' (sl g8 c.procs.length) ((zaZ c8).set i (v:Int))):FC W0 w' b e c kc m g6 g7 g8 c6 c7 (c8.set i v) x9 x10:=
 ⟨h.wb.chg hc (by simp [h.n8]),zcs h.m6 hc (by simp [h.d68]),zcs h.m7 hc (by simp [h.d78]),by rw [ze7];exact hm,h.n6,h.n7,h.n8,h.d67,h.d68,h.d78⟩
end
theorem WB.ins {W0 w:World} {b e m:Nat} {c:DCode} {kc:List Value} {x6 x7 x8 x9 x10:Value} (h:WB W0 w b e c kc m x6 x7 x8 x9 x10):∃ v,(kc++[Value.slice (some ⟨m,0,none⟩) c.ins.length c.ins.length,x6,x7,x8,x9,x10])[0+0+4]?=some v∧Is W0 v c.ins:=by
 obtain ⟨F,hr⟩:=h.code
 obtain ⟨F0,c0,F1,c1,F2,c2,F3,c3,F4,c4,rfl,rfl,⟨_,_,_,_,rfl,_⟩,⟨_,_,_,_,rfl,_⟩,⟨_,_,_,_,rfl,_⟩,⟨_,_,_,_,rfl,_⟩,hr4⟩:=ziR hr
 have hr4':=hr4
 obtain ⟨_,_,_,_,rfl,_⟩:=hr4
 exact ⟨_,rfl,_,_,hr4',rfl⟩
def fcD (c:DCode) (op:Int) (p:Nat) (M:List Nat) (j:Nat):Nat→Nat→Prop:=fun q r=>(q<p∧zk6 c q op r)∨(q=p∧∃ i∈M.take j,(zah c i).op=op∧agN c i=r)
theorem zpL {c:DCode} {op:Int} {p:Nat} {M:List Nat} {j i:Nat} (htj:∀ x,x∈M.take (j+1)↔x∈M.take j∨x=i) (hn:¬(zah c i).op=op) (q r:Nat):fcD c op p M j q r↔fcD c op p M (j+1) q r:=by
 unfold fcD
 refine or_congr Iff.rfl (and_congr Iff.rfl ?_)
 constructor
 · rintro ⟨x,hx,h⟩;exact ⟨x,(htj x).2 (.inl hx),h⟩
 rintro ⟨x,hx,h⟩
 rcases (htj x).1 hx with hx | rfl
 · exact ⟨x,hx,h⟩
 exact absurd h.1 hn
theorem zno {c:DCode} {op:Int} {p:Nat} {M:List Nat} {j i:Nat} (htj:∀ x,x∈M.take (j+1)↔x∈M.take j∨x=i) (hy:(zah c i).op=op) (q r:Nat):fcD c op p M (j+1) q r↔fcD c op p M j q r∨(q=p∧r=agN c i):=by
 unfold fcD
 constructor
 · rintro (h | ⟨h1,x,hx,h⟩)
   · exact .inl (.inl h)
   rcases (htj x).1 hx with hx | rfl
   · exact .inl (.inr ⟨h1,x,hx,h⟩)
   exact .inr ⟨h1,h.2.symm⟩
 rintro ((h | ⟨h1,x,hx,h⟩) | ⟨h1,h2⟩)
 · exact .inl h
 · exact .inr ⟨h1,x,(htj x).2 (.inl hx),h⟩
 exact .inr ⟨h1,i,(htj i).2 (.inr rfl),hy,h2.symm⟩
theorem znp {c:DCode} (hc:CodeR c) {op:Int} (hop:op=4∨op=5) {p:Nat} {M:List Nat} (hp:p<c.procs.length) (hM:∀ i,i∈M↔zay c p i) (q r:Nat):fcD c op p M M.length q r↔fcD c op (p+1) [] 0 q r:=by
 have key:(∃ i∈M.take M.length,(zah c i).op=op∧agN c i=r)↔zk6 c p op r:=by
   rw [List.take_length]
   constructor
   · rintro ⟨i,hi,h1,h2⟩
     have hl:=(hM i).1 hi
     have hin:=(za2 hc (by rw [hc.2.1.1];exact hp) hl).1
     exact ⟨i,hin,hl,h1,by rw [(zbv hc hin (by omega)).1,h2]⟩
   rintro ⟨i,hin,hl,h1,h2⟩
   have:=(zbv hc hin (by omega)).1
   exact ⟨i,(hM i).2 hl,h1,by omega⟩
 unfold fcD
 constructor
 · rintro (h | ⟨rfl,h⟩)
   · exact .inl ⟨by omega,h.2⟩
   exact .inl ⟨by omega,key.1 h⟩
 rintro (⟨h1,h2⟩ | ⟨_,x,hx,_⟩)
 · by_cases e:q=p
   · subst e;exact .inr ⟨rfl,key.2 h2⟩
   exact .inl ⟨by omega,h2⟩
 simp at hx
theorem znq {c:DCode} {op:Int} {p:Nat} {M:List Nat} (q r:Nat):fcD c op p [] 0 q r↔fcD c op p M 0 q r:=by
 unfold fcD;simp
theorem CS.done {c:DCode} {op:Int} {out:List Nat} (h:CS c out (fcD c op c.procs.length [] 0)):out=cls c op:=
 CS.eq_cls (op:=op) (h.mono fun q r hq hr=>by unfold fcD;simp [hq])
structure UM (c:DCode) (p m:Nat):Prop where
 lt:m<2^c.procs.length
 self:m.testBit p=true
 snd:∀ r,m.testBit r=true→FromP c p r
theorem UM.start {c:DCode} {p:Nat} (hp:p<c.procs.length):UM c p (2^p):=⟨Nat.pow_lt_pow_right (by omega) hp,by simp [Nat.testBit_two_pow],fun r hr=>by simp [Nat.testBit_two_pow] at hr;exact .inl hr.symm⟩
theorem zfB {c:DCode} {op:Int} {q r:Nat} (hq:q<c.procs.length):(zaC (cls c op) q).testBit r=true↔r<c.procs.length∧zk6 c q op r:=by rw [zpI hq,zbq]
theorem UM.more {c:DCode} (h8:c.procs.length≤8) {p m:Nat} (h:UM c p m):UM c p (m ||| orL (cls c 4) (zbo m)):=by
 have hb:∀ r,(orL (cls c 4) (zbo m)).testBit r=true→∃ i,i<c.procs.length∧m.testBit i=true∧r<c.procs.length∧zk6 c i 4 r:=fun r hr=>by
   obtain ⟨i,h1,h2,h3⟩:=(zfb h.lt (by omega)).1 hr
   exact ⟨i,h1,h2,(zfB h1).1 h3⟩
 refine ⟨Nat.or_lt_two_pow h.lt (zkb fun r hr=>by obtain ⟨i,_,_,h3,_⟩:=hb r hr;exact h3),by rw [Nat.testBit_or,h.self];rfl,fun r hr=>?_⟩
 rw [Nat.testBit_or,Bool.or_eq_true] at hr
 rcases hr with hr | hr
 · exact h.snd r hr
 obtain ⟨i,h1,h2,h3,h4⟩:=hb r hr
 exact (h.snd i h2).call h3 h4
theorem UM.fin {c:DCode} (h8:c.procs.length≤8) {p m:Nat} (h:UM c p m) (he:m ||| orL (cls c 4) (zbo m)=m):m=zfn (FromP c p) c.procs.length:=by
 have hlt:∀ r,m.testBit r=true→r<c.procs.length:=fun r hr=>Decidable.byContradiction fun hn=>by
   have:=Nat.testBit_lt_two_pow (Nat.lt_of_lt_of_le h.lt (Nat.pow_le_pow_right (by omega) (by omega:c.procs.length≤r)))
   rw [this] at hr;cases hr
 refine zdx fun r=>⟨fun hr=>⟨hlt r hr,h.snd r hr⟩,fun ⟨_,hf⟩=>?_⟩
 have step:∀ i j,m.testBit i=true→j∈zqp c i→m.testBit j=true:=fun i j hi hj=>by
   obtain ⟨hj1,hj2⟩:=zaI.1 hj
   rw [←he,Nat.testBit_or,(zfb h.lt (by omega)).2 ⟨i,hlt i hi,hi,(zfB (hlt i hi)).2 ⟨hj1,hj2⟩⟩]
   simp
 rcases hf with rfl | hf
 · exact h.self
 exact hf.keeps (p:=fun i=>m.testBit i=true) h.self step
theorem zlh {c:DCode} (h8:c.procs.length≤8) (op:Int):∀ x∈cls c op,x<256:=fun x hx=>by
 obtain ⟨q,_,rfl⟩:=List.mem_map.1 hx
 exact zaB h8
theorem zry {c:DCode} (h8:c.procs.length≤8):∀ x∈frs c,x<256:=fun x hx=>by
 obtain ⟨q,_,rfl⟩:=List.mem_map.1 hx
 exact zaB h8
theorem zi6 {w W0:World} {b e m:Nat} {c:DCode} {kc:List Value} {x6 x7 x8 x9 x10:Value} (H:WB W0 w b e c kc m x6 x7 x8 x9 x10) (hc:CodeR c) :
   CALL Tryz.prog 103 [.pointer (some ⟨b,0,none⟩)] w fun r w'=>r=.tuple #[]∧∃ g6 g7 g8,FC W0 w' b e c kc m g6 g7 g8 (cls c 4) (cls c 5) (frs c) x9 x10:=by
 refine F103_call ?_
 unfold F103
 have h8:=hc.1.procs8
 have hil:=hc.f.ins
 refine NIL.mk rfl ?_
 refine zaa zaU ?_
 refine zaa zc5 ?_
 refine zab zdQ (zbe H.code_at) (Ext.refl _) fun v15 h15=>?_
 refine zaf u24 h15 ?_
 have hxd:=zao w
 have H1:=H.step hxd
 have h6:(kc++[sl m c.ins.length]).length=6:=by rw [List.length_append,H.k5];rfl
 have hB0:fcB (World.drew1 w) b e (kc++[sl m c.ins.length]) x9 x10 (World.drew1 w):=⟨ChgI.refl _,x6,x7,x8,by rw [List.append_assoc];exact H1.blk⟩
 have hbl:=H1.blk.lt
 have hsd:(World.drew1 w).heap.size=w.heap.size:=rfl
 refine GPAR.mk (fcB (World.drew1 w) b e (kc++[sl m c.ins.length]) x9 x10) (fcR b e) (fcQ b e c.procs.length) hB0 (fun j w1 w2 h1 h2=>h1.step h6 h2) (fun j w1 w2 h=>h.sz) ?_ ?_ ?_
 · intro i j u u' T T' wa wb hij hBa hR hd hq
   match i,hij,hd,hq with
   | 0,_,hd,hq=>exact (hd (0,17) (by decide)).1.trans hq
   | 1,_,hd,hq=>exact (hd (1,18) (by decide)).1.trans hq
   | 2,_,hd,hq=>exact (hd (2,19) (by decide)).1.trans hq
   | 3,_,hd,hq=>exact (hd (3,20) (by decide)).1.trans hq
   | 4,_,hd,⟨g,q1,q2,q3,q4,q5⟩=>
     obtain ⟨e1,e2⟩:=hd (4,21) (by decide)
     simp only at e1 e2
     exact ⟨g,e1.trans q1,by rw [e2];exact q2,by rw [e2];exact q3,q4,hR.mine q4 q5⟩
   | 5,_,hd,hq=>exact (hd (5,22) (by decide)).1.trans hq
   | 6,_,hd,⟨g,q1,q2,q3,q4,q5⟩=>
     obtain ⟨e1,e2⟩:=hd (6,23) (by decide)
     simp only at e1 e2
     exact ⟨g,e1.trans q1,by rw [e2];exact q2,by rw [e2];exact q3,q4,hR.mine q4 q5⟩
   | 7,_,hd,hq=>exact (hd (7,24) (by decide)).1.trans hq
   | 8,_,hd,⟨g,q1,q2,q3,q4,q5⟩=>
     obtain ⟨e1,e2⟩:=hd (8,25) (by decide)
     simp only at e1 e2
     exact ⟨g,e1.trans q1,by rw [e2];exact q2,by rw [e2];exact q3,q4,hR.mine q4 q5⟩
   | 9,_,hd,hq=>exact (hd (9,26) (by decide)).1.trans hq
   | 10,_,hd,hq=>exact (hd (10,27) (by decide)).1.trans hq
   | 11,hij,hd,hq=>
     have e1:=(hd (4,21) (by decide)).1
     simp only at e1
     show ∃ cs,Blk b e wb cs∧cs[6]?=some (u' 21)
     rw [e1]
     exact hR.cell (fun hs=>by rcases hs with rfl | rfl | rfl<;>first | exact absurd rfl hij | decide) hq
   | 12,_,hd,hq=>exact (hd (12,28) (by decide)).1.trans hq
   | 13,_,hd,hq=>exact (hd (13,29) (by decide)).1.trans hq
   | 14,hij,hd,hq=>
     have e1:=(hd (6,23) (by decide)).1
     simp only at e1
     show ∃ cs,Blk b e wb cs∧cs[7]?=some (u' 23)
     rw [e1]
     exact hR.cell (fun hs=>by rcases hs with rfl | rfl | rfl<;>first | exact absurd rfl hij | decide) hq
   | 15,_,hd,hq=>exact (hd (15,30) (by decide)).1.trans hq
   | 16,_,hd,hq=>exact (hd (16,31) (by decide)).1.trans hq
   | 17,hij,hd,hq=>
     have e1:=(hd (8,25) (by decide)).1
     simp only at e1
     show ∃ cs,Blk b e wb cs∧cs[8]?=some (u' 25)
     rw [e1]
     exact hR.cell (fun hs=>by rcases hs with rfl | rfl | rfl<;>first | exact absurd rfl hij | decide) hq
   | n+18,_,_,_=>trivial
 · have nf:∀ j,j≠11→j≠14→j≠17→¬zra j:=fun j a b d h=>by rcases h with h | h | h<;>contradiction
   refine ⟨?_,?_,?_,?_,?_,?_,?_,?_,?_,?_,?_,?_,?_,?_,?_,?_,?_,?_,trivial⟩
   · exact fun u T w' hB hs _ _=>⟨.ext (nf _ (by decide) (by decide) (by decide)) (Ext.refl _),rfl⟩
   · exact fun u T w' hB hs _ _=>⟨.ext (nf _ (by decide) (by decide) (by decide)) (Ext.refl _),rfl⟩
   · exact fun u T w' hB hs _ _=>⟨.ext (nf _ (by decide) (by decide) (by decide)) (Ext.refl _),rfl⟩
   · exact fun u T w' hB hs _ _=>⟨.ext (nf _ (by decide) (by decide) (by decide)) (Ext.refl _),rfl⟩
   · intro u T w' hB hs _ hp
     have q2:u 20=_:=hp.1
     rw [q2]
     exact zdy h8.2 (by omega) fun w4 hx4 r=>⟨.ext (nf _ (by decide) (by decide) (by decide)) hx4,_,rfl,Nat.le_refl _,r.lt _ (List.mem_singleton.2 rfl),by obtain ⟨_,_,_,_,hb⟩:=hB;have:=hb.lt;omega,r⟩
   · exact fun u T w' hB hs _ _=>⟨.ext (nf _ (by decide) (by decide) (by decide)) (Ext.refl _),rfl⟩
   · intro u T w' hB hs _ hp
     have q2:u 22=_:=hp.1
     rw [q2]
     exact zdy h8.2 (by omega) fun w4 hx4 r=>⟨.ext (nf _ (by decide) (by decide) (by decide)) hx4,_,rfl,Nat.le_refl _,r.lt _ (List.mem_singleton.2 rfl),by obtain ⟨_,_,_,_,hb⟩:=hB;have:=hb.lt;omega,r⟩
   · exact fun u T w' hB hs _ _=>⟨.ext (nf _ (by decide) (by decide) (by decide)) (Ext.refl _),rfl⟩
   · intro u T w' hB hs _ hp
     have q2:u 24=_:=hp.1
     rw [q2]
     exact zdy h8.2 (by omega) fun w4 hx4 r=>⟨.ext (nf _ (by decide) (by decide) (by decide)) hx4,_,rfl,Nat.le_refl _,r.lt _ (List.mem_singleton.2 rfl),by obtain ⟨_,_,_,_,hb⟩:=hB;have:=hb.lt;omega,r⟩
   · intro u T w' hB hs _ hp
     have q:u 17=_:=hp.1
     rw [q]
     exact NIL.mk rfl ⟨.ext (nf _ (by decide) (by decide) (by decide)) (Ext.refl _),rfl⟩
   · intro u T w' hB hs _ hp
     have q:u 26=_:=hp.1
     rw [q]
     exact zaa zkT ⟨.ext (nf _ (by decide) (by decide) (by decide)) (Ext.refl _),rfl⟩
   · intro u T w' hB hs _ hp
     have q:u 27=_:=hp.1
     obtain ⟨g,q1,_⟩:=hp.2.1
     rw [q,q1]
     refine zih (j:=11) (.inl rfl) h6 hB fun w2 hR hQ=>⟨hR,?_⟩
     show ∃ cs,Blk b e w2 cs∧cs[6]?=some (u 21)
     rw [q1];exact hQ
   · intro u T w' hB hs _ hp
     have q:u 18=_:=hp.1
     rw [q]
     exact NIL.mk rfl ⟨.ext (nf _ (by decide) (by decide) (by decide)) (Ext.refl _),rfl⟩
   · intro u T w' hB hs _ hp
     have q:u 28=_:=hp.1
     rw [q]
     exact zaa zmH ⟨.ext (nf _ (by decide) (by decide) (by decide)) (Ext.refl _),rfl⟩
   · intro u T w' hB hs _ hp
     have q:u 29=_:=hp.1
     obtain ⟨g,q1,_⟩:=hp.2.1
     rw [q,q1]
     refine zih (j:=14) (.inr (.inl rfl)) h6 hB fun w2 hR hQ=>⟨hR,?_⟩
     show ∃ cs,Blk b e w2 cs∧cs[7]?=some (u 23)
     rw [q1];exact hQ
   · intro u T w' hB hs _ hp
     have q:u 19=_:=hp.1
     rw [q]
     exact NIL.mk rfl ⟨.ext (nf _ (by decide) (by decide) (by decide)) (Ext.refl _),rfl⟩
   · intro u T w' hB hs _ hp
     have q:u 30=_:=hp.1
     rw [q]
     exact zaa ziK ⟨.ext (nf _ (by decide) (by decide) (by decide)) (Ext.refl _),rfl⟩
   intro u T w' hB hs _ hp
   have q:u 31=_:=hp.1
   obtain ⟨g,q1,_⟩:=hp.2.1
   rw [q,q1]
   refine zih (j:=17) (.inr (.inr rfl)) h6 hB fun w2 hR hQ=>⟨hR,?_⟩
   show ∃ cs,Blk b e w2 cs∧cs[8]?=some (u 25)
   rw [q1];exact hQ
 rintro u T w2 hB hs hap ⟨-,-,-,-,⟨g6,q21,ha6,hb6,hn6,hM6⟩,-,⟨g7,q23,ha7,hb7,hn7,hM7⟩,-,⟨g8,q25,ha8,hb8,hn8,hM8⟩,-,-,⟨cs6,hB6,hc6⟩,-,-,⟨cs7,hB7,hc7⟩,-,-,⟨cs8,hB8,hc8⟩,-⟩
 have t4:=hap.1 4 (by decide)
 have t6:=hap.1 6 (by decide)
 have t8:=hap.1 8 (by decide)
 have d46:=hap.2 4 (by decide) 6 (by decide) (by decide)
 have d48:=hap.2 4 (by decide) 8 (by decide) (by decide)
 have d68:=hap.2 6 (by decide) 8 (by decide) (by decide)
 obtain ⟨hch,y6,y7,y8,hBB⟩:=hB
 have u6:=hBB.uniq hB6
 have u7:=hBB.uniq hB7
 have u8:=hBB.uniq hB8
 subst u6 u7 u8
 rw [List.getElem?_append_right (by rw [h6];decide),h6,q21] at hc6
 rw [List.getElem?_append_right (by rw [h6];decide),h6,q23] at hc7
 rw [List.getElem?_append_right (by rw [h6];decide),h6,q25] at hc8
 have e6:y6=sl g6 c.procs.length:=by simpa using hc6
 have e7:y7=sl g7 c.procs.length:=by simpa using hc7
 have e8:y8=sl g8 c.procs.length:=by simpa using hc8
 subst e6 e7 e8
 rw [List.append_assoc] at hBB
 have hW2:=H1.cells hch hBB
 have hml:=H1.live.lt m (by simp)
 have hb0:=H.b0
 have hF2:FC W0 w2 b e c kc m g6 g7 g8 (List.replicate c.procs.length 0) (List.replicate c.procs.length 0) (List.replicate c.procs.length 0) x9 x10:=⟨hW2,hM6,hM7,hM8,⟨by omega,hn6,by omega⟩,⟨by omega,hn7,by omega⟩,⟨by omega,hn8,by omega⟩,by omega,by omega,by omega⟩
 clear hc6 hc7 hc8 hB6 hB7 hB8 hBB hW2 hch H1 hB0 hap d46 d48 d68 t4 t6 t8
 have hz:∀ op,CS c (List.replicate c.procs.length 0) (fcD c op 0 [] 0):=fun op=>CS.zero fun q r h=>by unfold fcD at h;simp at h
 have hz4:=hz 4
 have hz5:=hz 5
 have hc8l:(List.replicate c.procs.length 0).length=c.procs.length:=by simp
 refine zaE c.procs.length (fun k us w'=>∃ c6 c7,us=[.int .i64 (k:Int)]∧k≤c.procs.length∧FC W0 w' b e c kc m g6 g7 g8 c6 c7 (List.replicate c.procs.length 0) x9 x10∧CS c c6 (fcD c 4 k [] 0)∧CS c c7 (fcD c 5 k [] 0)) 0 (Nat.zero_le _) ⟨_,_,rfl,Nat.zero_le _,hF2,hz4,hz5⟩ ?_
 rintro p mk u3 w3 hkm ⟨c6,c7,hu,hkl,hF3,hC6,hC7⟩
 simp only [List.map_cons,List.map_nil,List.cons.injEq,and_true] at hu
 rw [hu]
 refine zal ?_
 refine br (fun hlt=>?_) (fun hge=>?_)
 · have hp:p<c.procs.length:=by omega
   have hpe:p<c.entry.length:=by rw [hc.2.1.1];exact hp
   refine (zdW hF3.wb.wl (Ext.refl _) hc hp).mono ?_
   rintro v38 w4 ⟨hx4,ho4⟩
   have hF4:=hF3.step hx4
   have hM:∀ i,i∈zbh c.ins.length (zay c p)↔zay c p i:=fun i=>by rw [zaI];exact ⟨fun h=>h.2,fun h=>⟨(za2 hc hpe h).1,h⟩⟩
   have hMl:(zbh c.ins.length (zay c p)).length≤1500:=Nat.le_trans zbb hil
   generalize zbh c.ins.length (zay c p)=M at *
   have hg6:=hF3.m6.lt g6 (by simp)
   have hg7:=hF3.m7.lt g7 (by simp)
   refine zaf u33 ho4.is ?_
   rw [zae]
   refine zaE M.length (fun j us w'=>∃ c6 c7,us=[.int .i64 (j:Int)]∧j≤M.length∧FC W0 w' b e c kc m g6 g7 g8 c6 c7 (List.replicate c.procs.length 0) x9 x10∧CS c c6 (fcD c 4 p M j)∧CS c c7 (fcD c 5 p M j)∧OwnI w3.heap.size w4.heap.size w' v38 (zaZ M)) 0 (Nat.zero_le _) ⟨c6,c7,rfl,Nat.zero_le _,hF4,hC6.mono fun q r _ _=>znq q r,hC7.mono fun q r _ _=>znq q r,ho4.toI⟩ ?_
   rintro j mj u5 w5 hjm ⟨c65,c75,hu,hjl,hF5,hC65,hC75,hO5⟩
   simp only [List.map_cons,List.map_nil,List.cons.injEq,and_true] at hu
   rw [hu]
   refine zal ?_
   refine br (fun hlt5=>?_) (fun hge5=>?_)
   case refine_2=>
     have hje:j=M.length:=by omega
     rw [hje] at hC65 hC75
     refine zag (by omega) ?_
     exact ⟨mk-1,by omega,p+1,by omega,c65,c75,rfl,by omega,hF5,hC65.mono fun q r _ _=>znp hc (.inl rfl) hp hM q r,hC75.mono fun q r _ _=>znp hc (.inr rfl) hp hM q r⟩
   have hj:j<M.length:=by omega
   refine zad u33 ty3 (i:=j) hO5.is (by rw [zae];exact hj) fun b2 o2 hA2=>?_
   rw [zaR] at hA2
   refine zac ty3 hA2 (Ext.refl _) fun _=>?_
   have htj:=fun x=>zaW hj (x:=x)
   have hiv:=(hM M[j]).1 (List.getElem_mem hj)
   generalize M[j]=i at *
   have hin:=(za2 hc hpe hiv).1
   obtain ⟨v4,hv4,hi4⟩:=hF5.wb.ins
   refine NIL.mk rfl ?_
   refine zaa zaU ?_
   refine zaa zaK ?_
   refine zas zdG hF5.wb.blk hv4 ?_
   refine zad u34 zem hi4 hin fun b3 o3 hA3=>?_
   rw [zaY] at hA3
   refine zab zem hA3 hF5.wb.ext fun v51 h51=>?_
   refine zbB zqc rfl zem rfl h51 hF5.wb.ext fun w6 hx6 hAI hV6=>?_
   have hF6:=hF5.step hx6
   have hO6:=hO5.ext hx6
   have hAB6:=zeA h51 hV6 rfl
   have hgI:=hV6.lt
   have hgI0:w5.heap.size≠g6:=by have:=hF5.m6.lt g6 (by simp);omega
   generalize w5.heap.size=gI at *
   refine JOIN.mk (fun us w'=>∃ c6',FC W0 w' b e c kc m g6 g7 g8 c6' c75 (List.replicate c.procs.length 0) x9 x10∧CS c c6' (fcD c 4 p M (j+1))∧OwnI w3.heap.size w4.heap.size w' v38 (zaZ M)∧AtB W0 w' gI 0 (zah c i)) ?_ ?_
   · refine zaa zbK ?_
     refine zac ty3 (zaG hAI) (Ext.refl _) fun _=>?_
     refine zai ?_
     refine br (fun c4=>?_) (fun c4=>?_)
     · obtain ⟨ha1,ha2⟩:=zbv hc hin (.inl c4)
       have hxd:=zao w6
       have hF7:=hF6.step hxd
       have hO7:=hO6.ext hxd
       have hAB7:=hAB6.ext hxd
       have hgI7:gI<(World.drew1 w6).heap.size:=Nat.lt_of_lt_of_le hgI hxd.size
       generalize World.drew1 w6=w7 at *
       have hpl:p<c65.length:=by rw [hC65.1];exact hp
       refine NIL.mk rfl ?_
       refine zaa zkT ?_
       refine zas zeL hF7.wb.blk (hF7.wb.cell 1) ?_
       refine zad u33 ty3 (i:=p) hF7.m6.is (by rw [zae];exact hpl) fun b4 o4 hA4=>?_
       rw [zbf] at hA4
       refine zac ty3 hA4 (Ext.refl _) fun _=>?_
       have h256:=hC65.lt0 h8.1 hp
       refine zaa zcl ?_
       refine zac ty3 (zaQ hAI) hxd fun _=>?_
       rw [ha1]
       have hpw:2^agN c i<256:=Nat.lt_of_lt_of_le (Nat.pow_lt_pow_right (by omega) ha2) (Nat.pow_le_pow_right (n:=2) (by omega) h8.1)
       refine zcD (by kernel_rfl) zmI (by omega) ?_
       refine zdp (by omega) ?_
       refine zhR (m:=zaC c65 p) (n:=2^agN c i) (by omega) (by omega) ?_
       have hor:zaC c65 p ||| 2^agN c i<256:=Nat.or_lt_two_pow (n:=8) h256 hpw
       refine zcJ (α:=Int) rfl u33 ty3 hp ?_
       refine zbI (α:=Int) rfl ty3 hF7.m6 (by rw [zae,hC65.1]) hp (zbF (v:=zaC c65 p ||| 2^agN c i) (by omega)) fun w8 hc8 hm8=>?_
       have hF8:=hF7.set6 (v:=zaC c65 p ||| 2^agN c i) hc8 hm8
       exact ⟨_,hF8,hC65.set hp ha2 fun q r=>zno htj c4 q r,hO7.chgF hc8 (by simp;omega),hAB7.keep (hc8.block gI hgI7 (by simp;exact hgI0))⟩
     exact ⟨c65,hF6,hC65.mono fun q r _ _=>zpL htj c4 q r,hO6,hAB6⟩
   rintro u9 w9 ⟨c69,hF9,hC69,hO9,hAB9⟩
   have hAI9:=hAB9.at hF9.wb.ext
   refine zaa zbK ?_
   refine zac ty3 (zaG hAI9) (Ext.refl _) fun _=>?_
   refine zai ?_
   refine br (fun c5=>?_) (fun c5=>?_)
   · obtain ⟨ha1,ha2⟩:=zbv hc hin (.inr c5)
     have hxd:=zao w9
     have hF10:=hF9.step hxd
     have hO10:=hO9.ext hxd
     generalize World.drew1 w9=w10 at *
     have hpl:p<c75.length:=by rw [hC75.1];exact hp
     refine NIL.mk rfl ?_
     refine zaa zmH ?_
     refine zas zeL hF10.wb.blk (hF10.wb.cell 2) ?_
     refine zad u33 ty3 (i:=p) hF10.m7.is (by rw [zae];exact hpl) fun b4 o4 hA4=>?_
     rw [zbf] at hA4
     refine zac ty3 hA4 (Ext.refl _) fun _=>?_
     have h256:=hC75.lt0 h8.1 hp
     refine zaa zcl ?_
     refine zac ty3 (zaQ hAI9) hxd fun _=>?_
     rw [ha1]
     have hpw:2^agN c i<256:=Nat.lt_of_lt_of_le (Nat.pow_lt_pow_right (by omega) ha2) (Nat.pow_le_pow_right (n:=2) (by omega) h8.1)
     refine zcD (by kernel_rfl) zmI (by omega) ?_
     refine zdp (by omega) ?_
     refine zhR (m:=zaC c75 p) (n:=2^agN c i) (by omega) (by omega) ?_
     have hor:zaC c75 p ||| 2^agN c i<256:=Nat.or_lt_two_pow (n:=8) h256 hpw
     refine zcJ (α:=Int) rfl u33 ty3 hp ?_
     refine zbI (α:=Int) rfl ty3 hF10.m7 (by rw [zae,hC75.1]) hp (zbF (v:=zaC c75 p ||| 2^agN c i) (by omega)) fun w11 hc11 hm11=>?_
     have hF11:=hF10.set7 (v:=zaC c75 p ||| 2^agN c i) hc11 hm11
     refine zag (by omega) ?_
     exact ⟨mj-1,by omega,j+1,by omega,c69,_,rfl,by omega,hF11,hC69,hC75.set hp ha2 fun q r=>zno htj c5 q r,hO10.chgF hc11 (by simp;omega)⟩
   refine zag (by omega) ?_
   exact ⟨mj-1,by omega,j+1,by omega,c69,c75,rfl,by omega,hF9,hC69,hC75.mono fun q r _ _=>zpL htj c5 q r,hO9⟩
 have hke:p=c.procs.length:=by omega
 rw [hke] at hC6 hC7
 rw [hC6.done,hC7.done] at hF3
 clear hC6 hC7 hF2 hkm hu
 have hCz:CS c (List.replicate c.procs.length 0) (fun q r=>q<0∧FromP c q r):=CS.zero fun q r h=>by omega
 generalize List.replicate c.procs.length 0=c8 at *
 refine zaE c.procs.length (fun k us w'=>∃ c8,us=[.int .i64 (k:Int)]∧k≤c.procs.length∧FC W0 w' b e c kc m g6 g7 g8 (cls c 4) (cls c 5) c8 x9 x10∧CS c c8 (fun q r=>q<k∧FromP c q r)) 0 (Nat.zero_le _) ⟨_,rfl,Nat.zero_le _,hF3,hCz⟩ ?_
 rintro k mk u4 w4 hkm ⟨c84,hu,hkl,hF4,hC84⟩
 simp only [List.map_cons,List.map_nil,List.cons.injEq,and_true] at hu
 rw [hu]
 refine zal ?_
 refine br (fun hlt4=>?_) (fun hge4=>?_)
 case refine_2=>
   have hke:k=c.procs.length:=by omega
   rw [hke] at hC84
   have:c84=frs c:=by
     refine List.ext_getElem (by rw [hC84.1,zfz]) fun i h1 h2=>?_
     have hi:i<c.procs.length:=by rw [←hC84.1];exact h1
     rw [zaJ h1,zaJ h2,zlb hi,hC84.2 i hi]
     exact zbY fun r _=>⟨fun h=>h.2,fun h=>⟨hi,h⟩⟩
   rw [this] at hF4
   exact ⟨rfl,g6,g7,g8,hF4⟩
 have hk:k<c.procs.length:=by omega
 refine zcD (by kernel_rfl) zmI (by omega) ?_
 refine zdp (by omega) ?_
 have hU:=UM.start (c:=c) hk
 have h8':2^c.procs.length≤256:=Nat.pow_le_pow_right (n:=2) (by omega) h8.1
 refine LOOPI.mk (fun mm us w'=>∃ (s:Nat) (ag:Bool),us=[.int .i64 (s:Int),.bool ag]∧mm=(256-s)+(if ag then 1 else 0)∧FC W0 w' b e c kc m g6 g7 g8 (cls c 4) (cls c 5) c84 x9 x10∧UM c k s∧(ag=false→s=zfn (FromP c k) c.procs.length)) (256-2^k+1) ⟨2^k,true,rfl,rfl,hF4,hU,fun e=>by cases e⟩ ?_
 rintro mm u5 w5 ⟨s,ag,hu,hm,hF5,hU5,hend⟩
 obtain ⟨hu1,hu2⟩:=zey hu
 rw [hu1,hu2]
 have hs256:s<256:=Nat.lt_of_lt_of_le hU5.lt h8'
 refine zbQ (fun hag=>?_) (fun hag=>?_)
 · rw [hag,if_pos rfl] at hm
   refine NIL.mk rfl ?_
   refine zaa zkT ?_
   refine zas zeL hF5.wb.blk (hF5.wb.cell 1) ?_
   refine (zef hF5.m6.is (Ext.refl _) (zlh h8.1 4) (by rw [zdX];exact h8.1) (m:=s) (by rw [zdX];exact hU5.lt)).mono ?_
   rintro _ w6 ⟨hx6,rfl⟩
   have hF6:=hF5.step hx6
   have hor:=zk8 (zlh h8.1 4) (zbo s)
   have hU6:=hU5.more h8.1
   have hfin:=hU5.fin h8.1
   have hgt:=fun h=>zrw (m:=orL (cls c 4) (zbo s)) (n:=s) h
   refine zhR (m:=s) (n:=orL (cls c 4) (zbo s)) (by omega) (by omega) ?_
   have hor2:s ||| orL (cls c 4) (zbo s)<256:=Nat.or_lt_two_pow (n:=8) hs256 hor
   generalize s ||| orL (cls c 4) (zbo s)=t at *
   refine zaT ?_
   by_cases hts:t=s
   · refine ⟨256-t,by omega,t,_,rfl,?_,hF6,hU6,fun _=>by rw [hts];exact hfin hts⟩
     rw [hts];simp
   have hd:decide ((t:Int)≠(s:Int))=true:=decide_eq_true fun h=>hts (Int.ofNat_inj.1 h)
   have:=hgt hts
   rw [hd]
   exact ⟨256-t+1,by omega,t,true,rfl,rfl,hF6,hU6,fun e=>by cases e⟩
 have hse:=hend hag
 have hpl:k<c84.length:=by rw [hC84.1];exact hk
 refine NIL.mk rfl ?_
 refine zaa ziK ?_
 refine zas zeL hF5.wb.blk (hF5.wb.cell 3) ?_
 refine zcJ (α:=Int) rfl u33 ty3 hk ?_
 refine zbI (α:=Int) rfl ty3 hF5.m8 (by rw [zae,hC84.1]) hk (zbF (v:=s) (by omega)) fun w6 hc6 hm6=>?_
 have hF6:=hF5.set8 (v:=s) hc6 hm6
 refine zag (by omega) ?_
 refine ⟨mk-1,by omega,k+1,by omega,_,rfl,by omega,hF6,by simp [hC84.1],fun q hq=>?_⟩
 rw [zbr hpl]
 split
 · rename_i e
   subst e
   rw [hse]
   exact zbY fun r _=>⟨fun h=>⟨by omega,h⟩,fun h=>h.2⟩
 rename_i e
 rw [hC84.2 q hq]
 exact zbY fun r _=>⟨fun h=>⟨by omega,h.2⟩,fun h=>⟨by omega,h.2⟩⟩
def F112 (a0:Value) (w:World) (R:VW):Prop:=
 NIL a0 <|
 rF 92 a0 0 w fun x5=>
 rF 36 x5 2 w fun x6=>
 rL 24 x6 w fun x7=>
 cL 121 [x7,(Value.string (ByteArray.mk #[109,97,105,110]))] w fun x8 w=>
 R x8 w
def cfg112:Cfg:=⟨extL,[],[],[],[],[],[]⟩
theorem F112_call {a0:Value} {w:World} {R:VW} (h:F112 a0 w R):cL 112 [a0] w R:=co (g:=cfg112) Tryz.func112 (by kernel_rfl) (by kernel_rfl) (by kernel_rfl) h
def F104 (a0:Value) (w:World) (R:VW):Prop:=
 cL 112 [a0] w fun x6 w=>
 rD (convert 3 105 x6) w fun x7=>
 rB .shl 3 U0 T0 (iV 1) x7 w fun x8=>
 LOOPI [2,3] [x8,(Value.bool true)] w fun u2 w next2=>
 BR (u2 3)
 (NIL a0 <|
 rF 92 a0 4 w fun x13=>
 rL 33 x13 w fun x14=>
 cL 116 [x14,(u2 2)] w fun x16 w=>
 NIL a0 <|
 rF 92 a0 6 w fun x18=>
 oS 3 x18 x16 w fun w=>
 (fun w=>NIL a0 <|
 rF 92 a0 3 w fun x22=>
 rL 33 x22 w fun x23=>
 NIL a0 <|
 rF 92 a0 6 w fun x26=>
 rL 3 x26 w fun x27=>
 (fun w_=>cL 116 [x23,x27] w_ fun x28 w=>
 Ext w_ w ∧
 rB .or 3 T0 T0 (u2 2) x28 w fun x29=>
 rB .neq 3 T0 T0 x29 (u2 2) w fun x32=>
 next2 [x29,x32] w) w) (World.drew1 w))
 (NIL a0 <|
 rF 92 a0 5 w fun x37=>
 oS 3 x37 (u2 2) w fun w=>
 R (Value.tuple #[]) w)
def cfg104:Cfg:=⟨extL,[],[(2,17179868700,[2,3])],[(4,[0,1,2,3,4,5,6,7,8,9,10,11],512)],[],[],[]⟩
theorem F104_call {a0:Value} {w:World} {R:VW} (h:F104 a0 w R):cL 104 [a0] w R:=co (g:=cfg104) Tryz.func104 (by kernel_rfl) (by kernel_rfl) (by kernel_rfl) h
def F46 (a0:Value) (w:World) (R:VW):Prop:=
 oP (Instr.box 36 a0) w fun x1 w=>
 rL 36 x1 w fun x7=>
 cL 52 [x7] w fun x8 w=>
 rD (Op.unary .not x8) w fun x9=>
 BR x9
 (R (Value.tuple #[(Value.pointer none),(Value.bool false)]) w)
 ((fun w=>rL 36 x1 w fun x10=>
 rF 36 x1 4 w fun x11=>
 rL 34 x11 w fun x12=>
 rN 34 3 x12 w fun x13=>
 (fun w_=>oP (Instr.makeSlice 90 x13 x13) w_ fun x14 w=>
 Ext w_ w ∧
 (rD (Instr.build 92 #[(0,x10),(1,x14)]) w fun x15=>
 oP (Instr.box 92 x15) w fun x16 w=>
 rF 36 x1 3 w fun x17=>
 rL 33 x17 w fun x18=>
 rN 33 3 x18 w fun x19=>
 LOOPI [20] [(iV 0)] w fun u5 w next5=>
 rC (u5 20) x19 w fun x21=>
 BR x21
 (rX 33 x18 (u5 20) w fun x22=>
 rL 3 x22 w fun x23=>
 NIL x16 <|
 rF 92 x16 1 w fun x26=>
 rL 90 x26 w fun x27=>
 rX 90 x27 x23 w fun x29=>
 oS 4 x29 (Value.bool true) w fun w=>
 NIL x16 <|
 rF 92 x16 1 w fun x33=>
 rL 90 x33 w fun x34=>
 cL 102 [x16,x34,x23] w fun x36 w=>
 rA (u5 20) (iV 1) w fun x37=>
 next5 [x37] w)
 (cL 103 [x16] w fun x39 w=>
 cL 104 [x16] w fun x41 w=>
 R (Value.tuple #[x16,(Value.bool true)]) w))) w) (World.drew1 w))
def cfg46:Cfg:=⟨extL,[],[(5,274876858432,[20])],[(3,[0,1,2,3,4,5,6,7],16)],[],[],[]⟩
theorem F46_call {a0:Value} {w:World} {R:VW} (h:F46 a0 w R):cL 46 [a0] w R:=co (g:=cfg46) Tryz.func46 (by kernel_rfl) (by kernel_rfl) (by kernel_rfl) h
open Rep (rep)
theorem zpM {w:World} {g e o:Nat} {cs:List Value} {x:Int} (hB:Blk g e w cs) (ho:cs[o]?=some (.int .i64 x)) (hx:I64 x):At w g o x:=by
 refine ⟨[],[.int .i64 x],⟨rfl,rfl,hx⟩,fun i u hi=>?_⟩
 have:i=0:=by
   cases i with
   | zero=>rfl
   | succ i=>simp at hi
 subst this
 simp only [List.getElem?_cons_zero,Option.some.injEq] at hi
 subst hi
 have:=hB.range o _ ho
 rw [Nat.zero_add] at this
 exact this
section
variable {W0 w w':World} {b e m g6 g7 g8:Nat} {c:DCode} {kc:List Value} {c6 c7 c8:List Nat} {x9 x10 y9 y10:Value}
theorem FC.cells (h:FC W0 w b e c kc m g6 g7 g8 c6 c7 c8 x9 x10) (hc:ChgI b (b+1) w w') (hB:Blk b e w' (kc++[.slice (some ⟨m,0,none⟩) c.ins.length c.ins.length,sl g6 c.procs.length,sl g7 c.procs.length,sl g8 c.procs.length,y9,y10])):FC W0 w' b e c kc m g6 g7 g8 c6 c7 c8 y9 y10:=
 ⟨h.wb.cells hc hB,zcs h.m6 hc.one (by simp [h.n6]),zcs h.m7 hc.one (by simp [h.n7]),zcs h.m8 hc.one (by simp [h.n8]),h.n6,h.n7,h.n8,h.d67,h.d68,h.d78⟩
theorem FC.store9 {x:Nat} {K:World→Prop} (h:FC W0 w b e c kc m g6 g7 g8 c6 c7 c8 x9 x10) (k:∀ w',FC W0 w' b e c kc m g6 g7 g8 c6 c7 c8 (.int .i64 (x:Int)) x10→K w'):OPU Tryz.prog (Instr.storeAt 3 (.pointer (some ⟨b,0+9,none⟩)) (.int .i64 (x:Int))) w K:=by
 have hl:9<(kc++[Value.slice (some ⟨m,0,none⟩) c.ins.length c.ins.length,sl g6 c.procs.length,sl g7 c.procs.length,sl g8 c.procs.length,x9,x10]).length:=by rw [List.length_append,h.wb.k5];simp
 refine zcp (α:=Raw) (lo:=0) (hi:=0) ty3 rfl rfl h.wb.blk hl (zei rfl) fun w2 hc2 hB2=>?_
 have:=h.wb.set 4 (.int .i64 (x:Int))
 rw [show 5+4=0+9 by omega] at this
 rw [this] at hB2
 exact k w2 (h.cells hc2 hB2)
theorem FC.store10 {x:Nat} {K:World→Prop} (h:FC W0 w b e c kc m g6 g7 g8 c6 c7 c8 x9 x10) (k:∀ w',FC W0 w' b e c kc m g6 g7 g8 c6 c7 c8 x9 (.int .i64 (x:Int))→K w'):OPU Tryz.prog (Instr.storeAt 3 (.pointer (some ⟨b,0+10,none⟩)) (.int .i64 (x:Int))) w K:=by
 have hl:10<(kc++[Value.slice (some ⟨m,0,none⟩) c.ins.length c.ins.length,sl g6 c.procs.length,sl g7 c.procs.length,sl g8 c.procs.length,x9,x10]).length:=by rw [List.length_append,h.wb.k5];simp
 refine zcp (α:=Raw) (lo:=0) (hi:=0) ty3 rfl rfl h.wb.blk hl (zei rfl) fun w2 hc2 hB2=>?_
 have:=h.wb.set 5 (.int .i64 (x:Int))
 rw [show 5+5=0+10 by omega] at this
 rw [this] at hB2
 exact k w2 (h.cells hc2 hB2)
end
theorem zeG {w:World} {b:Nat} {c:DCode} (hA:At w b 0 c) (hc:CodeR c) :
   CALL Tryz.prog 112 [.pointer (some ⟨b,0,none⟩)] w fun r w'=>Ext w w'∧r=.int .i64 (zcd c:Nat):=by
 refine F112_call ?_
 unfold F112
 refine NIL.mk rfl ?_
 refine zaa zaU ?_
 refine zaa zc5 ?_
 refine zab zdQ (zbe hA) (Ext.refl _) fun v15 h15=>?_
 refine (zeB h15 (Ext.refl _)).mono ?_
 rintro _ w2 ⟨hx2,rfl⟩
 have:=(zeg hc).1
 unfold zbz at this
 rw [this]
 exact ⟨hx2,rfl⟩
structure RM (c:DCode) (r:Nat):Prop where
 lt:r<2^c.procs.length
 self:r.testBit (zcd c)=true
 snd:∀ q,r.testBit q=true→RootP c q
noncomputable def usR (c:DCode) (r:Nat):Nat:=orL (frs c) (zbo r)
theorem zkc {c:DCode} {q r:Nat} (hq:q<c.procs.length):(zaC (frs c) q).testBit r=true↔r<c.procs.length∧FromP c q r:=by rw [zlb hq,zbq]
theorem zii {c:DCode} (h8:c.procs.length≤8) {r p:Nat} (h:RM c r):(usR c r).testBit p=true↔∃ q,q<c.procs.length∧r.testBit q=true∧p<c.procs.length∧FromP c q p:=by
 unfold usR
 rw [zfb h.lt (by omega)]
 exact ⟨fun ⟨i,h1,h2,h3⟩=>⟨i,h1,h2,(zkc h1).1 h3⟩,fun ⟨i,h1,h2,h3⟩=>⟨i,h1,h2,(zkc h1).2 h3⟩⟩
theorem zpN {c:DCode} (h8:c.procs.length≤8) {r:Nat} (h:RM c r):usR c r<2^c.procs.length:=zkb fun p hp=>by
 obtain ⟨_,_,_,h3,_⟩:=(zii h8 h).1 hp;exact h3
theorem RM.start {c:DCode} (hc:CodeR c):RM c (2^zcd c):=⟨Nat.pow_lt_pow_right (by omega) (zeg hc).2,by simp [Nat.testBit_two_pow],fun q hq=>by simp [Nat.testBit_two_pow] at hq;exact hq▸.main⟩
theorem RM.more_bit {c:DCode} (h8:c.procs.length≤8) {r q:Nat} (h:RM c r):(orL (cls c 5) (zbo (usR c r))).testBit q=true↔∃ p,p<c.procs.length∧(usR c r).testBit p=true∧q<c.procs.length∧zk6 c p 5 q:=by
 rw [zfb (zpN h8 h) (by omega)]
 exact ⟨fun ⟨i,h1,h2,h3⟩=>⟨i,h1,h2,(zfB h1).1 h3⟩,fun ⟨i,h1,h2,h3⟩=>⟨i,h1,h2,(zfB h1).2 h3⟩⟩
theorem RM.more {c:DCode} (h8:c.procs.length≤8) {r:Nat} (h:RM c r):RM c (r ||| orL (cls c 5) (zbo (usR c r))):=by
 refine ⟨Nat.or_lt_two_pow h.lt (zkb fun q hq=>by obtain ⟨_,_,_,h3,_⟩:=(h.more_bit h8).1 hq;exact h3),by rw [Nat.testBit_or,h.self];rfl,fun q hq=>?_⟩
 rw [Nat.testBit_or,Bool.or_eq_true] at hq
 rcases hq with hq | hq
 · exact h.snd q hq
 obtain ⟨p,h1,h2,h3,h4⟩:=(h.more_bit h8).1 hq
 obtain ⟨s,h5,h6,_,h7⟩:=(zii h8 h).1 h2
 exact .spawn (h.snd s h6) h7 h4 h3
theorem RM.fin {c:DCode} (hc:CodeR c) (h8:c.procs.length≤8) {r:Nat} (h:RM c r) (he:r ||| orL (cls c 5) (zbo (usR c r))=r):r=zbs c∧usR c r=zch c:=by
 have hall:∀ q,RootP c q→r.testBit q=true:=fun q hq=>by
   induction hq with
   | main=>exact h.self
   | @spawn s p q h0 h1 h2 hq ih=>
     have hs:=h0.lt hc
     rw [←he,Nat.testBit_or,(h.more_bit h8).2 ⟨p,h1.lt hs,(zii h8 h).2 ⟨s,hs,ih,h1.lt hs,h1⟩,hq,h2⟩]
     simp
 refine ⟨zdx fun q=>⟨fun hq=>⟨(h.snd q hq).lt hc,h.snd q hq⟩,fun hq=>hall q hq.2⟩,zdx fun p=>?_⟩
 rw [zii h8 h]
 constructor
 · rintro ⟨q,h1,h2,h3,h4⟩
   exact ⟨h3,q,h.snd q h2,h4⟩
 rintro ⟨h3,q,h1,h2⟩
 exact ⟨q,h1.lt hc,hall q h1,h3,h2⟩
theorem zi7 {w W0:World} {b e m g6 g7 g8:Nat} {c:DCode} {kc:List Value} {x9 x10:Value} (H:FC W0 w b e c kc m g6 g7 g8 (cls c 4) (cls c 5) (frs c) x9 x10) (hc:CodeR c) :
   CALL Tryz.prog 104 [.pointer (some ⟨b,0,none⟩)] w fun r w'=>r=.tuple #[]∧FC W0 w' b e c kc m g6 g7 g8 (cls c 4) (cls c 5) (frs c) (.int .i64 (zbs c:Nat)) (.int .i64 (zch c:Nat)):=by
 refine F104_call ?_
 unfold F104
 have h8:=hc.1.procs8
 have hml:=(zeg hc).2
 refine (zeG H.wb.code_at hc).mono ?_
 rintro _ w1 ⟨hx1,rfl⟩
 have H1:=H.step hx1
 refine zcD (by kernel_rfl) zmI (by omega) ?_
 refine zdp (by omega) ?_
 have hR:=RM.start hc
 have h8':2^c.procs.length≤256:=Nat.pow_le_pow_right (n:=2) (by omega) h8.1
 refine LOOPI.mk (fun mm us w'=>∃ (s:Nat) (ag:Bool) (y:Value),us=[.int .i64 (s:Int),.bool ag]∧mm=(256-s)+(if ag then 1 else 0)∧FC W0 w' b e c kc m g6 g7 g8 (cls c 4) (cls c 5) (frs c) x9 y∧RM c s∧(ag=false→s=zbs c∧y=.int .i64 (zch c:Nat))) (256-2^zcd c+1) ⟨2^zcd c,true,x10,rfl,rfl,H1,hR,fun e=>by cases e⟩ ?_
 rintro mm u2 w2 ⟨s,ag,y,hu,hm,H2,hR2,hend⟩
 obtain ⟨hu1,hu2⟩:=zey hu
 rw [hu1,hu2]
 have hs256:s<256:=Nat.lt_of_lt_of_le hR2.lt h8'
 refine zbQ (fun hag=>?_) (fun hag=>?_)
 · rw [hag,if_pos rfl] at hm
   refine NIL.mk rfl ?_
   refine zaa ziK ?_
   refine zas zeL H2.wb.blk (H2.wb.cell 3) ?_
   refine (zef H2.m8.is (Ext.refl _) (zry h8.1) (by rw [zfz];exact h8.1) (m:=s) (by rw [zfz];exact hR2.lt)).mono ?_
   rintro _ w3 ⟨hx3,rfl⟩
   have H3:=H2.step hx3
   have hul:=zpN h8.1 hR2
   have hu256:usR c s<256:=Nat.lt_of_lt_of_le hul h8'
   have hue:orL (frs c) (zbo s)=usR c s:=rfl
   rw [hue]
   refine NIL.mk rfl ?_
   refine zaa zgk ?_
   refine H3.store10 fun w4 H4=>?_
   have hxd:=zao w4
   have H5:=H4.step hxd
   generalize World.drew1 w4=w5 at *
   refine NIL.mk rfl ?_
   refine zaa zmH ?_
   refine zas zeL H5.wb.blk (H5.wb.cell 2) ?_
   refine NIL.mk rfl ?_
   refine zaa zgk ?_
   refine zas ty3 H5.wb.blk (H5.wb.cell 5) ?_
   refine (zef H5.m7.is (Ext.refl _) (zlh h8.1 5) (by rw [zdX];exact h8.1) (m:=usR c s) (by rw [zdX];exact hul)).mono ?_
   rintro _ w6 ⟨hx6,rfl⟩
   have H6:=H5.step hx6
   have hor:=zk8 (zlh h8.1 5) (zbo (usR c s))
   have hR6:=hR2.more h8.1
   have hfin:=hR2.fin hc h8.1
   have hgt:=fun h=>zrw (m:=orL (cls c 5) (zbo (usR c s))) (n:=s) h
   refine ⟨hx6,?_⟩
   refine zhR (m:=s) (n:=orL (cls c 5) (zbo (usR c s))) (by omega) (by omega) ?_
   have hor2:s ||| orL (cls c 5) (zbo (usR c s))<256:=Nat.or_lt_two_pow (n:=8) hs256 hor
   generalize s ||| orL (cls c 5) (zbo (usR c s))=t at *
   refine zaT ?_
   by_cases hts:t=s
   · refine ⟨256-t,by omega,t,_,_,rfl,?_,H6,hR6,fun _=>?_⟩
     · rw [hts];simp
     rw [(hfin hts).2]
     exact ⟨by rw [hts];exact (hfin hts).1,rfl⟩
   have hd:decide ((t:Int)≠(s:Int))=true:=decide_eq_true fun h=>hts (Int.ofNat_inj.1 h)
   have:=hgt hts
   rw [hd]
   exact ⟨256-t+1,by omega,t,true,_,rfl,rfl,H6,hR6,fun e=>by cases e⟩
 obtain ⟨hse,hye⟩:=hend hag
 rw [hye] at H2
 refine NIL.mk rfl ?_
 refine zaa zgj ?_
 refine H2.store9 fun w3 H3=>?_
 rw [hse] at H3
 exact ⟨rfl,H3⟩
theorem FC.wat {W0 w:World} {b e m g6 g7 g8:Nat} {c:DCode} {kc:List Value} (H:FC W0 w b e c kc m g6 g7 g8 (cls c 4) (cls c 5) (frs c) (.int .i64 (zbs c:Nat)) (.int .i64 (zch c:Nat))) (h8:c.procs.length≤8):WAt w b c:=by
 have h1:zbs c<256:=zaB h8
 have h2:zch c<256:=zaB h8
 exact ⟨H.wb.wl,zfa H.wb.blk (H.wb.cell 1) H.m6.is,zfa H.wb.blk (H.wb.cell 2) H.m7.is,zfa H.wb.blk (H.wb.cell 3) H.m8.is,zpM H.wb.blk (H.wb.cell 4) (by unfold I64;omega),zpM H.wb.blk (H.wb.cell 5) (by unfold I64;omega)⟩
theorem zl0 {w W0:World} {v0:Value} {c:DCode} (h0:Is W0 v0 c) (e0:Ext W0 w) :
   CALL Tryz.prog 46 [v0] w fun r w'=>Ext w w'∧((¬CodeR c∧r=.tuple #[.pointer none,.bool false])∨(CodeR c∧∃ b,r=.tuple #[.pointer (some ⟨b,0,none⟩),.bool true]∧WAt w' b c)):=by
 refine F46_call ?_
 unfold F46
 refine zdE h0 e0 fun w1 hx1 hA=>?_
 refine zab zfm hA (Ext.refl _) fun v7 h7=>?_
 refine (zh3 h7 (Ext.refl _)).mono ?_
 rintro _ w2 ⟨hx2,rfl⟩
 refine zbw ?_
 refine br (fun hn=>?_) (fun hy=>?_)
 · exact ⟨hx1.trans hx2,.inl ⟨hn,rfl⟩⟩
 have hc:CodeR c:=Decidable.not_not.1 hy
 have h8:=hc.1.procs8
 have hil:=hc.f.ins
 have hz0:=(zgI hc h8.2).2.2
 have hxd:=zao w2
 have hx3:=hx2.trans hxd
 generalize World.drew1 w2=w3 at *
 refine zab zfm hA hx3 fun v10 h10=>?_
 refine zaa zaK ?_
 refine zab zdG (zat hA) hx3 fun v12 h12=>?_
 refine zaf u34 h12 ?_
 refine zh6 (by omega) (by omega) fun w4 hx4 hM4=>?_
 have hs4:=hx4.size
 have hm4:=hM4.lt _ (List.mem_singleton.2 rfl)
 generalize hm:w3.heap.size=m at *
 have h10':=h10.ext hx3
 have hcells:=zlY h10'
 obtain ⟨F,kc,hr,hkc⟩:=h10'
 obtain ⟨a0,a1,a2,a3,a4,n0,n1,n2,n3,n4,k0,k1,k2,k3,k4,hcv⟩:=hcells
 have hkce:kc=[.slice a0 n0 k0,.slice a1 n1 k1,.slice a2 n2 k2,.slice a3 n3 k3,.slice a4 n4 k4]:=by
   rw [hkc] at hcv
   have:(Value.agg kc.toArray)=.agg #[.slice a0 n0 k0,.slice a1 n1 k1,.slice a2 n2 k2,.slice a3 n3 k3,.slice a4 n4 k4]:=hcv
   simpa using this
 rw [hcv]
 refine ⟨hx4,?_⟩
 refine zaz (cells:=#[.slice a0 n0 k0,.slice a1 n1 k1,.slice a2 n2 k2,.slice a3 n3 k3,.slice a4 n4 k4,sl m c.ins.length,.slice none 0 0,.slice none 0 0,.slice none 0 0,.int .i64 0,.int .i64 0]) (by kernel_rfl) ?_
 refine zm3 fun w5 hx5 hB5=>?_
 have hB5':Blk w4.heap.size 92 w5 (kc++[sl m c.ins.length,.slice none 0 0,.slice none 0 0,.slice none 0 0,.int .i64 0,.int .i64 0]):=by rw [hkce];exact hB5
 have hk5:kc.length=5:=Rep.len hr
 clear hB5 hcv hkc
 have hM5:=hM4.ext hx5
 have hx35:Ext w3 w5:=hx4.trans hx5
 generalize hb:w4.heap.size=b at *
 refine zaa zbJ ?_
 refine zab zeL (zaD hA) (hx3.trans hx35) fun v18 h18=>?_
 have h18:=h18.ext hx3
 refine zaf u33 h18 ?_
 have hel:c.entry.length=c.procs.length:=hc.2.1.1
 rw [hel]
 have hrep0:List.replicate c.ins.length false=ze3 c.ins.length (fun i=>∃ p,p<0∧zay c p i):=zg9 _ fun i ⟨p,h,_⟩=>by omega
 rw [hrep0] at hM5
 have hcell0:∀ {x1 x2 x3 x4 x5:Value},(kc++[sl m c.ins.length,x1,x2,x3,x4,x5])[0+5]?=some (sl m c.ins.length):=by intros;rw [List.getElem?_append_right (by rw [hk5];omega),hk5];rfl
 refine zaE c.procs.length (fun k us w'=>us=[.int .i64 (k:Int)]∧k≤c.procs.length∧Ext w3 w'∧Blk b 92 w' (kc++[sl m c.ins.length,.slice none 0 0,.slice none 0 0,.slice none 0 0,.int .i64 0,.int .i64 0])∧Mine [m] w' (sl m c.ins.length) (ze3 c.ins.length fun i=>∃ p,p<k∧zay c p i)) 0 (Nat.zero_le _) ⟨rfl,Nat.zero_le _,hx35,hB5',hM5⟩ ?_
 rintro k mk u w6 hkm ⟨hu,hkl,hx6,hB6,hM6⟩
 simp only [List.map_cons,List.map_nil,List.cons.injEq,and_true] at hu
 rw [hu]
 refine zal ?_
 refine br (fun hlt=>?_) (fun hge=>?_)
 · have hk:k<c.procs.length:=by omega
   have hke:k<c.entry.length:=by omega
   obtain ⟨he1,he2,he3⟩:=zfR hc hke
   refine zad u33 ty3 (i:=k) h18 hke fun b5 o5 hA5=>?_
   rw [zcH hke,he1] at hA5
   refine zac ty3 hA5 hx6 fun _=>?_
   refine NIL.mk rfl ?_
   refine zaa zkS ?_
   refine zas zmG hB6 hcell0 ?_
   refine zcJ (α:=Bool) rfl u90 ty4 he2 ?_
   refine zbI (α:=Bool) rfl ty4 hM6 zbp he2 zed fun w7 hc7 hm7=>?_
   have hB7:=hB6.chgF hc7 (by simp;omega)
   have hx7:Ext w3 w7:=hx6.chgF hc7 (by simp [hm])
   have hmk7:∀ i,mkd ((ze3 c.ins.length fun i=>∃ p,p<k∧zay c p i).set (eN c k) true) i↔(i<c.ins.length∧∃ p,p<k∧zay c p i)∨i=eN c k:=fun i=>by
     rw [zdT (by rw [zbp];exact he2),zdw]
   have hl7:((ze3 c.ins.length fun i=>∃ p,p<k∧zay c p i).set (eN c k) true).length=c.ins.length:=by rw [List.length_set,zbp]
   generalize (ze3 c.ins.length fun i=>∃ p,p<k∧zay c p i).set (eN c k) true=ms7 at *
   refine NIL.mk rfl ?_
   refine zaa zkS ?_
   refine zas zmG hB7 hcell0 ?_
   have hK7:KAt w3 w7 b c:=⟨F,kc,hr,zlg hB7,hB7.lt⟩
   refine (zi1 hK7 hx7 hc rfl he2 hm7 hl7 (by omega) (by omega) ?_).mono ?_
   · intro i hi hne j hj
     rcases (hmk7 i).1 hi with ⟨h1,p,h2,h3⟩ | h
     · have hil:=zb5 hc h1 hj
       exact (hmk7 j).2 (.inl ⟨hil.1,p,h2,zna h3 hj⟩)
     exact absurd h hne
   rintro _ w8 ⟨rfl,hc8,hM8⟩
   have hset:(ze3 c.ins.length fun i=>mkd ms7 i∨RP (zax c) (eN c k) i)=ze3 c.ins.length fun i=>∃ p,p<k+1∧zay c p i:=zhp fun i hi=>by
     rw [hmk7]
     constructor
     · rintro ((⟨_,p,h2,h3⟩ | h) | h)
       · exact ⟨p,by omega,h3⟩
       · exact ⟨k,by omega,.inl h⟩
       exact ⟨k,by omega,.inr h⟩
     rintro ⟨p,h2,h3⟩
     by_cases e:p=k
     · subst e
       rcases h3 with h3 | h3
       · exact .inl (.inr h3)
       exact .inr h3
     exact .inl (.inl ⟨hi,p,by omega,h3⟩)
   rw [hset] at hM8
   refine zag (by omega) ?_
   exact ⟨mk-1,by omega,k+1,by omega,rfl,by omega,hx7.chgI hc8 (by omega),hB7.chgI hc8 (by omega),hM8⟩
 have hke:k=c.procs.length:=by omega
 have hal:(ze3 c.ins.length fun i=>∃ p,p<k∧zay c p i)=ze3 c.ins.length (zc1 c):=by rw [hke];rfl
 rw [hal] at hM6
 have HW:WB w3 w6 b 92 c kc m (.slice none 0 0) (.slice none 0 0) (.slice none 0 0) (.int .i64 0) (.int .i64 0):=⟨hx6,hB6,⟨F,hr⟩,hM6,by omega,by omega,by omega⟩
 refine (zi6 HW hc).mono ?_
 rintro _ w7 ⟨rfl,g6,g7,g8,H7⟩
 refine (zi7 H7 hc).mono ?_
 rintro _ w8 ⟨rfl,H8⟩
 exact ⟨hx1.trans (hx3.trans H8.wb.ext),.inr ⟨hc,b,rfl,H8.wat h8.1⟩⟩
end Go.Proofs.YtcnglfeoglgebaaGreat
namespace Go.Proofs.YtcnglfeoglgebaaGreat
open Go.Shelf
def Tryz.sortRace_ren:Go.Shelf.Ren:=⟨fun | 6=>163 | 15=>219 | 14=>234 | 28=>270 | 29=>271 | 20=>289 | 21=>290 | 22=>291 | 23=>292 | 24=>293 | 25=>294 | 26=>295 | 27=>296 | 46=>328 | 47=>318 | 48=>319 | 49=>329 | 50=>330 | 57=>340 | n=>n,fun | 22=>39 | 24=>58 | 25=>185 | 3=>3 | 39=>105 | 0=>0 | 53=>272 | 55=>230 | 4=>4 | 46=>265 | 45=>264 | 50=>269 | 5=>5 | 9=>9 | 66=>298 | 70=>196 | 76=>311 | 77=>312 | n=>n,fun | n=>n⟩
theorem Tryz.sortRace:SlLaysF0.n6 Tryz.prog Tryz.sortRace_ren:={
 mixed:=by kernel_rfl,
 f6:=⟨Tryz.f163.name,by kernel_rfl,Tryz.func163.trans (congrArg some (by kernel_rfl))⟩,
 f14:=⟨Tryz.f234.name,by kernel_rfl,Tryz.func234.trans (congrArg some (by kernel_rfl))⟩,
 f15:=Tryz.func219.trans (congrArg some (by kernel_rfl)),
 f20:=⟨Tryz.f289.name,by kernel_rfl,Tryz.func289.trans (congrArg some (by kernel_rfl))⟩,
 f21:=⟨Tryz.f290.name,by kernel_rfl,Tryz.func290.trans (congrArg some (by kernel_rfl))⟩,
 f22:=⟨Tryz.f291.name,by kernel_rfl,Tryz.func291.trans (congrArg some (by kernel_rfl))⟩,
 f23:=⟨Tryz.f292.name,by kernel_rfl,Tryz.func292.trans (congrArg some (by kernel_rfl))⟩,
 f24:=⟨Tryz.f293.name,by kernel_rfl,Tryz.func293.trans (congrArg some (by kernel_rfl))⟩,
 f25:=⟨Tryz.f294.name,by kernel_rfl,Tryz.func294.trans (congrArg some (by kernel_rfl))⟩,
 f26:=⟨Tryz.f295.name,by kernel_rfl,Tryz.func295.trans (congrArg some (by kernel_rfl))⟩,
 f27:=⟨Tryz.f296.name,by kernel_rfl,Tryz.func296.trans (congrArg some (by kernel_rfl))⟩,
 f28:=Tryz.func270.trans (congrArg some (by kernel_rfl)),
 f29:=Tryz.func271.trans (congrArg some (by kernel_rfl)),
 f46:=⟨Tryz.f328.name,by kernel_rfl,Tryz.func328.trans (congrArg some (by kernel_rfl))⟩,
 f47:=Tryz.func318.trans (congrArg some (by kernel_rfl)),
 f48:=Tryz.func319.trans (congrArg some (by kernel_rfl)),
 f49:=⟨Tryz.f329.name,by kernel_rfl,Tryz.func329.trans (congrArg some (by kernel_rfl))⟩,
 f50:=⟨Tryz.f330.name,by kernel_rfl,Tryz.func330.trans (congrArg some (by kernel_rfl))⟩,
 f57:=⟨Tryz.f340.name,by kernel_rfl,Tryz.func340.trans (congrArg some (by kernel_rfl))⟩,
 t0:=Tryz.underlying0,
 a0:=Tryz.isAgg0,
 z0:=Tryz.sizeOf0,
 v0:=Tryz.zeroValue0,
 t3:=Tryz.underlying3,
 a3:=Tryz.isAgg3,
 z3:=Tryz.sizeOf3,
 v3:=Tryz.zeroValue3,
 t4:=Tryz.underlying4,
 a4:=Tryz.isAgg4,
 z4:=Tryz.sizeOf4,
 v4:=Tryz.zeroValue4,
 t5:=Tryz.underlying5,
 a5:=Tryz.isAgg5,
 z5:=Tryz.sizeOf5,
 v5:=Tryz.zeroValue5,
 t9:=Tryz.underlying9,
 a9:=Tryz.isAgg9,
 z9:=Tryz.sizeOf9,
 v9:=Tryz.zeroValue9,
 t22:=Tryz.underlying39,
 a22:=Tryz.isAgg39,
 z22:=Tryz.sizeOf39,
 v22:=Tryz.zeroValue39,
 t25:=Tryz.underlying185,
 a25:=Tryz.isAgg185,
 z25:=Tryz.sizeOf185,
 v25:=Tryz.zeroValue185,
 t39:=Tryz.underlying105,
 a39:=Tryz.isAgg105,
 z39:=Tryz.sizeOf105,
 v39:=Tryz.zeroValue105,
 t45:=Tryz.underlying264,
 a45:=Tryz.isAgg264,
 z45:=Tryz.sizeOf264,
 v45:=Tryz.zeroValue264,
 t46:=Tryz.underlying265,
 a46:=Tryz.isAgg265,
 z46:=Tryz.sizeOf265,
 v46:=Tryz.zeroValue265,
 t50:=Tryz.underlying269,
 a50:=Tryz.isAgg269,
 z50:=Tryz.sizeOf269,
 v50:=Tryz.zeroValue269,
 t53:=Tryz.underlying272,
 a53:=Tryz.isAgg272,
 z53:=Tryz.sizeOf272,
 v53:=Tryz.zeroValue272,
 t55:=Tryz.underlying230,
 a55:=Tryz.isAgg230,
 z55:=Tryz.sizeOf230,
 v55:=Tryz.zeroValue230,
 t66:=Tryz.underlying298,
 a66:=Tryz.isAgg298,
 z66:=Tryz.sizeOf298,
 v66:=Tryz.zeroValue298,
 t70:=Tryz.underlying196,
 a70:=Tryz.isAgg196,
 z70:=Tryz.sizeOf196,
 v70:=Tryz.zeroValue196,
 t76:=Tryz.underlying311,
 a76:=Tryz.isAgg311,
 z76:=Tryz.sizeOf311,
 v76:=Tryz.zeroValue311,
 t77:=Tryz.underlying312,
 a77:=Tryz.isAgg312,
 z77:=Tryz.sizeOf312,
 v77:=Tryz.zeroValue312 }
end Go.Proofs.YtcnglfeoglgebaaGreat
namespace Go.Sh
open Rep (rep)
open Go.Sort Go.Proofs
section
variable {α:Type} [Inhabited α] {enc:α→List Value} {k:Nat}
theorem zli (hk:∀ x,(enc x).length=k):∀ (l:List α),(l.flatMap enc).length=l.length*k
 | []=>by simp
 | x :: l=>by rw [List.flatMap_cons,List.length_append,hk,zli hk l,List.length_cons,Nat.add_mul];omega
theorem zlj (hk:∀ x,(enc x).length=k) (h0:0<k):∀ {l:List α} {t:Nat},t<l.length*k→(l.flatMap enc)[t]?=some ((enc l[t / k]!)[t%k]!)
 | [],t,h=>by simp at h
 | x :: l,t,h=>by
   rw [List.flatMap_cons]
   rcases Nat.lt_or_ge t k with ht | ht
   · rw [List.getElem?_append_left (by rw [hk];exact ht),Nat.div_eq_of_lt ht,Nat.mod_eq_of_lt ht]
     have:t<(enc x).length:=by rw [hk];exact ht
     rw [List.getElem?_eq_getElem this]
     simp [this]
   rw [List.getElem?_append_right (by rw [hk];exact ht),hk]
   have h':t-k<l.length*k:=by rw [List.length_cons,Nat.add_mul] at h;omega
   rw [zlj hk h0 h']
   have e1:t / k=(t-k) / k+1:=by
     have:t=(t-k)+k:=by omega
     conv=>lhs;rw [this]
     rw [Nat.add_div_right _ h0]
   have e2:t%k=(t-k)%k:=by
     have:t=(t-k)+k:=by omega
     conv=>lhs;rw [this]
     rw [Nat.add_mod_right]
   rw [e1,e2]
   simp
theorem zi8 (hk:∀ x,(enc x).length=k) (h0:0<k) {l:List α} {t:Nat} (h:t<l.length*k):(l.flatMap enc)[t]?=some (flatK enc k l.toArray)[t]!:=by
 rw [zlj hk h0 h,get_flatK enc k l.toArray t (by simpa using h)]
 simp
end
section
variable {α:Type} [Rep α] [Flat α] [Inhabited α] {w:World} {enc:α→List Value} {b o n cap:Nat} {l:List α}
theorem zi9 (henc:∀ {F w cs} {x:α},rep F w cs x→cs=enc x):∀ {l:List α} {F:List Nat} {xs:List Value},Cells F w xs l→xs=l.flatMap enc
 | [],_,_,⟨_,h⟩=>by simp [h]
 | y :: ys,_,_,⟨F1,F2,c1,c2,_,h,h1,h2⟩=>by rw [h,henc h1,zi9 henc h2,List.flatMap_cons]
theorem zja {w':World} (henc:∀ {F w cs} {x:α},rep F w cs x→cs=enc x):∀ {l:List α},(∀ x∈l,∃ F cs,rep F w cs x)→Cells [] w' (l.flatMap enc) l
 | [],_=>⟨rfl,rfl⟩
 | y :: ys,h=>by
   obtain ⟨F,cs,hr⟩:=h y (by simp)
   have hF:=Flat.flat hr
   subst hF
   have hc:=henc hr
   subst hc
   exact ⟨[],[],enc y,ys.flatMap enc,rfl,rfl,Rep.keep hr (by simp),zja henc fun x hx=>h x (by simp [hx])⟩
theorem zjb:∀ {l:List α} {F:List Nat} {xs:List Value},Cells F w xs l→∀ x∈l,∃ F cs,rep F w cs x
 | y :: ys,_,_,⟨F1,F2,c1,c2,_,h,h1,h2⟩,x,hx=>by
   rcases List.mem_cons.1 hx with rfl | hx
   · exact ⟨_,_,h1⟩
   exact zjb h2 x hx
theorem zjc (henc:∀ {F w cs} {x:α},rep F w cs x→cs=enc x) (hk:∀ x,(enc x).length=Rep.size α) (hw:∃ c e,w.heap[b]?=some (.cells c e (0,0))) {xs:List Value} (hc:Cells [] w xs l) (hr:w.rangeAt b o xs):HoldsK enc (Rep.size α) w b o l.toArray:=by
 intro j hj
 rw [size_flatK] at hj
 have hj':j<l.length*Rep.size α:=by simpa using hj
 have:=zi9 henc hc
 subst this
 have h1:=hr j _ (zi8 hk Rep.pos hj')
 refine ⟨h1,?_⟩
 obtain ⟨c,e,he⟩:=hw
 simp [World.frozen?,he]
theorem zkd (henc:∀ {F w cs} {x:α},rep F w cs x→cs=enc x) (hk:∀ x,(enc x).length=Rep.size α) {d':Array α} {m:Nat} {os:Array Obj} {w3:World} (hw3:w3=sortWorldK enc (Rep.size α) w b o m d' os) (hw:∃ c e,w.heap[b]?=some (.cells c e (0,0))) {xs:List Value} (hc:Cells [] w xs l) (hr:w.rangeAt b o xs)
   (h1:l.length≤cap) (h2:cap≤maxLen) (hl:d'.size=l.length) (hp:∀ x∈d'.toList,x∈l):Chg [b] w w3∧Mine [b] w3 (.slice (some ⟨b,o,none⟩) l.length cap) d'.toList:=by
 subst hw3
 have hH:=zjc henc hk hw hc hr
 obtain ⟨c,e,he⟩:=hw
 have hb:b<w.heap.size:=(Array.getElem?_eq_some_iff.1 he).1
 have hsz:(putRowK enc (Rep.size α) (Sort.ahead w m) b o d').heap.size=w.heap.size:=by simp [putRowK,putRow,mapBlock,Sort.ahead]
 have hblk:∀ i,i<w.heap.size→i≠b→(sortWorldK enc (Rep.size α) w b o m d' os).heap[i]?=w.heap[i]?:=fun i hi hne=>by
   unfold sortWorldK
   rw [heap_grow_old _ _ (by rw [hsz];exact hi)]
   simp [putRowK,putRow,mapBlock,Sort.ahead,Array.getElem?_modify,hne.symm]
 have hbb:∃ c',(sortWorldK enc (Rep.size α) w b o m d' os).heap[b]?=some (.cells c' e (0,0)):=by
   unfold sortWorldK
   rw [heap_grow_old _ _ (by rw [hsz];exact hb)]
   exact ⟨_,by simp [putRowK,putRow,mapBlock,Sort.ahead,Array.getElem?_modify,he,onCells];rfl⟩
 have hsz2:w.heap.size≤(sortWorldK enc (Rep.size α) w b o m d' os).heap.size:=by
   unfold sortWorldK grow
   rw [Array.size_append,hsz];omega
 refine ⟨⟨rfl,rfl,rfl,hsz2,fun i hi hm=>hblk i hi fun e=>hm (by simp [e])⟩,⟨⟨_,⟨some ⟨b,o,none⟩,cap,[],d'.toList.flatMap enc,rfl,by simpa [hl] using h1,h2,?_,.inr ⟨b,o,rfl,rfl,?_,by omega⟩⟩,by simp [mkv,Rep.agg,hl]⟩,by simp,fun i hi=>?_⟩⟩
 · exact zja (w:=w) henc fun x hx=>zjb hc x (hp x hx)
 · intro j v hv
   have hj:j<d'.toList.length*Rep.size α:=by
     have:=(List.getElem?_eq_some_iff.1 hv).1
     rwa [zli hk] at this
   rw [zi8 hk Rep.pos hj,Option.some.injEq] at hv
   have hj2:j<(flatK enc (Rep.size α) d').size:=by rw [size_flatK];simpa using hj
   have:=cell?_putRow id (Sort.ahead w m) b o (flatK enc (Rep.size α) l.toArray) (flatK enc (Rep.size α) d') hH (by simp [hl]) j hj2
   unfold sortWorldK
   rw [cell?_grow _ _ _ (by rw [hsz];exact hb)]
   show (putRow id (Sort.ahead w m) b o (flatK enc (Rep.size α) d')).cell? _=_
   rw [this,←hv]
   simp
 simp only [List.mem_cons,List.not_mem_nil,or_false] at hi
 subst hi
 obtain ⟨c',hc'⟩:=hbb
 exact ⟨c',e,hc'⟩
end
end Go.Sh
namespace Go.Sh
open Rep (rep)
section
variable {P:Program} {w:World} {α:Type} [Rep α] [Flat α] {b o n cap k:Nat} {l:List α}
theorem zde {F:List Nat} {v:Value} (hm:Mine F w v l) (hl:l≠[]):∃ b o cap xs,v=.slice (some ⟨b,o,none⟩) l.length cap∧F=[b]∧l.length≤cap∧cap≤maxLen∧Cells [] w xs l∧w.rangeAt b o xs∧(∃ c e,w.heap[b]?=some (.cells c e (0,0))):=by
 obtain ⟨⟨cs,⟨a,cap,Fi,xs,rfl,h1,h2,hc,h4⟩,rfl⟩,hn,hw⟩:=hm
 rcases h4 with ⟨h4,_⟩ | ⟨b,o,rfl,rfl,hr,hb⟩
 · exact absurd h4 hl
 have hFi:=Cells.flat (xs:=xs) hc
 subst hFi
 exact ⟨b,o,cap,xs,rfl,rfl,h1,h2,hc,hr,hw b (by simp)⟩
theorem zdz {xs:List Value} (h1:l.length≤cap) (h2:cap≤maxLen) (hc:Cells [] w xs l) (hr:w.rangeAt b o xs) (hw:∃ c e,w.heap[b]?=some (.cells c e (0,0))):Mine [b] w (.slice (some ⟨b,o,none⟩) l.length cap) l:=
 ⟨⟨_,⟨some ⟨b,o,none⟩,cap,[],xs,rfl,h1,h2,hc,.inr ⟨b,o,rfl,rfl,hr,by obtain ⟨c,e,h⟩:=hw;exact (Array.getElem?_eq_some_iff.1 h).1⟩⟩,rfl⟩,by simp,fun i hi=>by simp at hi;subst hi;exact hw⟩
theorem zqv {t e:TypeId} {by_:Nat} {K:Value→Prop} (ht:P.underlying t=some (.slice e)) (he:tyI P e=some (Rep.size α,by_,Rep.agg α)) (hk:k≤n) (hn:n≤cap) (kk:K (.slice (some ⟨b,o,none⟩) k cap)) :
   RD P (Instr.sliceAt t (.slice (some ⟨b,o,none⟩) n cap) none (some (.int .i64 (k:Int))) none) w K:=by
 refine zaF (fun w' _=>?_) kk
 have hbd:(Instr.sliceBounds true n cap none (some (.int .i64 (k:Int))) none).run P w'=.ok (0,k,cap) w':=by
   have h5:(k:Int)≤(cap:Int):=by omega
   simp [Instr.sliceBounds,Instr.sliceBound,asIntOf,h5]
   intro h6
   omega
 simp only [Instr.sliceAt,Instr.slice,Sem.run_bind,run_underlying ht,Result.andThen_ok,hbd,zar he]
 simp [Addr.add_mid]
theorem zlk {t e:TypeId} {by_:Nat} {K:Value→Prop} (ht:P.underlying t=some (.slice e)) (he:tyI P e=some (Rep.size α,by_,Rep.agg α)) (hk:k≤n) (hn:n≤cap) (kk:K (.slice (if cap=k then some ⟨b,o,none⟩ else some ⟨b,o+k*Rep.size α,none⟩) (n-k) (cap-k))) :
   RD P (Instr.sliceAt t (.slice (some ⟨b,o,none⟩) n cap) (some (.int .i64 (k:Int))) none none) w K:=by
 refine zaF (fun w' _=>?_) kk
 have hb:(Instr.sliceBounds true n cap (some (.int .i64 (k:Int))) none none).run P w'=.ok (k,n,cap) w':=by
   have:(k:Int)≤(n:Int):=by omega
   simp [Instr.sliceBounds,Instr.sliceBound,asIntOf,this]
   try (intro h;omega)
 simp [Instr.sliceAt,Instr.slice,run_underlying ht,hb,zar he,Addr.add_mid]
theorem zll {t e:TypeId} {by_ j:Nat} {K:Value→Prop} (ht:P.underlying t=some (.slice e)) (he:tyI P e=some (Rep.size α,by_,Rep.agg α)) (hk:k≤j) (hn:j≤cap) {a:Option Addr} (kk:∀ a',(k≠0→a'=a)→K (.slice a' k j)) :
   RD P (Instr.sliceAt t (.slice a n cap) none (some (.int .i64 (k:Int))) (some (.int .i64 (j:Int)))) w K:=by
 have hb:∀ w',(Instr.sliceBounds true n cap none (some (.int .i64 (k:Int))) (some (.int .i64 (j:Int)))).run P w'=.ok (0,k,j) w':=fun w'=>by
   have h1:(j:Int)≤(cap:Int):=by omega
   have h2:(k:Int)≤(j:Int):=by omega
   simp [Instr.sliceBounds,Instr.sliceBound,asIntOf,h1,h2]
   try (intro h;omega)
 have:∃ a',(∀ w',(Instr.sliceAt t (.slice a n cap) none (some (.int .i64 (k:Int))) (some (.int .i64 (j:Int)))).run P w'=.ok (.slice a' k j) w')∧(k≠0→a'=a):=by
   cases a with
   | none=>exact ⟨none,fun w'=>by simp [Instr.sliceAt,Instr.slice,run_underlying ht,hb,zar he],fun _=>rfl⟩
   | some a=>exact ⟨some a,fun w'=>by simp [Instr.sliceAt,Instr.slice,run_underlying ht,hb,zar he,Addr.add],fun _=>rfl⟩
 obtain ⟨a',h1,h2⟩:=this
 exact zaF (fun w' _=>h1 w') (kk a' h2)
theorem znr [RepZ α] {t e ty:TypeId} {K:Value→World→Prop} (ht:P.underlying t=some (.slice e)) (hz:zbt P e=some (RepZ.zc α)) (hm:Mine [b] w (.slice (some ⟨b,o,none⟩) n cap) l) (hl:l.length=n) (hk:k≤n) (hk0:0<k) (hn:n≤cap)
   (kk:∀ w',Chg [b] w w'→Mine [b] w' (.slice (some ⟨b,o,none⟩) k cap) (l.take k)→K (.tuple #[]) w') :
   OP P (Builtin.clear_ #[t] ty [Value.slice (if cap=k then some ⟨b,o,none⟩ else some ⟨b,o+k*Rep.size α,none⟩) (n-k) (cap-k)].toArray) w K:=by
 have hne:l≠[]:=fun e=>by rw [e] at hl;simp at hl;omega
 obtain ⟨b',o',cap',xs,hv,hb',h1,h2,hc,hr,hw⟩:=zde hm hne
 simp only [Value.slice.injEq,Option.some.injEq,Addr.mk.injEq] at hv
 obtain ⟨⟨rfl,rfl,_⟩,hnl,rfl⟩:=hv
 have htk:(l.take k).length=k:=by simp;omega
 have e0:l=l.take k++l.drop k:=by simp
 have hc':=hc
 rw [e0] at hc'
 obtain ⟨F1,F2,x1,x2,hFF,rfl,c1,c2⟩:=Cells.split hc'
 obtain ⟨rfl,rfl⟩:=List.append_eq_nil_iff.1 hFF.symm
 have hx1:x1.length=k*Rep.size α:=by rw [Cells.len c1,htk]
 have hr1:=(zaq hr).1
 by_cases hnk:n=k
 · subst hnk
   refine ⟨.tuple #[],w,?_,kk w (Chg.refl _ _) ?_⟩
   · rw [Nat.sub_self]
     by_cases hck:cap=n
     · rw [if_pos hck];simp [Builtin.clear_,run_underlying ht]
     rw [if_neg hck];simp [Builtin.clear_,run_underlying ht]
   have:=zdz (l:=l.take n) (cap:=cap) (by omega) h2 c1 hr1 hw
   rwa [htk] at this
 have hck:¬cap=k:=by omega
 rw [if_neg hck]
 obtain ⟨c,e',he⟩:=hw
 unfold zbt at hz
 cases hi:P.info? e with
 | none=>simp [hi] at hz
 | some i=>
   simp only [hi] at hz
   obtain ⟨z,hzz,hzc⟩:=Option.map_eq_some_iff.1 hz
   have hzl:z.cells.size=Rep.size α:=by
     rw [←Array.length_toList,hzc];exact Rep.len (RepZ.zr (α:=α) w)
   have hpos:=Rep.pos (α:=α)
   obtain ⟨m,hm'⟩:∃ m,n-k=m+1:=⟨n-k-1,by omega⟩
   have hzs:(Builtin.zeroCells z.cells (n-k)).toList.length=(n-k)*Rep.size α:=by simp [Builtin.zeroCells,hzl]
   have hfit:o+(k*Rep.size α)+0+(Builtin.zeroCells z.cells (n-k)).toList.length≤c.size:=by
     rw [hzs]
     have hx:(x1++x2).length=n*Rep.size α:=by rw [Cells.len hc,hl]
     have hlast:=hr (n*Rep.size α-1) ((x1++x2)[n*Rep.size α-1]'(by rw [hx];have:=Nat.mul_pos (show 0<n by omega) hpos;omega)) (List.getElem?_eq_getElem _)
     simp only [World.cell?,he] at hlast
     have:=(Array.getElem?_eq_some_iff.1 (by simpa using hlast)).1
     have h3:(n-k)*Rep.size α+k*Rep.size α=n*Rep.size α:=by rw [←Nat.add_mul];congr 1;omega
     have h4:=Nat.mul_pos (show 0<n by omega) hpos
     omega
   have hone:∀ v∈(Builtin.zeroCells z.cells (n-k)).toList,v.oneCell'=true:=fun v hv=>by
     simp only [Builtin.zeroCells,Array.toList_map,Array.toList_range,List.mem_map,List.mem_range] at hv
     obtain ⟨i,_,rfl⟩:=hv
     have hlt:i%z.cells.size<z.cells.size:=Nat.mod_lt _ (by omega)
     have e3:z.cells[i%z.cells.size]! = z.cells[i%z.cells.size]'hlt:=by simp [hlt]
     rw [e3]
     refine Rep.one (RepZ.zr (α:=α) w) _ ?_
     rw [←hzc]
     exact Array.getElem_mem_toList hlt
   have hst:=run_storeCells_at (P:=P) b (o+k*Rep.size α) e' (Builtin.zeroCells z.cells (n-k)).toList 0 c w he hfit hone
   simp only [Nat.add_zero] at hst
   refine ⟨.tuple #[],_,?_,kk _ (zbT w b (c.toList.take (o+k*Rep.size α)++(Builtin.zeroCells z.cells (n-k)).toList++c.toList.drop (o+k*Rep.size α+(Builtin.zeroCells z.cells (n-k)).toList.length)).toArray) ?_⟩
   · rw [hm'] at hst ⊢
     simp [Builtin.clear_,run_underlying ht,zeroValue,typeInfo,hi,hzz,hst]
   have hB:=setRow_heap w b c (c.toList.take (o+k*Rep.size α)++(Builtin.zeroCells z.cells (n-k)).toList++c.toList.drop (o+k*Rep.size α+(Builtin.zeroCells z.cells (n-k)).toList.length)).toArray e' _ he
   have:=zdz (w:=w.setRow b (c.toList.take (o+k*Rep.size α)++(Builtin.zeroCells z.cells (n-k)).toList++c.toList.drop (o+k*Rep.size α+(Builtin.zeroCells z.cells (n-k)).toList.length)).toArray) (b:=b) (o:=o) (l:=l.take k) (cap:=cap) (xs:=x1) (by omega) h2 (c1.keep (by simp)) (fun j v hv=>?_) ⟨_,_,hB⟩
   · rwa [htk] at this
   have hj:=(List.getElem?_eq_some_iff.1 hv).1
   rw [hx1] at hj
   have h5:=hr1 j v hv
   simp only [World.cell?,he] at h5
   have h6:c[o+j]?=some v:=by simpa using h5
   simp only [World.cell?,hB]
   simp only [Option.isSome_none,Bool.false_eq_true,if_false,List.getElem?_toArray]
   rw [List.append_assoc,List.getElem?_append_left (by simp;have:=(Array.getElem?_eq_some_iff.1 h6).1;omega),List.getElem?_take,if_pos (by omega)]
   simpa using h6
end
end Go.Sh
namespace Go.Proofs.YtcnglfeoglgebaaGreat
open Go Go.Sh Go.Proofs
open Rep (rep)
set_option maxRecDepth 20000 in
theorem zgL {w w0 w1:World} {K:Value→Prop} {x y:Operand} {v1 v2:Value} {a b:DRace} (h1:Is w0 v1 a) (h2:Is w1 v2 b) (k:K (.bool (decide (a=b)))):RD Tryz.prog (bin .eql 58 x y v1 v2) w K:=by
  obtain ⟨rfl,_⟩:=zgl.1 h1
  obtain ⟨rfl,_⟩:=zgl.1 h2
  refine zaF (fun w' _=>?_) k
  have hg:Tryz.prog.eqGuardType Tryz.prog.depth 58=false:=by kernel_rfl
  have e0:∀ xs ys w,(eqGuard .eql 58 x y (.agg xs) (.agg ys)).run Tryz.prog w=.ok () w:=fun xs ys w=>run_eqGuard_agg (P:=Tryz.prog) w .eql 58 x y xs ys hg
  have e1:∀ xs ys w,(Op.equalIn 10000 58 (.agg xs) (.agg ys)).run Tryz.prog w=(Op.eqFields 9999 xs ys (Tryz.prog.fieldsOf 58).toList).run Tryz.prog w:=fun xs ys w=>run_equalIn_struct w 9999 58 xs ys (by kernel_rfl) (by kernel_rfl)
  have e2:(Tryz.prog.fieldsOf 58).toList.map (fun f=>(f.name,f.type,f.offset))=[("Global", 3,0),("A", 3,1),("B", 3,2)]:=by kernel_rfl
  have e3:∀ (c d:Int) (w:World),(Op.equalIn 9999 3 (.int .i64 c) (.int .i64 d)).run Tryz.prog w=.ok (c == d) w:=fun c d w=>run_equalIn_int w 9998 3 .i64 .i64 c d u3
  have hd:(a=b)↔(a.g=b.g∧a.a=b.a∧a.b=b.b):=⟨fun e=>by rw [e];exact ⟨rfl,rfl,rfl⟩,fun ⟨x,y,z⟩=>by cases a;cases b;simp only at x y z;rw [x,y,z]⟩
  generalize hF:(Tryz.prog.fieldsOf 58).toList=fs at e1 e2
  match fs,e2 with
  | [f0,f1,f2],e2=>
    simp only [List.map_cons,List.map_nil,List.cons.injEq,Prod.mk.injEq,and_true] at e2
    obtain ⟨⟨n0,t0,o0⟩,⟨n1,t1,o1⟩,⟨n2,t2,o2⟩⟩:=e2
    have p0:∀ (a b c:Value) (w:World),(part 3 #[a,b,c] 0).run Tryz.prog w=.ok a w:=fun a b c w=>by simp [part,zbD ty3]
    have p1:∀ (a b c:Value) (w:World),(part 3 #[a,b,c] 1).run Tryz.prog w=.ok b w:=fun a b c w=>by simp [part,zbD ty3]
    have p2:∀ (a b c:Value) (w:World),(part 3 #[a,b,c] 2).run Tryz.prog w=.ok c w:=fun a b c w=>by simp [part,zbD ty3]
    simp only [bin,Sem.run_bind,e0,Result.andThen_ok,run_eql_struct,e1,Op.eqFields,n0,n1,n2,t0,t1,t2,o0,o1,o2]
    simp only [ne_eq,String.reduceEq,not_false_eq_true,if_true,Sem.run_bind,p0,p1,p2,Result.andThen_ok,e3,Sem.run_ite,Sem.run_pure,hd]
    by_cases x0:a.g=b.g<;>by_cases x1:a.a=b.a<;>by_cases x2:a.b=b.b<;>simp [x0,x1,x2]
set_option maxRecDepth 20000 in
theorem zke {w w0 w1:World} {K:Value→Prop} {x y:Operand} {v1 v2:Value} {a b:DRace} (h1:Is w0 v1 a) (h2:Is w1 v2 b) (k:K (.bool (decide (a≠b)))):RD Tryz.prog (bin .neq 58 x y v1 v2) w K:=by
  obtain ⟨rfl,_⟩:=zgl.1 h1
  obtain ⟨rfl,_⟩:=zgl.1 h2
  refine zaF (fun w' _=>?_) k
  have hg:Tryz.prog.eqGuardType Tryz.prog.depth 58=false:=by kernel_rfl
  have e0:∀ xs ys w,(eqGuard .neq 58 x y (.agg xs) (.agg ys)).run Tryz.prog w=.ok () w:=fun xs ys w=>run_eqGuard_agg (P:=Tryz.prog) w .neq 58 x y xs ys hg
  have e1:∀ xs ys w,(Op.equalIn 10000 58 (.agg xs) (.agg ys)).run Tryz.prog w=(Op.eqFields 9999 xs ys (Tryz.prog.fieldsOf 58).toList).run Tryz.prog w:=fun xs ys w=>run_equalIn_struct w 9999 58 xs ys (by kernel_rfl) (by kernel_rfl)
  have e2:(Tryz.prog.fieldsOf 58).toList.map (fun f=>(f.name,f.type,f.offset))=[("Global", 3,0),("A", 3,1),("B", 3,2)]:=by kernel_rfl
  have e3:∀ (c d:Int) (w:World),(Op.equalIn 9999 3 (.int .i64 c) (.int .i64 d)).run Tryz.prog w=.ok (c == d) w:=fun c d w=>run_equalIn_int w 9998 3 .i64 .i64 c d u3
  have hd:(a=b)↔(a.g=b.g∧a.a=b.a∧a.b=b.b):=⟨fun e=>by rw [e];exact ⟨rfl,rfl,rfl⟩,fun ⟨x,y,z⟩=>by cases a;cases b;simp only at x y z;rw [x,y,z]⟩
  generalize hF:(Tryz.prog.fieldsOf 58).toList=fs at e1 e2
  match fs,e2 with
  | [f0,f1,f2],e2=>
    simp only [List.map_cons,List.map_nil,List.cons.injEq,Prod.mk.injEq,and_true] at e2
    obtain ⟨⟨n0,t0,o0⟩,⟨n1,t1,o1⟩,⟨n2,t2,o2⟩⟩:=e2
    have p0:∀ (a b c:Value) (w:World),(part 3 #[a,b,c] 0).run Tryz.prog w=.ok a w:=fun a b c w=>by simp [part,zbD ty3]
    have p1:∀ (a b c:Value) (w:World),(part 3 #[a,b,c] 1).run Tryz.prog w=.ok b w:=fun a b c w=>by simp [part,zbD ty3]
    have p2:∀ (a b c:Value) (w:World),(part 3 #[a,b,c] 2).run Tryz.prog w=.ok c w:=fun a b c w=>by simp [part,zbD ty3]
    simp only [bin,Sem.run_bind,e0,Result.andThen_ok,run_neq_struct,e1,Op.eqFields,n0,n1,n2,t0,t1,t2,o0,o1,o2]
    simp only [ne_eq,String.reduceEq,not_false_eq_true,if_true,Sem.run_bind,p0,p1,p2,Result.andThen_ok,e3,Sem.run_ite,Sem.run_pure,hd]
    by_cases x0:a.g=b.g<;>by_cases x1:a.a=b.a<;>by_cases x2:a.b=b.b<;>simp [x0,x1,x2,hd]
def F166 (a0:Value) (w:World) (R:VW):Prop:=
 rN 39 3 a0 w fun x7=>
 rB .lss 3 T0 U0 x7 (iV 2) w fun x8=>
 BR x8
 (R a0 w)
 (LOOPI [3] [(iV 1)] w fun u4 w next4=>
 rN 39 3 a0 w fun x12=>
 rC (u4 3) x12 w fun x13=>
 BR x13
 ((fun w=>rX 39 a0 (u4 3) w fun x18=>
 rL 58 x18 w fun x19=>
 rB .sub 3 T0 U0 (u4 3) (iV 1) w fun x22=>
 rX 39 a0 x22 w fun x23=>
 rL 58 x23 w fun x24=>
 rB .eql 58 T0 T0 x19 x24 w fun x25=>
 BR x25
 (rD (Instr.sliceAt 39 a0 (some (u4 3)) none none) w fun x28=>
 LOOPI [3,5] [(u4 3),(iV 1)] w fun u9 w next9=>
 rN 39 3 x28 w fun x31=>
 rC (u9 5) x31 w fun x32=>
 BR x32
 ((fun w=>rX 39 x28 (u9 5) w fun x37=>
 rL 58 x37 w fun x38=>
 rB .sub 3 T0 U0 (u9 5) (iV 1) w fun x41=>
 rX 39 x28 x41 w fun x42=>
 rL 58 x42 w fun x43=>
 rB .neq 58 T0 T0 x38 x43 w fun x44=>
 BR x44
 (rX 39 x28 (u9 5) w fun x49=>
 rL 58 x49 w fun x50=>
 rX 39 a0 (u9 3) w fun x51=>
 oS 58 x51 x50 w fun w=>
 rA (u9 3) (iV 1) w fun x53=>
 rA (u9 5) (iV 1) w fun x34=>
 next9 [x53,x34] w)
 (rA (u9 5) (iV 1) w fun x34=>
 next9 [(u9 3),x34] w)) (World.drew1 w))
 (rD (Instr.sliceAt 39 a0 (some (u9 3)) none none) w fun x56=>
 oP (Builtin.clear_ #[39] 0 [x56].toArray) w fun _ w=>
 rD (Instr.sliceAt 39 a0 none (some (u9 3)) none) w fun x59=>
 R x59 w))
 (rA (u4 3) (iV 1) w fun x15=>
 next4 [x15] w)) (World.drew1 w))
 (R a0 w))
def cfg166:Cfg:=⟨extL,[],[(4,1152921504606846012,[3]),(9,18014397972611112,[3,5])],[(6,[0,1,2,3,4,5,6,7,8,9],0),(11,[0,1,2,3,4,5,6,7,8,9],0)],[],[],[]⟩
theorem F166_call {a0:Value} {w:World} {R:VW} (h:F166 a0 w R):cL 166 [a0] w R:=co (g:=cfg166) Tryz.func166 (by kernel_rfl) (by kernel_rfl) (by kernel_rfl) h
def F162 (a0:Value) (w:World) (R:VW):Prop:=
 rB .eql 39 T0 U0 a0 (Value.slice none 0 0) w fun x4=>
 BR x4
 (R (Value.slice none 0 0) w)
 (oP (Instr.buildSlice 39 0 #[]) w fun x5 w=>
 oP (Builtin.append_ #[39,39] 39 [x5,a0].toArray) w fun x7 w=>
 R x7 w)
def cfg162:Cfg:=⟨extL,[],[],[],[],[],[]⟩
theorem F162_call {a0:Value} {w:World} {R:VW} (h:F162 a0 w R):cL 162 [a0] w R:=co (g:=cfg162) Tryz.func162 (by kernel_rfl) (by kernel_rfl) (by kernel_rfl) h
def F165 (a0:Value) (w:World) (R:VW):Prop:=
 rN 39 3 a0 w fun x5=>
 rN 39 3 a0 w fun x7=>
 rD (Instr.sliceAt 39 a0 none (some x5) (some x7)) w fun x8=>
 R x8 w
def cfg165:Cfg:=⟨extL,[],[],[],[],[],[]⟩
theorem F165_call {a0:Value} {w:World} {R:VW} (h:F165 a0 w R):cL 165 [a0] w R:=co (g:=cfg165) Tryz.func165 (by kernel_rfl) (by kernel_rfl) (by kernel_rfl) h
theorem zij {P:Program} {w:World} {t e:TypeId} {b a n cap sz by_ k:Nat} {ag:Bool} {u:Value} {K:Value→Prop} (ht:P.underlying t=some (.slice e)) (he:tyI P e=some (sz,by_,ag)) (hu:u=.slice (some ⟨b,a,none⟩) n cap) (hk:k<n) (kk:K (.pointer (some ⟨b,a+k*sz,none⟩))) :
   RD P (Instr.indexAt t u (.int .i64 (k:Int))) w K:=by
 subst hu
 exact zaF (fun w' _=>by rw [zb7 ht he (by omega) (by omega)];simp) kk
instance:Flat DRace:=⟨fun h=>by obtain ⟨F1,F2,c1,c2,rfl,rfl,⟨rfl,_⟩,⟨F3,F4,c3,c4,rfl,rfl,⟨rfl,_⟩,⟨rfl,_⟩⟩⟩:=h;rfl⟩
section
variable {α:Type} [DecidableEq α]
def ddg (x:α):List α→List α
 | []=>[]
 | y :: l=>if y=x then ddg x l else y :: ddg y l
def ddp:List α→List α
 | []=>[]
 | x :: l=>x :: ddg x l
theorem zik (y:α):∀ (l:List α) (x:α),ddg x (l++[y])=if y=l.getLastD x then ddg x l else ddg x l++[y]
 | [],x=>rfl
 | a :: l,x=>by
   rw [List.cons_append,ddg,ddg,List.getLastD_cons]
   by_cases h:a=x
   · rw [if_pos h,if_pos h,zik y l x,h]
   rw [if_neg h,if_neg h,zik y l a]
   split<;>rfl
theorem zil {l:List α} {k:Nat} (h0:0<k) (hk:k<l.length):ddp (l.take (k+1))=if l[k]=l[k-1] then ddp (l.take k) else ddp (l.take k)++[l[k]]:=by
 rw [List.take_succ_eq_append_getElem hk]
 cases l with
 | nil=>simp at hk
 | cons x l=>
   obtain ⟨j,rfl⟩:∃ j,k=j+1:=⟨k-1,by omega⟩
   have hj:j<l.length:=by simpa using hk
   have e:(l.take j).getLastD x=(x :: l)[j+1-1]:=by
     rw [List.getLastD_eq_getLast?,List.getLast?_eq_getElem?,List.length_take,Nat.min_eq_left (by omega)]
     cases j with
     | zero=>simp
     | succ j=>simp [List.getElem?_take];rw [List.getElem?_eq_getElem (by omega)];rfl
   rw [List.take_succ_cons,List.cons_append,ddp,ddp,zik,e]
   split<;>rfl
end
theorem zl1 {w:World} {lo hi:Nat} {v:Value} {l:List DRace} (h:OwnI lo hi w v l) (hn:l.length≤1073741824) :
   CALL Tryz.prog 166 [v] w fun r w'=>ChgI lo hi w w'∧OwnI lo hi w' r (ddp l):=by
 obtain ⟨F,hM,hF⟩:=h
 refine F166_call ?_
 unfold F166
 refine zaf u39 hM.is ?_
 refine zal ?_
 refine br (fun hlt=>?_) (fun hge=>?_)
 · refine ⟨ChgI.refl w,F,?_,hF⟩
   have:ddp l=l:=by
     match l,hlt with
     | [],_=>rfl
     | [x],_=>rfl
     | _ :: _ :: _,h=>simp only [List.length_cons] at h;omega
   rw [this];exact hM
 have hne:l≠[]:=fun e=>by rw [e] at hge;simp at hge
 obtain ⟨b,o,cap,xs,rfl,rfl,h1,h2,hcc,hrr,hww⟩:=zde hM hne
 have hln:=hM.is
 refine zaE l.length (fun k us w'=>us=[.int .i64 (k:Int)]∧Ext w w'∧1≤k∧k≤l.length∧ddp (l.take k)=l.take k) 1 (by omega) ⟨rfl,Ext.refl w,Nat.le_refl _,by omega,?_⟩ ?_
 · cases l with
   | nil=>exact absurd rfl hne
   | cons x l=>rfl
 rintro k0 mk u w1 hkm ⟨hu,hx1,hk1,hkl,hd0⟩
 simp only [List.map_cons,List.map_nil,List.cons.injEq,and_true] at hu
 rw [hu]
 refine zaf u39 hln ?_
 refine zal ?_
 refine br (fun hlt=>?_) (fun hge1=>?_)
 case refine_2=>
   have:k0=l.length:=by omega
   subst this
   rw [List.take_length] at hd0
   rw [hd0]
   exact ⟨hx1.toI,[b],hM.ext hx1,hF⟩
 have hk:k0<l.length:=by omega
 have hx2:=zao w1
 have hx12:=hx1.trans hx2
 generalize World.drew1 w1=w2 at *
 refine zad u39 zfQ hln hk fun b1 o1 hA1=>?_
 refine zab zfQ hA1 hx12 fun v19 h19=>?_
 refine zck (by unfold I64;omega) ?_
 rw [show ((k0:Int)-1)=((k0-1:Nat):Int) by omega]
 refine zad (i:=k0-1) u39 zfQ hln (by omega) fun b2 o2 hA2=>?_
 refine zab zfQ hA2 hx12 fun v24 h24=>?_
 refine zgL h19 h24 ?_
 refine br (fun heq=>?_) (fun hneq=>?_)
 case refine_2=>
   refine zag (by omega) ?_
   refine ⟨mk-1,by omega,k0+1,by omega,rfl,hx12,by omega,by omega,?_⟩
   rw [zil (by omega) hk,if_neg hneq,hd0,←List.take_succ_eq_append_getElem hk]
 refine zlk (α:=DRace) u39 zfQ (by omega) h1 ?_
 rw [if_neg (by omega)]
 have e3:Rep.size DRace=3:=rfl
 rw [e3]
 refine zaE (l.length-k0) (fun k2 us w'=>∃ (k:Nat) (cur:List DRace),us=[.int .i64 (k:Int),.int .i64 (k2:Int)]∧Chg [b] w w'∧Mine [b] w' (.slice (some ⟨b,o,none⟩) l.length cap) cur∧cur.length=l.length∧1≤k2∧k2≤l.length-k0∧k0≤k∧k+1≤k0+k2 ∧
     cur.take k=ddp (l.take (k0+k2))∧∀ j,k≤j→cur[j]?=l[j]?) 1 (by omega)
   ⟨k0,l,rfl,hx12.chg _,hM.ext hx12,rfl,Nat.le_refl _,by omega,Nat.le_refl _,by omega,by rw [zil (by omega) hk,if_pos heq,hd0],fun _ _=>rfl⟩ ?_
 rintro k2 mk2 u9 w3 hkm2 ⟨k,cur,hu9,hc3,hm3,hl3,hk21,hk22,hk0,hkk,htk,hrest⟩
 obtain ⟨hu91,hu92⟩:=zey hu9
 rw [hu91,hu92]
 refine zaF (v:=.int .i64 ((l.length-k0:Nat):Int)) (fun w' _=>by simp [Builtin.len_,run_underlying u39];rfl) ?_
 refine zal ?_
 refine br (fun hlt2=>?_) (fun hge2=>?_)
 · have hp:k0+k2<l.length:=by omega
   have hx4:=zao w3
   have hm4:=hm3.ext hx4
   have hc4:=hc3.trans (hx4.chg _)
   generalize World.drew1 w3=w4 at *
   have hcne:cur≠[]:=fun e=>by rw [e] at hl3;simp at hl3;omega
   obtain ⟨b',o',cap',xs',hv',hb',_,_,hcc',hrr',hww'⟩:=zde hm4 hcne
   simp only [Value.slice.injEq,Option.some.injEq,Addr.mk.injEq] at hv'
   obtain ⟨⟨rfl,rfl,_⟩,_,rfl⟩:=hv'
   have hat:∀ i (hi:i<cur.length),At w4 b (o+i*3) cur[i]:=fun i hi=>hcc'.at hrr' hi
   have hget:∀ i (hi:i<l.length) (hki:k≤i),cur[i]'(by omega)=l[i]:=fun i hi hki=>by
     have:=hrest i hki
     rw [List.getElem?_eq_getElem (by omega),List.getElem?_eq_getElem hi] at this
     exact Option.some.inj this
   have hA3:=hat (k0+k2) (by omega)
   have hA4:=hat (k0+k2-1) (by omega)
   rw [hget _ hp (by omega)] at hA3
   rw [hget _ (by omega) (by omega)] at hA4
   refine zij (k:=k2) u39 zfQ rfl (by omega) ?_
   rw [show o+k0*3+k2*3=o+(k0+k2)*3 by omega]
   refine zab zfQ hA3 (Ext.refl _) fun v38 h38=>?_
   refine zck (by unfold I64;omega) ?_
   rw [show ((k2:Int)-1)=((k2-1:Nat):Int) by omega]
   refine zij (k:=k2-1) u39 zfQ rfl (by omega) ?_
   rw [show o+k0*3+(k2-1)*3=o+(k0+k2-1)*3 by omega]
   refine zab zfQ hA4 (Ext.refl _) fun v43 h43=>?_
   refine zke h38 h43 ?_
   have hdt:=zil (l:=l) (k:=k0+k2) (by omega) hp
   refine br (fun hne2=>?_) (fun heq2=>?_)
   · refine zij (k:=k2) u39 zfQ rfl (by omega) ?_
     rw [show o+k0*3+k2*3=o+(k0+k2)*3 by omega]
     refine zab zfQ hA3 (Ext.refl _) fun v50 h50=>?_
     obtain ⟨F5,cs5,hr5,hv5⟩:=h50
     have hF5:=Flat.flat hr5
     subst hF5
     refine zov (α:=DRace) u39 zfQ hm4 (k:=k) (by omega) ⟨cs5,hr5,hv5⟩ fun w5 hc5 hm5=>?_
     refine zag (by omega) ?_
     refine zag (by omega) ?_
     refine ⟨mk2-1,by omega,k2+1,by omega,k+1,_,rfl,hc4.trans hc5,hm5,by simp [hl3],by omega,by omega,by omega,by omega,?_,fun j hj=>?_⟩
     · rw [show k0+(k2+1)=k0+k2+1 by omega,hdt,if_neg hne2,←htk]
       rw [List.take_succ_eq_append_getElem (by simp;omega),List.getElem_set_self,List.take_set_of_le (Nat.le_refl _)]
     rw [List.getElem?_set_ne (by omega)]
     exact hrest j (by omega)
   have heq2:=Decidable.not_not.1 heq2
   refine zag (by omega) ?_
   refine ⟨mk2-1,by omega,k2+1,by omega,k,cur,rfl,hc4,hm4,hl3,by omega,by omega,hk0,by omega,?_,hrest⟩
   rw [show k0+(k2+1)=k0+k2+1 by omega,hdt,if_pos heq2,htk]
 have hk2:k0+k2=l.length:=by omega
 rw [hk2,List.take_length] at htk
 refine zlk (α:=DRace) u39 zfQ (by omega) h1 ?_
 refine znr (α:=DRace) u39 zrV hm3 hl3 (by omega) (by omega) h1 fun w5 hc5 hm5=>?_
 refine zqv (α:=DRace) u39 zfQ (by omega) h1 ?_
 rw [htk] at hm5
 exact ⟨(hc3.trans hc5).toI hF,[b],hm5,hF⟩
theorem zns {w W:World} {v:Value} {l:List DRace} (h:Is W v l) (e:Ext W w) (hn:l.length≤1073741824) :
   CALL Tryz.prog 162 [v] w fun r w'=>Ext w w'∧Own w.heap.size w' r l:=by
 refine F162_call ?_
 unfold F162
 obtain ⟨a,cap,Fi,xs,rfl,h1,h2,h3,h4⟩:=zcf h
 refine zfM u39 ?_
 refine zbQ (fun hnil=>?_) (fun _=>?_)
 · have:l=[]:=by
     rcases h4 with h4 | ⟨b,o,rfl,_⟩
     · exact h4
     simp at hnil
   subst this
   exact ⟨Ext.refl w,zgf rfl⟩
 refine zcx (α:=DRace) u39 zfQ fun a5 w1 hx1 r5=>?_
 have hs1:=hx1.size
 refine zfr (α:=DRace) u39 zfQ zsd r5 (Nat.le_refl _) h (e.trans hx1) (by rw [zak];simp;omega) (by simp;omega) fun v7 w2 hc2 r7=>?_
 rw [List.nil_append] at r7
 exact ⟨Ext.chgI hx1 hc2 (by omega),r7.own.own.mono (by omega)⟩
theorem zoY {w:World} {lo hi:Nat} {v:Value} {l:List DRace} (h:OwnI lo hi w v l) :
   CALL Tryz.prog 165 [v] w fun r w'=>Ext w w'∧OwnI lo hi w' r l:=by
 obtain ⟨F,hM,hF⟩:=h
 refine F165_call ?_
 unfold F165
 refine zaf u39 hM.is ?_
 refine zaf u39 hM.is ?_
 by_cases hne:l=[]
 · subst hne
   obtain ⟨a,cap,Fi,xs,rfl,h1,h2,h3,h4⟩:=zcf hM.is
   refine zll (α:=DRace) (k:=0) (j:=0) u39 zfQ (Nat.le_refl _) h1 fun a' _=>⟨Ext.refl w,zgq a'⟩
 obtain ⟨b,o,cap,xs,rfl,rfl,h1,h2,hc,hr,hw⟩:=zde hM hne
 refine zll (α:=DRace) (k:=l.length) (j:=l.length) u39 zfQ (Nat.le_refl _) h1 fun a' ha=>?_
 rw [ha (fun e=>hne (List.eq_nil_of_length_eq_zero e))]
 exact ⟨Ext.refl w,[b],zdz (Nat.le_refl _) (by omega) hc hr hw,hF⟩
theorem zjd {lo hi:Nat} {w:World} {x:DTouch} (h1:I64 x.at_) (h2:I64 x.global) (h3:I64 x.held):OwnI lo hi w (.agg #[.int .i64 x.at_,.int .i64 x.global,.bool x.write,.int .i64 x.held]) x:=
 ⟨[],zmS h1 h2 h3,by simp⟩
def zbk (c:DCode) (a:Int) (held:Int) (i:DIns):Nat→List DTouch
 | 0=>[]
 | k+1=>zbk c a held i k++(if c.globals.getD k ByteArray.empty∈zbn i.term then [⟨a,k,false,held⟩] else [])++(if i.op=1∧i.arg=k then [⟨a,k,true,held⟩] else [])
def zci (c:DCode) (a:Int) (held:Int):List DTouch:=
 if (zah c a.toNat).op=1∨(zah c a.toNat).op=2 then zbk c a held (zah c a.toNat) c.globals.length else []
theorem zeH (c:DCode) (a held:Int) (i:DIns):∀ k,(zbk c a held i k).length≤2*k
 | 0=>by simp [zbk]
 | k+1=>by
   have:=zeH c a held i k
   rw [zbk,List.length_append,List.length_append]
   split<;>split<;>simp<;>omega
theorem zkf (c:DCode) (a held:Int):(zci c a held).length≤2*c.globals.length:=by
 unfold zci
 split
 · exact zeH _ _ _ _ _
 simp
def F146 (a0 a1 a2:Value) (w:World) (R:VW):Prop:=
 oP (Instr.box 36 a0) w fun x3 w=>
 rF 36 x3 4 w fun x12=>
 rL 34 x12 w fun x13=>
 rX 34 x13 a1 w fun x15=>
 rL 84 x15 w fun x16=>
 oP (Instr.alloc 84 true (.tuple #[])) w fun x7 w=>
 oS 84 x7 x16 w fun w=>
 JOIN [] (fun J4=>
 rF 84 x7 0 w fun x17=>
 rL 3 x17 w fun x18=>
 rB .neq 3 T0 U0 x18 (iV 1) w fun x19=>
 BR x19
 (rF 84 x7 0 w fun x21=>
 rL 3 x21 w fun x22=>
 rB .neq 3 T0 U0 x22 (iV 2) w fun x23=>
 BR x23
 (R (Value.slice none 0 0) w)
 (J4 [] w))
 (J4 [] w)) (fun u4 w=>
 rF 84 x7 2 w fun x25=>
 rL 53 x25 w fun x26=>
 cL 182 [x26] w fun x27 w=>
 rF 36 x3 0 w fun x28=>
 rL 24 x28 w fun x29=>
 rN 24 3 x29 w fun x30=>
 LOOPI [9,31] [(Value.slice none 0 0),(iV 0)] w fun u7 w next7=>
 rC (u7 31) x30 w fun x32=>
 BR x32
 (rX 24 x29 (u7 31) w fun x34=>
 rL 9 x34 w fun x35=>
 JOIN [9] (fun J11=>
 cL 99 [x27,x35] w fun x38 w=>
 BR x38
 (rD (Instr.build 138 #[(0,a1),(1,(u7 31)),(3,a2)]) w fun x43=>
 oP (Instr.buildSlice 133 1 #[(0,x43)]) w fun x44 w=>
 oP (Builtin.append_ #[133,133] 133 [(u7 9),x44].toArray) w fun x45 w=>
 J11 [x45] w)
 (J11 [(u7 9)] w)) (fun u11 w=>
 rF 84 x7 0 w fun x46=>
 rL 3 x46 w fun x47=>
 rB .eql 3 T0 U0 x47 (iV 1) w fun x48=>
 BR x48
 (rF 84 x7 1 w fun x50=>
 rL 3 x50 w fun x51=>
 rB .eql 3 T0 T0 x51 (u7 31) w fun x53=>
 BR x53
 (rD (Instr.build 138 #[(0,a1),(1,(u7 31)),(2,(Value.bool true)),(3,a2)]) w fun x59=>
 oP (Instr.buildSlice 133 1 #[(0,x59)]) w fun x60 w=>
 oP (Builtin.append_ #[133,133] 133 [(u11 9),x60].toArray) w fun x61 w=>
 rA (u7 31) (iV 1) w fun x62=>
 next7 [x61,x62] w)
 (rA (u7 31) (iV 1) w fun x62=>
 next7 [(u11 9),x62] w))
 (rA (u7 31) (iV 1) w fun x62=>
 next7 [(u11 9),x62] w)))
 (R (u7 9) w))
def cfg146:Cfg:=⟨extL,[(4,33423424,[]),(11,70300024701440,[9])],[(7,9223372034707295744,[9,31])],[],[],[],[]⟩
theorem F146_call {a0 a1 a2:Value} {w:World} {R:VW} (h:F146 a0 a1 a2 w R):cL 146 [a0,a1,a2] w R:=co (g:=cfg146) Tryz.func146 (by kernel_rfl) (by kernel_rfl) (by kernel_rfl) h
theorem zje {w:World} {v0:Value} {W0:World} {c:DCode} {a:Int} {held:Int}  (h0:Is W0 v0 c) (e0:Ext W0 w) (hc:CodeR c) (ha:0≤a) (ha2:a<c.ins.length) (hh:I64 held) :
   CALL Tryz.prog 146 [v0,.int .i64 a,.int .i64 held] w fun r w'=>Ext w w'∧(Own w.heap.size w' r (zci c a held)):=by
 refine F146_call ?_
 unfold F146
 have hil:=hc.f.ins
 have hg6:c.globals.length≤6:=by have h1:=hc.1.1;simp only [Bool.and_eq_true,decide_eq_true_eq] at h1;omega
 have hs_e0:=e0.size
 refine zbm zfm rfl h0 e0 fun w1_ hx1_ hA3 hV3=>?_
 have hs_hx1_:=hx1_.size
 refine zaa zaK ?_
 refine zab zdG (zat hA3) (Ext.refl w1_) fun v13 h13=>?_
 refine zd6 u34 zem h13 (by omega) (by omega) fun b15 o15 h15=>?_
 rw [zaY] at h15
 obtain ⟨i,hi⟩:∃ i,i=zah c a.toNat:=⟨_,rfl⟩
 rw [←hi] at h15
 refine zab zem h15 (Ext.refl w1_) fun v16 h16=>?_
 refine zbB zqc rfl zem rfl h16 (Ext.refl w1_) fun w2_ hx2_ hA7 hV7=>?_
 have hs_hx2_:=hx2_.size
 have hg7:=hV7.lt
 refine JOIN.mk (fun us w'=>us=[]∧Ext w2_ w'∧(i.op=1∨i.op=2)) ?_ ?_
 · refine zaa zbK ?_
   refine zac ty3 (zaG hA7) (Ext.refl w2_) fun hI18=>?_
   refine zaT ?_
   refine br (fun c1=>?_) (fun c1=>?_)
   · refine zaa zbK ?_
     refine zac ty3 (zaG hA7) (Ext.refl w2_) fun hI22=>?_
     refine zaT ?_
     refine br (fun c2=>?_) (fun c2=>?_)
     · refine ⟨(hx1_.trans hx2_),?_⟩
       unfold zci
       rw [←hi,if_neg (by omega)]
       exact zgf rfl
     refine ⟨by simp,Ext.refl w2_,?_⟩
     omega
   refine ⟨by simp,Ext.refl w2_,?_⟩
   omega
 rintro uj4 w3_ ⟨hu,hx3_,hop⟩
 have hs_hx3_:=hx3_.size
 simp only [List.map_cons,List.map_nil,List.cons.injEq,and_true] at hu
 clear hu
 refine zaa zhl ?_
 refine zab zcn (zdc hA7) hx3_ fun v26 h26=>?_
 refine (zb3 h26 hx3_).mono ?_
 rintro r27 w4_ ⟨hx4_,h27⟩
 have hs_hx4_:=hx4_.size
 refine zaa zgi ?_
 refine zab zdQ (zcw hA3) (hx2_.trans (hx3_.trans hx4_)) fun v29 h29=>?_
 have hln30:=zan h29
 refine zaf u24 h29 ?_
 refine zaE (c.globals.length) (fun k us w'=>∃ v:Value,us=[v,.int .i64 (k:Int)]∧Ext w4_ w'∧(RowI w4_.heap.size w'.heap.size 138 w' v (zbk c a held i k))) (0) (by omega) ⟨_,rfl,Ext.refl w4_,zb2 _ _ _ _⟩ ?_
 rintro k m7 uu7 w5_ hk7 ⟨v9,hu,hx5_,hrow⟩
 have hs_hx5_:=hx5_.size
 obtain ⟨hu0,hu1⟩:=zey hu;clear hu
 try rw [hu0]
 try rw [hu1]
 try clear hu0 hu1
 have hrl:=zeH c a held i k
 refine zal ?_
 refine br (fun c3=>?_) (fun c3=>?_)
 · refine zad u24 ty9 h29 (by omega) fun b34 o34 h34=>?_
   refine zaA ty9 h34 (hx2_.trans (hx3_.trans (hx4_.trans hx5_))) fun hS35=>?_
   refine JOIN.mk (fun us w'=>∃ v:Value,us=[v]∧Ext w4_ w'∧(RowI w4_.heap.size w'.heap.size 138 w' v (zbk c a held i k++(if c.globals.getD k ByteArray.empty∈zbn i.term then [⟨a,k,false,held⟩] else [])))) ?_ ?_
   · have hgk:c.globals[k]'(by omega)=c.globals.getD k ByteArray.empty:=by rw [List.getD_eq_getElem?_getD,List.getElem?_eq_getElem (by omega)];rfl
     refine (zaV h27 hx5_).mono ?_
     rintro _ w7_ ⟨hx7_,rfl⟩
     have hs_hx7_:=hx7_.size
     refine br (fun c4=>?_) (fun c4=>?_)
     · refine zaz (cells:=#[.int .i64 a,.int .i64 (k:Int),.bool false,.int .i64 held]) (by kernel_rfl) ?_
       have o43:OwnI w7_.heap.size w7_.heap.size w7_ (.agg #[.int .i64 a,.int .i64 (k:Int),.bool false,.int .i64 held]) (⟨a,k,false,held⟩:DTouch):=zjd (x:=⟨a,k,false,held⟩) (by show I64 a;unfold I64;omega) (by show I64 (k:Int);unfold I64;omega) hh
       refine zdt (α:=DTouch) zpA zen zsf zqd (by decide) (hrow.ext hx7_) (by omega) (o43.ext (Ext.refl w7_)) (by omega) (by omega) (by rw [zak];omega) (by omega) fun v45 w8_ hc8_ o45=>?_
       have hs_hc8_:=hc8_.size
       have o43_c8:=(o43.ext (Ext.refl w7_)).chg hc8_ (by omega)
       refine ⟨_,rfl,(Ext.chgI (hx5_.trans hx7_) hc8_ (by omega)),?_⟩
       rw [if_pos (by rw [←hgk];exact c4)];exact o45
     refine ⟨_,rfl,(hx5_.trans hx7_),?_⟩
     rw [if_neg (by rw [←hgk];exact c4),List.append_nil];exact (hrow.ext hx7_).mono (by omega) (by omega)
   rintro uj11 w6_ ⟨v11,hu,hx8_,hrow2⟩
   have hs_hx8_:=hx8_.size
   simp only [List.map_cons,List.map_nil,List.cons.injEq,and_true] at hu
   try rw [hu]
   try clear hu
   refine zaa zbK ?_
   refine zac ty3 (zaG hA7) (hx3_.trans (hx4_.trans hx8_)) fun hI47=>?_
   refine zai ?_
   refine br (fun c5=>?_) (fun c5=>?_)
   · refine zaa zcl ?_
     refine zac ty3 (zaQ hA7) (hx3_.trans (hx4_.trans hx8_)) fun hI51=>?_
     refine zai ?_
     refine br (fun c6=>?_) (fun c6=>?_)
     · refine zaz (cells:=#[.int .i64 a,.int .i64 (k:Int),.bool true,.int .i64 held]) (by kernel_rfl) ?_
       have o59:OwnI w6_.heap.size w6_.heap.size w6_ (.agg #[.int .i64 a,.int .i64 (k:Int),.bool true,.int .i64 held]) (⟨a,k,true,held⟩:DTouch):=zjd (x:=⟨a,k,true,held⟩) (by show I64 a;unfold I64;omega) (by show I64 (k:Int);unfold I64;omega) hh
       refine zdt (α:=DTouch) zpA zen zsf zqd (by decide) (hrow2.ext (Ext.refl w6_)) (by omega) (o59.ext (Ext.refl w6_)) (by omega) (by omega) (by rw [zak,List.length_append];split<;>simp<;>omega) (by rw [List.length_append];split<;>simp<;>omega) fun v61 w9_ hc9_ o61=>?_
       have hs_hc9_:=hc9_.size
       have o59_c9:=(o59.ext (Ext.refl w6_)).chg hc9_ (by omega)
       refine zag (by omega) ?_
       refine ⟨m7-1,by omega,k+1,by omega,_,rfl,(Ext.chgI hx8_ hc9_ (by omega)),?_⟩
       rw [zbk,if_pos (c:=i.op=1∧i.arg=k) ⟨by omega,by omega⟩];exact o61
     refine zag (by omega) ?_
     refine ⟨m7-1,by omega,k+1,by omega,_,rfl,hx8_,?_⟩
     rw [zbk,if_neg (c:=i.op=1∧i.arg=k) (fun h=>c6 h.2),List.append_nil];exact (hrow2.ext (Ext.refl w6_)).mono (by omega) (by omega)
   refine zag (by omega) ?_
   refine ⟨m7-1,by omega,k+1,by omega,_,rfl,hx8_,?_⟩
   rw [zbk,if_neg (c:=i.op=1∧i.arg=k) (fun h=>c5 h.1),List.append_nil];exact (hrow2.ext (Ext.refl w6_)).mono (by omega) (by omega)
 refine ⟨(hx1_.trans (hx2_.trans (hx3_.trans (hx4_.trans hx5_)))),?_⟩
 unfold zci
 rw [←hi,if_pos hop,←show k=c.globals.length by omega]
 exact hrow.own.own.mono (by omega)
def F316 (a0:Value) (w:World) (R:VW):Prop:=
 rB .neq 3 T0 T0 a0 a0 w fun x5=>
 R x5 w
def cfg316:Cfg:=⟨extL,[],[],[],[],[],[]⟩
theorem F316_call {a0:Value} {w:World} {R:VW} (h:F316 a0 w R):cL 316 [a0] w R:=co (g:=cfg316) Tryz.func316 (by kernel_rfl) (by kernel_rfl) (by kernel_rfl) h
def F261 (a0 a1:Value) (w:World) (R:VW):Prop:=
 cL 316 [a0] w fun x8 w=>
 cL 316 [a1] w fun x10 w=>
 BR x8
 (BR x10
 (R (iV 0) w)
 (R (iV (-1)) w))
 (BR x10
 (R (iV 1) w)
 (rC a0 a1 w fun x16=>
 BR x16
 (R (iV (-1)) w)
 (rB .gtr 3 T0 T0 a0 a1 w fun x19=>
 BR x19
 (R (iV 1) w)
 (R (iV 0) w))))
def cfg261:Cfg:=⟨extL,[],[],[],[],[],[]⟩
theorem F261_call {a0 a1:Value} {w:World} {R:VW} (h:F261 a0 a1 w R):cL 261 [a0,a1] w R:=co (g:=cfg261) Tryz.func261 (by kernel_rfl) (by kernel_rfl) (by kernel_rfl) h
def F215 (a0 a1:Value) (w:World) (R:VW):Prop:=
 rN 33 3 a0 w fun x10=>
 LOOPI [11] [(iV 0)] w fun u2 w next2=>
 rC (u2 11) x10 w fun x12=>
 BR x12
 (rX 33 a0 (u2 11) w fun x14=>
 rL 3 x14 w fun x15=>
 rN 33 3 a1 w fun x18=>
 rB .geq 3 T0 T0 (u2 11) x18 w fun x19=>
 BR x19
 (R (iV 1) w)
 (rX 33 a1 (u2 11) w fun x22=>
 rL 3 x22 w fun x23=>
 cL 261 [x15,x23] w fun x26 w=>
 rB .neq 3 T0 U0 x26 (iV 0) w fun x28=>
 BR x28
 (R x26 w)
 (rA (u2 11) (iV 1) w fun x30=>
 next2 [x30] w)))
 (rN 33 3 a0 w fun x32=>
 rN 33 3 a1 w fun x34=>
 rC x32 x34 w fun x35=>
 BR x35
 (R (iV (-1)) w)
 (R (iV 0) w))
def cfg215:Cfg:=⟨extL,[],[(2,2147482096,[11])],[],[],[],[]⟩
theorem F215_call {a0 a1:Value} {w:World} {R:VW} (h:F215 a0 a1 w R):cL 215 [a0,a1] w R:=co (g:=cfg215) Tryz.func215 (by kernel_rfl) (by kernel_rfl) (by kernel_rfl) h
def F164 (a0 a1:Value) (w:World) (R:VW):Prop:=
 oP (Instr.box 58 a0) w fun x2 w=>
 oP (Instr.box 58 a1) w fun x3 w=>
 rF 58 x2 0 w fun x5=>
 rL 3 x5 w fun x6=>
 rF 58 x2 1 w fun x7=>
 rL 3 x7 w fun x8=>
 rF 58 x2 2 w fun x9=>
 rL 3 x9 w fun x10=>
 oP (Instr.buildSlice 33 3 #[(0,x6),(1,x8),(2,x10)]) w fun x11 w=>
 rF 58 x3 0 w fun x12=>
 rL 3 x12 w fun x13=>
 rF 58 x3 1 w fun x14=>
 rL 3 x14 w fun x15=>
 rF 58 x3 2 w fun x16=>
 rL 3 x16 w fun x17=>
 oP (Instr.buildSlice 33 3 #[(0,x13),(1,x15),(2,x17)]) w fun x18 w=>
 cL 215 [x11,x18] w fun x19 w=>
 R x19 w
def cfg164:Cfg:=⟨extL,[],[],[],[],[],[]⟩
theorem F164_call {a0 a1:Value} {w:World} {R:VW} (h:F164 a0 a1 w R):cL 164 [a0,a1] w R:=co (g:=cfg164) Tryz.func164 (by kernel_rfl) (by kernel_rfl) (by kernel_rfl) h
theorem zsj:zbt Tryz.prog 3=some [.int .i64 0]:=by kernel_rfl
def zlm (x y:Int):Int:=if x<y then -1 else if y<x then 1 else 0
def zoZ:List Int→List Int→Int
 | [],[]=>0
 | [],_ :: _=>-1
 | _ :: _,[]=>1
 | x :: l,y :: m=>if zlm x y≠0 then zlm x y else zoZ l m
theorem isNaN_ok {w:World} {x:Int}:CALL Tryz.prog 316 [.int .i64 x] w fun r w'=>w'=w∧r=.bool false:=by
 refine F316_call ?_
 unfold F316
 exact zaT ⟨rfl,by simp⟩
theorem compareI_ok {w:World} {x y:Int}:CALL Tryz.prog 261 [.int .i64 x,.int .i64 y] w fun r w'=>w'=w∧r=.int .i64 (zlm x y):=by
 refine F261_call ?_
 unfold F261
 refine isNaN_ok.mono ?_
 rintro _ _ ⟨rfl,rfl⟩
 refine isNaN_ok.mono ?_
 rintro _ _ ⟨rfl,rfl⟩
 refine zbQ (fun h=>by cases h) (fun _=>?_)
 refine zbQ (fun h=>by cases h) (fun _=>?_)
 refine zal ?_
 refine br (fun h=>⟨rfl,by rw [zlm,if_pos h]⟩) (fun h=>?_)
 refine zdP ?_
 refine br (fun h2=>⟨rfl,by rw [zlm,if_neg h,if_pos h2]⟩) (fun h2=>⟨rfl,by rw [zlm,if_neg h,if_neg h2]⟩)
theorem zim {P:Program} {w:World} {K:Value→Prop} {t ty e:TypeId} {a:Option Addr} {n c:Nat} (ht:P.underlying t=some (.slice e)) (k:K (.int .i64 (n:Int))) :
   RD P (Builtin.len_ #[t] ty [Value.slice a n c].toArray) w K:=zaF (fun w' _=>by simp [Builtin.len_,run_underlying ht];rfl) k
def vI (l:List Int):List Value:=l.map fun x=>.int .i64 x
theorem zpO {l:List Int} {k:Nat} (h:k<l.length):(vI l)[k]?=some (.int .i64 l[k]):=by simp [vI,h]
theorem znt {l m:List Int} {k:Nat} (h1:k<l.length) (h2:k<m.length):zoZ (l.drop k) (m.drop k)=if zlm l[k] m[k]≠0 then zlm l[k] m[k] else zoZ (l.drop (k+1)) (m.drop (k+1)):=by
 rw [List.drop_eq_getElem_cons h1,List.drop_eq_getElem_cons h2,zoZ]
theorem zkg {w:World} {g1 g2 e1 e2 c1 c2:Nat} {l m:List Int} (h1:Blk g1 e1 w (vI l)) (h2:Blk g2 e2 w (vI m)) (hl:l.length≤1000) (hm:m.length≤1000) :
   CALL Tryz.prog 215 [.slice (some ⟨g1,0,none⟩) l.length c1,.slice (some ⟨g2,0,none⟩) m.length c2] w fun r w'=>w'=w∧r=.int .i64 (zoZ l m):=by
 refine F215_call ?_
 unfold F215
 refine zim u33 ?_
 refine zaE l.length (fun k us w'=>us=[.int .i64 (k:Int)]∧w'=w∧k≤m.length∧zoZ l m=zoZ (l.drop k) (m.drop k)) 0 (Nat.zero_le _) ⟨rfl,rfl,Nat.zero_le _,rfl⟩ ?_
 rintro k mk u w2 hkm ⟨hu,rfl,hkl,hc⟩
 simp only [List.map_cons,List.map_nil,List.cons.injEq,and_true] at hu
 rw [hu]
 refine zal ?_
 refine br (fun hlt=>?_) (fun hge=>?_)
 · have hk1:k<l.length:=by omega
   refine zgg u33 ty3 hk1 ?_
   rw [Nat.mul_one]
   refine zas ty3 h1 (zpO hk1) ?_
   refine zim u33 ?_
   refine zdD ?_
   refine br (fun hge=>?_) (fun hlt2=>?_)
   · refine ⟨rfl,?_⟩
     have e0:m.drop k=[]:=List.drop_eq_nil_of_le (by omega)
     rw [hc,List.drop_eq_getElem_cons hk1,e0];rfl
   have hk2:k<m.length:=by omega
   refine zgg u33 ty3 hk2 ?_
   rw [Nat.mul_one]
   refine zas ty3 h2 (zpO hk2) ?_
   refine compareI_ok.mono ?_
   rintro _ _ ⟨rfl,rfl⟩
   have hst:=znt hk1 hk2
   refine zaT ?_
   refine br (fun hne=>?_) (fun heq=>?_)
   · exact ⟨rfl,by rw [hc,hst,if_pos hne]⟩
   refine zag (by omega) ?_
   exact ⟨mk-1,by omega,k+1,by omega,rfl,rfl,by omega,by rw [hc,hst,if_neg heq]⟩
 have hk:k=l.length:=by omega
 subst hk
 refine zim u33 ?_
 refine zim u33 ?_
 refine zal ?_
 rw [List.drop_length] at hc
 refine br (fun hlt2=>⟨rfl,?_⟩) (fun hge2=>⟨rfl,?_⟩)
 · rw [hc,List.drop_eq_getElem_cons (by omega)];rfl
 rw [hc,List.drop_eq_nil_of_le (by omega)];rfl
section
variable {P:Program} {w:World} {K:Value→World→Prop}
theorem znu {t:TypeId} {cs:Array Value} (k:K (.pointer (some ⟨w.heap.size,0,none⟩)) (w.alloc (.cells cs t))):OP P (Instr.box t (.agg cs)) w K:=
 ⟨_,w.alloc (.cells cs t),by simp [Instr.box,newVar,newRow,Value.cells],k⟩
theorem zhr {t e:TypeId} {by_:Nat} {x y z:Int} (ht:P.underlying t=some (.slice e)) (he:tyI P e=some (1,by_,false)) (hz:zbt P e=some [.int .i64 0])
   (k:K (.slice (some ⟨w.heap.size,0,none⟩) 3 3) (w.alloc (.cells (vI [x,y,z]).toArray e))):OP P (Instr.buildSlice t 3 #[(0,.int .i64 x),(1,.int .i64 y),(2,.int .i64 z)]) w K:=by
 unfold zbt at hz
 cases hi:P.info? e with
 | none=>simp [hi] at hz
 | some i=>
   simp only [hi] at hz
   obtain ⟨v,hv,hvc⟩:=Option.map_eq_some_iff.1 hz
   refine ⟨_,w.alloc (.cells (vI [x,y,z]).toArray e),?_,k⟩
   have hvc':v.cells=#[.int .i64 0]:=Array.ext' (by simpa using hvc)
   have e1:∀ n:Int,(Value.int .i64 n).cells=#[.int .i64 n]:=fun _=>rfl
   simp only [Instr.buildSlice,Sem.run_bind,run_underlying ht,Result.andThen_ok,zar he]
   have e2:Array.range 3=#[0,1,2]:=by decide
   simp [zeroValue,typeInfo,hi,hv,newRow,Instr.fill,hvc',vI,e1,e2]
end
def i3 (a b c:Int):Array Value:=#[.int .i64 a,.int .i64 b,.int .i64 c]
def zkh (w w':World):Prop:=∃ q os,w'=Go.Sort.grow (w.drewN q) os
theorem zjf {w:World} (o1 o2 o3 o4:Obj):zkh w ((((w.alloc o1).alloc o2).alloc o3).alloc o4):=
 ⟨0,#[o1]++#[o2]++#[o3]++#[o4],by
   rw [Go.Sort.alloc_eq_grow,Go.Sort.alloc_eq_grow,Go.Sort.alloc_eq_grow,Go.Sort.alloc_eq_grow,Go.Sort.grow_grow,Go.Sort.grow_grow,Go.Sort.grow_grow];rfl⟩
def zgM (x:DRace):List Int:=[x.g,x.a,x.b]
def zo0 (x y:DRace):Int:=zoZ (zgM x) (zgM y)
theorem zgN {w:World} {x y:DRace}:CALL Tryz.prog 164 [.agg (i3 x.g x.a x.b),.agg (i3 y.g y.a y.b)] w fun r w'=>r=.int .i64 (zo0 x y)∧zkh w w':=by
 refine F164_call ?_
 unfold F164
 refine znu ?_
 have hB1:Blk w.heap.size 58 (w.alloc (.cells (i3 x.g x.a x.b) 58)) (vI (zgM x)):=heap_alloc_new w _
 refine znu ?_
 generalize hw1:w.alloc (.cells (i3 x.g x.a x.b) 58)=w1 at *
 have hB2:Blk w1.heap.size 58 (w1.alloc (.cells (i3 y.g y.a y.b) 58)) (vI (zgM y)):=heap_alloc_new w1 _
 have hx2:=zaw w1 (.cells (i3 y.g y.a y.b) 58)
 generalize hw2:w1.alloc (.cells (i3 y.g y.a y.b) 58)=w2 at *
 have hB12:=hB1.ext hx2
 refine zaa zpx ?_
 refine zas ty3 hB12 rfl ?_
 refine zaa zpy ?_
 refine zas ty3 hB12 rfl ?_
 refine zaa zpz ?_
 refine zas ty3 hB12 rfl ?_
 refine zhr u33 ty3 zsj ?_
 have hx3:=zaw w2 (.cells (vI [x.g,x.a,x.b]).toArray 3)
 have hB3:Blk w2.heap.size 3 (w2.alloc (.cells (vI [x.g,x.a,x.b]).toArray 3)) (vI (zgM x)):=heap_alloc_new w2 _
 generalize hw3:w2.alloc (.cells (vI [x.g,x.a,x.b]).toArray 3)=w3 at *
 have hB23:=hB2.ext hx3
 refine zaa zpx ?_
 refine zas ty3 hB23 rfl ?_
 refine zaa zpy ?_
 refine zas ty3 hB23 rfl ?_
 refine zaa zpz ?_
 refine zas ty3 hB23 rfl ?_
 refine zhr u33 ty3 zsj ?_
 have hx4:=zaw w3 (.cells (vI [y.g,y.a,y.b]).toArray 3)
 have hB4:Blk w3.heap.size 3 (w3.alloc (.cells (vI [y.g,y.a,y.b]).toArray 3)) (vI (zgM y)):=heap_alloc_new w3 _
 have hg:zkh w (w3.alloc (.cells (vI [y.g,y.a,y.b]).toArray 3)):=by rw [←hw3,←hw2,←hw1];exact zjf _ _ _ _
 refine (zkg (l:=zgM x) (m:=zgM y) (hB3.ext hx4) hB4 (by simp [zgM]) (by simp [zgM])).mono ?_
 rintro _ _ ⟨rfl,rfl⟩
 exact ⟨rfl,hg⟩
def ltR (x y:DRace):Prop:=x.g<y.g∨(x.g=y.g∧(x.a<y.a∨(x.a=y.a∧x.b<y.b)))
theorem zki {x y:Int} (h:x<y):zlm x y=-1:=by rw [zlm,if_pos h]
theorem zkj {x y:Int} (h:y<x):zlm x y=1:=by rw [zlm,if_neg (by omega),if_pos h]
theorem zkk {x y:Int} (h:x=y):zlm x y=0:=by rw [zlm,if_neg (by omega),if_neg (by omega)]
theorem zqw {x y:DRace}:zo0 x y<0↔ltR x y:=by
 unfold zo0 zgM ltR
 simp only [zoZ]
 rcases Int.lt_trichotomy x.g y.g with h | h | h
 · rw [zki h];simp;omega
 · rw [zkk h]
   rcases Int.lt_trichotomy x.a y.a with h2 | h2 | h2
   · rw [zki h2];simp;omega
   · rw [zkk h2]
     rcases Int.lt_trichotomy x.b y.b with h3 | h3 | h3
     · rw [zki h3];simp;omega
     · rw [zkk h3];simp;omega
     rw [zkj h3];simp;omega
   rw [zkj h2];simp;omega
 rw [zkj h];simp;omega
def F109 (a0 a1:Value) (w:World) (R:VW):Prop:=
 oP (Instr.box 138 a0) w fun x2 w=>
 oP (Instr.box 138 a1) w fun x3 w=>
 oP (Instr.alloc 58 true (.tuple #[])) w fun x4 w=>
 rF 138 x2 1 w fun x5=>
 rL 3 x5 w fun x6=>
 rF 138 x2 0 w fun x7=>
 rL 3 x7 w fun x8=>
 rF 138 x3 0 w fun x9=>
 rL 3 x9 w fun x10=>
 rD (Builtin.min_ #[3,3] 3 [x8,x10].toArray) w fun x11=>
 rF 138 x2 0 w fun x12=>
 rL 3 x12 w fun x13=>
 rF 138 x3 0 w fun x14=>
 rL 3 x14 w fun x15=>
 rD (Builtin.max_ #[3,3] 3 [x13,x15].toArray) w fun x16=>
 rD (Instr.build 58 #[(0,x6),(1,x11),(2,x16)]) w fun x17=>
 oS 58 x4 x17 w fun w=>
 rD (zbG 58 x4) w fun r4=>R r4 w
def cfg109:Cfg:=⟨extL,[],[],[],[],[],[]⟩
theorem F109_call {a0 a1:Value} {w:World} {R:VW} (h:F109 a0 a1 w R):cL 109 [a0,a1] w R:=co (g:=cfg109) Tryz.func109 (by kernel_rfl) (by kernel_rfl) (by kernel_rfl) h
def F187 (a0:Value) (w:World) (R:VW):Prop:=
 rB .geq 3 T0 U0 a0 (iV 0) w fun x4=>
 BR x4
 (rB .leq 3 T0 U0 a0 (iV 63) w fun x7=>
 R x7 w)
 (R (Value.bool false) w)
def cfg187:Cfg:=⟨extL,[],[],[],[],[],[]⟩
theorem F187_call {a0:Value} {w:World} {R:VW} (h:F187 a0 w R):cL 187 [a0] w R:=co (g:=cfg187) Tryz.func187 (by kernel_rfl) (by kernel_rfl) (by kernel_rfl) h
theorem zln {w:World} {n:Int}    :
   CALL Tryz.prog 187 [.int .i64 n] w fun r w'=>Ext w w'∧(r=.bool (decide (0≤n∧n≤63))):=by
 refine F187_call ?_
 unfold F187
 refine zdD ?_
 refine br (fun c1=>?_) (fun c1=>?_)
 · refine zeU ?_
   refine ⟨Ext.refl w,?_⟩
   simp [c1]
 refine ⟨Ext.refl w,?_⟩
 simp [c1]
def zcS (a b:DTouch):Prop:=a.global=b.global∧(a.write=true∨b.write=true)∧(0≤a.held∧a.held≤63)∧(0≤b.held∧b.held≤63)∧a.held.toNat &&& b.held.toNat=0
instance (a b:DTouch):Decidable (zcS a b):=by unfold zcS;infer_instance
def F107 (a0 a1:Value) (w:World) (R:VW):Prop:=
 oP (Instr.box 138 a0) w fun x2 w=>
 oP (Instr.box 138 a1) w fun x3 w=>
 JOIN [] (fun J3=>
 rF 138 x2 1 w fun x5=>
 rL 3 x5 w fun x6=>
 rF 138 x3 1 w fun x7=>
 rL 3 x7 w fun x8=>
 rB .neq 3 T0 T0 x6 x8 w fun x9=>
 BR x9
 (R (Value.bool false) w)
 (rF 138 x2 2 w fun x11=>
 rL 4 x11 w fun x12=>
 rD (Op.unary .not x12) w fun x13=>
 GBR x13
 (rF 138 x3 2 w fun x15=>
 rL 4 x15 w fun x16=>
 rD (Op.unary .not x16) w fun x17=>
 BR x17
 (R (Value.bool false) w)
 (J3 [] w))
 (J3 [] w)
 (BR undef
 (BR undef
 (R (Value.bool false) w)
 (J3 [] w))
 (J3 [] w)))) (fun u3 w=>
 rF 138 x2 3 w fun x20=>
 rL 3 x20 w fun x21=>
 cL 187 [x21] w fun x22 w=>
 BR x22
 (rF 138 x3 3 w fun x24=>
 rL 3 x24 w fun x25=>
 cL 187 [x25] w fun x26 w=>
 BR x26
 (rF 138 x2 3 w fun x29=>
 rL 3 x29 w fun x30=>
 rF 138 x3 3 w fun x31=>
 rL 3 x31 w fun x32=>
 rB .and 3 T0 T0 x30 x32 w fun x33=>
 rB .eql 3 T0 U0 x33 (iV 0) w fun x34=>
 R x34 w)
 (R (Value.bool false) w))
 (R (Value.bool false) w))
def cfg107:Cfg:=⟨extL,[(3,1048560,[])],[],[],[],[],[]⟩
theorem F107_call {a0 a1:Value} {w:World} {R:VW} (h:F107 a0 a1 w R):cL 107 [a0,a1] w R:=co (g:=cfg107) Tryz.func107 (by kernel_rfl) (by kernel_rfl) (by kernel_rfl) h
theorem zo1 {w:World} {v0:Value} {W0:World} {a:DTouch} {v1:Value} {W1:World} {b:DTouch}  (h0:Is W0 v0 a) (e0:Ext W0 w) (h1:Is W1 v1 b) (e1:Ext W1 w)  :
   CALL Tryz.prog 107 [v0,v1] w fun r w'=>Ext w w'∧(r=.bool (decide (zcS a b))):=by
 refine F107_call ?_
 unfold F107
 refine zbm zen rfl h0 e0 fun w1_ hx1_ hA2 hV2=>?_
 refine zbm zen rfl h1 (e1.trans hx1_) fun w2_ hx2_ hA3 hV3=>?_
 refine JOIN.mk (fun us w'=>us=[]∧Ext w2_ w'∧(a.global=b.global∧(a.write=true∨b.write=true))) ?_ ?_
 · refine zaa zjR ?_
   refine zac ty3 (zex hA2) hx2_ fun hI6=>?_
   refine zaa zjR ?_
   refine zac ty3 (zex hA3) (Ext.refl w2_) fun hI8=>?_
   refine zaT ?_
   refine br (fun c1=>?_) (fun c1=>?_)
   · refine ⟨(hx1_.trans hx2_),?_⟩
     have:¬zcS a b:=fun h=>c1 h.1
     simp only [this,decide_false]
   refine zaa zmK ?_
   refine zb1 ty4 (zgo hA2) hx2_ ?_
   refine zaO ?_
   refine zrU (fun c2=>?_) (fun c2=>?_)
   · refine zaa zmK ?_
     refine zb1 ty4 (zgo hA3) (Ext.refl w2_) ?_
     refine zaO ?_
     refine zbQ (fun c3=>?_) (fun c3=>?_)
     · refine ⟨(hx1_.trans hx2_),?_⟩
       have:¬zcS a b:=fun h=>by rcases h.2.1 with h | h<;>simp_all
       simp only [this,decide_false]
     refine ⟨by simp,Ext.refl w2_,?_⟩
     exact ⟨by omega,.inr (by simpa using c3)⟩
   refine ⟨by simp,Ext.refl w2_,?_⟩
   exact ⟨by omega,.inl (by simpa using c2)⟩
 rintro uj3 w3_ ⟨hu,hx3_,hgl,hwr⟩
 simp only [List.map_cons,List.map_nil,List.cons.injEq,and_true] at hu
 clear hu
 refine zaa zhU ?_
 refine zac ty3 (zds hA2) (hx2_.trans hx3_) fun hI21=>?_
 refine (zln ).mono ?_
 rintro _ w4_ ⟨hx4_,rfl⟩
 refine br (fun c4=>?_) (fun c4=>?_)
 · refine zaa zhU ?_
   refine zac ty3 (zds hA3) (hx3_.trans hx4_) fun hI25=>?_
   refine (zln ).mono ?_
   rintro _ w5_ ⟨hx5_,rfl⟩
   refine br (fun c5=>?_) (fun c5=>?_)
   · refine zaa zhU ?_
     refine zac ty3 (zds hA2) (hx2_.trans (hx3_.trans (hx4_.trans hx5_))) fun hI30=>?_
     refine zaa zhU ?_
     refine zac ty3 (zds hA3) (hx3_.trans (hx4_.trans hx5_)) fun hI32=>?_
     obtain ⟨m,hm⟩:=Int.eq_ofNat_of_zero_le c4.1
     obtain ⟨n,hn⟩:=Int.eq_ofNat_of_zero_le c5.1
     rw [hm,hn]
     refine ze6 (by omega) (by omega) ?_
     refine zai ?_
     refine ⟨(hx1_.trans (hx2_.trans (hx3_.trans (hx4_.trans hx5_)))),?_⟩
     have:zcS a b↔m &&& n=0:=by
       have e1:a.held.toNat=m:=by omega
       have e2:b.held.toNat=n:=by omega
       unfold zcS
       rw [e1,e2]
       exact ⟨fun h=>h.2.2.2.2,fun h=>⟨hgl,hwr,c4,c5,h⟩⟩
     congr 1
     rw [decide_eq_decide,this]
     omega
   refine ⟨(hx1_.trans (hx2_.trans (hx3_.trans (hx4_.trans hx5_)))),?_⟩
   have:¬zcS a b:=fun h=>c5 h.2.2.2.1
   simp only [this,decide_false]
 refine ⟨(hx1_.trans (hx2_.trans (hx3_.trans hx4_))),?_⟩
 have:¬zcS a b:=fun h=>c4 h.2.2.1
 simp only [this,decide_false]
def zdH (a b:DTouch):DRace:=⟨a.global,min a.at_ b.at_,max a.at_ b.at_⟩
theorem znv {w W0 W1:World} {v0 v1:Value} {a b:DTouch} (h0:Is W0 v0 a) (e0:Ext W0 w) (h1:Is W1 v1 b) (e1:Ext W1 w) :
   CALL Tryz.prog 109 [v0,v1] w fun r w'=>Ext w w'∧∀ lo hi,OwnI lo hi w' r (zdH a b):=by
 refine F109_call ?_
 unfold F109
 refine zdE h0 e0 fun w1 hx1 hA=>?_
 refine zdE h1 (e1.trans hx1) fun w2 hx2 hB=>?_
 refine zhW (α:=DRace) zrV fun w3 hx3 hv=>?_
 have hs1:=hx1.size
 have hs2:=hx2.size
 have hs3:=hx3.size
 have hx23:=hx2.trans hx3
 refine zaa zjR ?_
 refine zac ty3 (zex hA) hx23 fun hI6=>?_
 refine zaa zfq ?_
 refine zac ty3 (zbU hA) hx23 fun hI8=>?_
 refine zaa zfq ?_
 refine zac ty3 (zbU hB) hx3 fun hI10=>?_
 refine zro ?_
 refine zaa zfq ?_
 refine zac ty3 (zbU hA) hx23 fun _=>?_
 refine zaa zfq ?_
 refine zac ty3 (zbU hB) hx3 fun _=>?_
 refine zrn ?_
 have hm:∀ (w:World) lo hi,OwnI lo hi w (.agg #[.int .i64 a.global,.int .i64 (min a.at_ b.at_),.int .i64 (max a.at_ b.at_)]) (zdH a b):=fun w lo hi=>⟨[],zmN (x:=zdH a b) hI6 (by unfold I64 zdH at *;simp only;omega) (by unfold I64 zdH at *;simp only;omega),by simp⟩
 refine zaz (cells:=#[.int .i64 a.global,.int .i64 (min a.at_ b.at_),.int .i64 (max a.at_ b.at_)]) (by kernel_rfl) ?_
 have hg:=hv.lt
 refine zdr (lo:=w3.heap.size) (hi:=w3.heap.size) zfQ hv (hm w3 _ _) (by omega) fun w4 hc4 hv4=>?_
 have hs4:=hc4.size
 refine zd7 zfQ hv4 (Ext.refl _) fun r hr=>?_
 refine ⟨Ext.chgI (hx1.trans hx23) hc4 (by omega),fun lo hi=>?_⟩
 obtain ⟨F,hM,_⟩:=hr
 obtain ⟨cs,h,_⟩:=hM.own
 have hF:=Flat.flat h
 subst hF
 exact ⟨[],hM,by simp⟩
instance (x y:DRace):Decidable (ltR x y):=by unfold ltR;infer_instance
theorem zdf (x:DRace):¬ltR x x:=by unfold ltR;omega
theorem zfc {x y z:DRace} (h:ltR x y) (k:ltR y z):ltR x z:=by unfold ltR at *;omega
theorem zgO {x y:DRace} (h:¬ltR x y) (k:¬ltR y x):x=y:=by
 unfold ltR at *
 exact DRace.ext_iff.2 ⟨by omega,by omega,by omega⟩
def zol (r:DRace):List DRace→List DRace
 | []=>[r]
 | x :: l=>if ltR x r then x :: zol r l else if x=r then x :: l else r :: x :: l
theorem zin {r x:DRace}:∀ {l:List DRace},x∈zol r l↔x=r∨x∈l
 | []=>by simp [zol]
 | y :: l=>by
   rw [zol]
   split
   · rw [List.mem_cons,zin,List.mem_cons];exact ⟨fun h=>by rcases h with h | h | h<;>simp [h],fun h=>by rcases h with h | h | h<;>simp [h]⟩
   split
   · rename_i h;subst h;simp
   simp
theorem zgP {r:DRace}:∀ {l:List DRace},l.Pairwise ltR→(zol r l).Pairwise ltR
 | [],_=>by simp [zol]
 | y :: l,h=>by
   rw [List.pairwise_cons] at h
   rw [zol]
   split
   · rename_i hy
     refine List.pairwise_cons.2 ⟨fun z hz=>?_,zgP h.2⟩
     rcases zin.1 hz with rfl | hz
     · exact hy
     exact h.1 z hz
   rename_i hy
   split
   · exact List.pairwise_cons.2 h
   rename_i hne
   have hry:ltR r y:=Decidable.byContradiction fun hc=>hne (zgO hy hc)
   refine List.pairwise_cons.2 ⟨fun z hz=>?_,List.pairwise_cons.2 h⟩
   rcases List.mem_cons.1 hz with rfl | hz
   · exact hry
   exact zfc hry (h.1 z hz)
theorem zhs:∀ {l m:List DRace},l.Pairwise ltR→m.Pairwise ltR→(∀ x,x∈l↔x∈m)→l=m
 | [],[],_,_,_=>rfl
 | [],y :: m,_,_,h=>by have:=(h y).2 (by simp);cases this
 | x :: l,[],_,_,h=>by have:=(h x).1 (by simp);cases this
 | x :: l,y :: m,h1,h2,h=>by
   rw [List.pairwise_cons] at h1 h2
   have hxy:x=y:=by
     rcases List.mem_cons.1 ((h x).1 (by simp)) with e | hm
     · exact e
     rcases List.mem_cons.1 ((h y).2 (by simp)) with e | hl
     · exact e.symm
     exact absurd (zfc (h1.1 y hl) (h2.1 x hm)) (zdf x)
   subst hxy
   congr 1
   refine zhs h1.2 h2.2 fun z=>⟨fun hz=>?_,fun hz=>?_⟩
   · rcases List.mem_cons.1 ((h z).1 (by simp [hz])) with rfl | h'
     · exact absurd (h1.1 z hz) (zdf z)
     exact h'
   rcases List.mem_cons.1 ((h z).2 (by simp [hz])) with rfl | h'
   · exact absurd (h2.1 z hz) (zdf z)
   exact h'
end Go.Proofs.YtcnglfeoglgebaaGreat
namespace Go.Proofs.YtcnglfeoglgebaaGreat
open Go Go.Sh Go.Proofs Go.Sort
open Rep (rep)
instance:Inhabited DRace:=⟨⟨0,0,0⟩⟩
def zrb (x:DRace):List Value:=[.int .i64 x.g,.int .i64 x.a,.int .i64 x.b]
theorem zo2:∀ {F:List Nat} {w:World} {cs:List Value} {x:DRace},Rep.rep F w cs x→cs=zrb x:=by
 intro F w cs x h
 obtain ⟨F1,F2,c1,c2,rfl,rfl,⟨rfl,rfl,_⟩,⟨F3,F4,c3,c4,rfl,rfl,⟨rfl,rfl,_⟩,⟨rfl,rfl,_⟩⟩⟩:=h
 rfl
theorem zcK {x y:DRace}:ltOf zo0 x y=decide (ltR x y):=by
 unfold ltOf
 rw [decide_eq_decide]
 exact zqw
theorem zqx:SWO (ltOf zo0):=by
 refine ⟨fun x=>?_,fun x y z h k=>?_,fun x y z h k=>?_⟩
 · rw [zcK,decide_eq_false_iff_not];exact zdf x
 · rw [zcK,decide_eq_true_eq] at *;exact zfc h k
 rw [zcK,decide_eq_false_iff_not] at *
 intro hc
 unfold ltR at *
 omega
def srt (l:List DRace):List DRace:=l.mergeSort fun x y=>!(ltOf zo0) y x
theorem zlo (l:List DRace):(srt l).Perm l:=List.mergeSort_perm l _
theorem znw (l:List DRace):(srt l).length=l.length:=(zlo l).length_eq
theorem zrz (l:List DRace):(srt l).Pairwise fun x y=>¬ltR y x:=by
 have:=List.pairwise_mergeSort (le:=fun x y=>!(ltOf zo0) y x) (fun a b c h1 h2=>by
   simp only [zcK,Bool.not_eq_true',decide_eq_false_iff_not] at *
   unfold ltR at *;omega) (fun a b=>by
   simp only [zcK,Bool.or_eq_true,Bool.not_eq_true',decide_eq_false_iff_not]
   unfold ltR;omega) l
 exact this.imp fun h=>by simpa [zcK] using h
theorem zo3 {w:World} {lo hi:Nat} {v:Value} {l:List DRace} (h:OwnI lo hi w v l) (hn:l.length≤1073741824) :
   CALL Tryz.prog 163 [v,.func (.func 164) #[] #[]] w fun r w'=>ChgI lo hi w w'∧OwnI lo hi w' v (srt l):=by
 obtain ⟨F,hM,hF⟩:=h
 by_cases hne:l=[]
 · subst hne
   obtain ⟨a,cap,hv⟩:∃ a cap,v=.slice a 0 cap:=by
     obtain ⟨cs,⟨a,cap,G,xs,h,_⟩,hv⟩:=hM.own
     exact ⟨a,cap,by rw [hv,h];rfl⟩
   subst hv
   refine ⟨(AnyF.slices_SortFunc_none Tryz.sortRace a cap _ w).mono ?_⟩
   rintro e w' ⟨he,rfl⟩
   refine ⟨_,he,ChgI.refl _,F,?_,hF⟩
   have:srt []=[]:=List.eq_nil_of_length_eq_zero (by rw [znw];rfl)
   rw [this];exact hM
 obtain ⟨b,o,cap,xs,rfl,rfl,h1,h2,hcc,hrr,hww⟩:=zde hM hne
 have henc:=@zo2
 have hk:∀ x,(zrb x).length=Rep.size DRace:=fun _=>rfl
 obtain ⟨c,e,hbe⟩:=hww
 have hb:b<w.heap.size:=(Array.getElem?_eq_some_iff.1 hbe).1
 have hcmp:CmpLays Tryz.prog 164 #[] zrb 3 zo0 b o l.toArray.size w:=fun m os dk _ x y=>by
   have:=zgN (w:=sortWorldK zrb 3 w b o m dk os) (x:=x) (y:=y)
   obtain ⟨h⟩:=this
   refine h.mono ?_
   rintro e w' ⟨v,he,hv,q,os',hw'⟩
   exact ⟨by rw [he,hv],q,os',hw'⟩
 refine ⟨(AnyQ.slices_SortFunc_total Tryz.sortRace 3 Tryz.isAgg58 Tryz.sizeOf58 zrb (fun _=>rfl) (fun x v hv=>by
     simp only [zrb,List.mem_cons,List.not_mem_nil,or_false] at hv
     rcases hv with rfl | rfl | rfl<;>rfl) zo0 zqx 164 #[] b o cap l.toArray w (zdN (ent 164 (by decide) (by kernel_rfl))) hcmp (zjc henc hk ⟨c,e,hbe⟩ hcc hrr) hb (by simp;omega) (fun x y h k=>by
     rw [zcK,decide_eq_false_iff_not] at *;exact zgO h k)).mono ?_⟩
 rintro ex w' ⟨he,n,os,hw'⟩
 have hs:=zkd henc hk (cap:=cap) hw' ⟨c,e,hbe⟩ hcc hrr h1 h2 (by simp) (fun x hx=>by simpa [List.mem_mergeSort] using hx)
 refine ⟨_,he,?_,[b],?_,hF⟩
 · exact hs.1.toI (fun i hi=>hF i hi)
 exact hs.2
def F85 (a0:Value) (w:World) (R:VW):Prop:=
 cL 162 [a0] w fun x5 w=>
 cL 163 [x5,(Value.func (.func 164) #[] #[])] w fun x7 w=>
 cL 166 [x5] w fun x9 w=>
 cL 165 [x9] w fun x10 w=>
 R x10 w
def cfg85:Cfg:=⟨extL,[],[],[],[],[],[]⟩
theorem F85_call {a0:Value} {w:World} {R:VW} (h:F85 a0 w R):cL 85 [a0] w R:=co (g:=cfg85) Tryz.func85 (by kernel_rfl) (by kernel_rfl) (by kernel_rfl) h
theorem zkl {z:DRace}:∀ {l:List DRace} {x:DRace},z∈x :: ddg x l↔z∈x :: l
 | [],x=>Iff.rfl
 | y :: l,x=>by
   rw [ddg]
   split
   · rename_i h
     subst h
     rw [zkl (l:=l)]
     simp
   rw [List.mem_cons,zkl (l:=l),List.mem_cons (a:=z) (b:=x)]
theorem znx:∀ {l:List DRace} {x:DRace},(x :: l).Pairwise (fun a b=>¬ltR b a)→(x :: ddg x l).Pairwise ltR
 | [],x,_=>by simp [ddg]
 | y :: l,x,h=>by
   rw [ddg]
   rw [List.pairwise_cons] at h
   have hy:=h.2
   rw [List.pairwise_cons] at hy
   split
   · rename_i e
     subst e
     exact znx h.2
   rename_i hne
   have ih:=znx h.2
   have hxy:ltR x y:=Decidable.byContradiction fun hc=>hne (zgO (h.1 y (by simp)) hc)
   refine List.pairwise_cons.2 ⟨fun z hz=>?_,ih⟩
   rcases List.mem_cons.1 hz with rfl | hz
   · exact hxy
   exact zfc hxy ((List.pairwise_cons.1 ih).1 z hz)
theorem zqy {l:List DRace} {z:DRace}:z∈ddp l↔z∈l:=by
 cases l with
 | nil=>exact Iff.rfl
 | cons x l=>exact zkl
theorem zrA {l:List DRace} (h:l.Pairwise (fun a b=>¬ltR b a)):(ddp l).Pairwise ltR:=by
 cases l with
 | nil=>exact List.Pairwise.nil
 | cons x l=>exact znx h
def zjg (l:List DRace):List DRace:=l.foldl (fun acc r=>zol r acc) []
theorem zht {x:DRace}:∀ {l acc:List DRace},x∈l.foldl (fun acc r=>zol r acc) acc↔x∈acc∨x∈l
 | [],acc=>by simp
 | y :: l,acc=>by
   rw [List.foldl_cons,zht,zin,List.mem_cons]
   constructor
   · rintro ((h | h) | h)<;>simp [h]
   rintro (h | h | h)<;>simp [h]
theorem zjh {x:DRace} {l:List DRace}:x∈zjg l↔x∈l:=by unfold zjg;rw [zht];simp
theorem zji:∀ {l acc:List DRace},acc.Pairwise ltR→(l.foldl (fun acc r=>zol r acc) acc).Pairwise ltR
 | [],acc,h=>h
 | y :: l,acc,h=>by
   rw [List.foldl_cons]
   exact zji (zgP h)
theorem zlp (l:List DRace):(zjg l).Pairwise ltR:=zji List.Pairwise.nil
theorem zqz (l:List DRace):ddp (srt l)=zjg l:=zhs (zrA (zrz l)) (zlp l) fun x=>by rw [zqy,zjh,(zlo l).mem_iff]
def clR (a b:DTouch):List DRace:=if zcS a b then [zdH a b] else []
def gB (a:DTouch) (bs:List DTouch):List DRace:=bs.flatMap (clR a)
def gL (Ls:List (List DTouch)) (a:DTouch):List DRace:=Ls.flatMap (gB a)
def gA (Ls:List (List DTouch)) (xs:List DTouch):List DRace:=xs.flatMap (gL Ls)
def zsu (T:Nat→List DTouch) (t:Nat):List (List DTouch):=(List.range t).map T
def gT (T:Nat→List DTouch) (n:Nat):List DRace:=(List.range n).flatMap fun t=>gA (zsu T t) (T t)
def hA (bs xs:List DTouch):List DRace:=xs.flatMap fun a=>gB a bs
def hU (T:Nat→List DTouch) (xs:List DTouch) (t:Nat):List DRace:=(List.range t).flatMap fun u=>hA (T u) xs
def hT (T:Nat→List DTouch) (n:Nat):List DRace:=(List.range n).flatMap fun t=>hU T (T t) t
theorem zdY {α β:Type} {f:α→List β} {l:List α} {k:Nat} (h:k<l.length):(l.take (k+1)).flatMap f=(l.take k).flatMap f++f l[k]:=by
 rw [List.take_succ_eq_append_getElem h,List.flatMap_append];simp
def tA (c:DCode) (s:DState) (t:Nat):List DTouch:=if 0≤zrl s t then zci c (zrl s t) 0 else []
theorem zhu {c:DCode} {a held:Int} {i:DIns} {x:DTouch}:∀ {k:Nat},x∈zbk c a held i k→x.at_=a∧x.held=held
 | 0,h=>by simp [zbk] at h
 | k+1,h=>by
   rw [zbk,List.mem_append,List.mem_append] at h
   rcases h with (h | h) | h
   · exact zhu h
   · split at h
     · simp only [List.mem_cons,List.not_mem_nil,or_false] at h;subst h;exact ⟨rfl,rfl⟩
     simp at h
   split at h
   · simp only [List.mem_cons,List.not_mem_nil,or_false] at h;subst h;exact ⟨rfl,rfl⟩
   simp at h
theorem zcA {c:DCode} {a held:Int} {x:DTouch} (h:x∈zci c a held):x.at_=a∧x.held=held:=by
 unfold zci at h
 split at h
 · exact zhu h
 simp at h
def zrZ (c:DCode) (s:DState):List DRace:=zjg (gT (tA c s) s.stacks.length)
def F113 (a0 a1 a2 a3:Value) (w:World) (R:VW):Prop:=
 cL 48 [a1] w fun x15 w=>
 rN 33 3 x15 w fun x16=>
 LOOPI [9,17] [(Value.slice none 0 0),(iV 0)] w fun u3 w next3=>
 rC (u3 17) x16 w fun x18=>
 BR x18
 (rX 33 x15 (u3 17) w fun x19=>
 rL 3 x19 w fun x20=>
 cL 183 [a0,x20] w fun x23 w=>
 rN 33 3 x23 w fun x24=>
 LOOPI [9,25] [(u3 9),(iV 0)] w fun u6 w next6=>
 rC (u6 25) x24 w fun x26=>
 BR x26
 (rX 33 x23 (u6 25) w fun x27=>
 rL 3 x27 w fun x28=>
 NIL a0 <|
 rF 92 a0 0 w fun x31=>
 rF 36 x31 4 w fun x32=>
 rL 34 x32 w fun x33=>
 rX 34 x33 x28 w fun x35=>
 rF 84 x35 0 w fun x36=>
 rL 3 x36 w fun x37=>
 rB .eql 3 T0 T0 x37 a2 w fun x39=>
 BR x39
 (NIL a0 <|
 rF 92 a0 0 w fun x43=>
 rF 36 x43 4 w fun x44=>
 rL 34 x44 w fun x45=>
 rX 34 x45 x28 w fun x47=>
 rF 84 x47 1 w fun x48=>
 rL 3 x48 w fun x49=>
 rB .eql 3 T0 T0 x49 a3 w fun x51=>
 BR x51
 (oP (Instr.buildSlice 33 1 #[(0,x28)]) w fun x55 w=>
 oP (Builtin.append_ #[33,33] 33 [(u6 9),x55].toArray) w fun x56 w=>
 rA (u6 25) (iV 1) w fun x57=>
 next6 [x56,x57] w)
 (rA (u6 25) (iV 1) w fun x57=>
 next6 [(u6 9),x57] w))
 (rA (u6 25) (iV 1) w fun x57=>
 next6 [(u6 9),x57] w))
 (rA (u3 17) (iV 1) w fun x58=>
 next3 [(u6 9),x58] w))
 (R (u3 9) w)
def cfg113:Cfg:=⟨extL,[],[(3,576460752303303168,[9,17]),(6,288230376118166016,[9,25])],[],[],[],[]⟩
theorem F113_call {a0 a1 a2 a3:Value} {w:World} {R:VW} (h:F113 a0 a1 a2 a3 w R):cL 113 [a0,a1,a2,a3] w R:=co (g:=cfg113) Tryz.func113 (by kernel_rfl) (by kernel_rfl) (by kernel_rfl) h
open Rep (rep)
def StP (c:DCode) (r p i:Nat):Prop:=zay c p i∧(zah c i).op=5∧agN c i=r
noncomputable def zcL (c:DCode) (r:Nat):List Nat:=(zbh c.procs.length (UsedP c)).flatMap fun p=>zbh c.ins.length (StP c r p)
theorem zkm {n:Nat} {p q:Nat→Prop} {f:Nat→Bool} (h:∀ i,i<n→(f i=true↔q i)):(zbh n p).filter f=zbh n fun i=>p i∧q i:=by
 induction n with
 | zero=>rfl
 | succ n ih=>
   have ih:=ih fun i hi=>h i (by omega)
   by_cases hp:p n
   · rw [zfY hp,List.filter_append,ih]
     by_cases hq:q n
     · rw [zfY ⟨hp,hq⟩];simp [(h n (by omega)).2 hq]
     rw [zfv fun e=>hq e.2]
     have:f n=false:=by
       cases e:f n
       · rfl
       exact absurd ((h n (by omega)).1 e) hq
     simp [this]
   rw [zfv hp,zfv fun e=>hp e.1,ih]
theorem zfd {α β:Type} {f:α→List β} {B:Nat}:∀ {l:List α},(∀ a∈l,(f a).length≤B)→(l.flatMap f).length≤l.length*B
 | [],_=>by simp
 | a :: l,h=>by
   have h1:=h a (by simp)
   have h2:=zfd (l:=l) fun b hb=>h b (by simp [hb])
   simp only [List.flatMap_cons,List.length_append,List.length_cons,Nat.add_mul]
   omega
theorem zl2 {c:DCode} (hc:CodeR c) {r i:Nat} (h:i∈zcL c r):i<c.ins.length:=by
 unfold zcL at h
 obtain ⟨p,_,h⟩:=List.mem_flatMap.1 h
 exact (zaI.1 h).1
theorem zhv {w W0:World} {b r:Nat} {c:DCode} (hW:WAt W0 b c) (e0:Ext W0 w) (hc:CodeR c) :
   CALL Tryz.prog 113 [.pointer (some ⟨b,0,none⟩),.int .i64 (zch c:Nat),.int .i64 5,.int .i64 (r:Int)] w fun v w'=>Ext w w'∧Own w.heap.size w' v (zaZ (zcL c r)):=by
 refine F113_call ?_
 unfold F113
 have h8:=hc.1.procs8
 have hil:=hc.f.ins
 have hu256:zch c<256:=zaB h8.1
 refine (zcc (m:=zch c) (by omega)).mono ?_
 rintro v15 w1 ⟨hx1,ho1⟩
 unfold zch at ho1
 rw [zbZ (by omega)] at ho1
 have hup:∀ p∈zbh c.procs.length (UsedP c),p<c.procs.length:=fun p hp=>(zaI.1 hp).1
 have hul:=zbb (n:=c.procs.length) (p:=UsedP c)
 unfold zcL
 generalize zbh c.procs.length (UsedP c)=U at *
 refine zaf u33 ho1.is ?_
 rw [zae]
 have hfl:∀ k,((U.take k).flatMap fun p=>zbh c.ins.length (StP c r p)).length≤20000:=fun k=>by
   have:=zfd (l:=U.take k) (f:=fun p=>zbh c.ins.length (StP c r p)) (B:=1500) fun a _=>Nat.le_trans zbb hil
   have h2:=List.length_take_le' k U
   have:(U.take k).length*1500≤8*1500:=Nat.mul_le_mul_right _ (by omega)
   omega
 refine zaE U.length (fun k us w'=>∃ out,us=[out,.int .i64 (k:Int)]∧k≤U.length∧Ext w1 w'∧RowI w1.heap.size w'.heap.size 3 w' out (zaZ ((U.take k).flatMap fun p=>zbh c.ins.length (StP c r p)))) 0 (Nat.zero_le _) ⟨_,rfl,Nat.zero_le _,Ext.refl _,zb2 _ _ _ _⟩ ?_
 rintro k mk u w2 hkm ⟨out,hu,hkl,hx2,hr2⟩
 obtain ⟨hu1,hu2⟩:=zey hu
 rw [hu1,hu2]
 refine zal ?_
 refine br (fun hlt=>?_) (fun hge=>?_)
 case refine_2=>
   have hke:k=U.length:=by omega
   rw [hke,List.take_length] at hr2
   exact ⟨hx1.trans hx2,hr2.own.own.mono (by have:=hx1.size;omega)⟩
 have hk:k<U.length:=by omega
 have hp:=hup U[k] (List.getElem_mem _)
 have hfs:=zdY (f:=fun p=>zbh c.ins.length (StP c r p)) hk
 refine zad u33 ty3 (i:=k) ho1.is (by rw [zae];exact hk) fun b3 o3 hA3=>?_
 rw [zaR] at hA3
 generalize U[k]=p at *
 refine zac ty3 hA3 hx2 fun _=>?_
 refine (zdW hW.wl (e0.trans (hx1.trans hx2)) hc hp).mono ?_
 rintro v23 w3 ⟨hx3,ho3⟩
 have hLin:∀ i∈zbh c.ins.length (zay c p),i<c.ins.length:=fun i hi=>(zaI.1 hi).1
 have hLf:(zbh c.ins.length (zay c p)).filter (fun i=>decide ((zah c i).op=5∧agN c i=r))=zbh c.ins.length (StP c r p):=zkm fun i hi=>by rw [decide_eq_true_eq]
 have hLl:=zbb (n:=c.ins.length) (p:=zay c p)
 rw [←hLf] at hfs
 have hfk:=hfl k
 generalize zbh c.ins.length (zay c p)=L at *
 generalize (U.take k).flatMap (fun p=>zbh c.ins.length (StP c r p))=Op at *
 refine zaf u33 ho3.is ?_
 rw [zae]
 have hs3:=hx3.size
 have hs2:=hx2.size
 obtain ⟨F3,hM3,hF3⟩:=ho3
 refine zaE L.length (fun j us w'=>∃ out lo hi,us=[out,.int .i64 (j:Int)]∧j≤L.length∧Ext w1 w'∧Mine F3 w' v23 (zaZ L)∧w1.heap.size≤lo∧hi≤w'.heap.size∧RowI lo hi 3 w' out (zaZ (Op++(L.take j).filter (fun i=>decide ((zah c i).op=5∧agN c i=r))))∧∀ b∈F3,b<lo∨hi≤b) 0 (Nat.zero_le _) ⟨out,w1.heap.size,w2.heap.size,rfl,Nat.zero_le _,hx2.trans hx3,hM3,Nat.le_refl _,hs3,by simpa using hr2.ext hx3,fun b hb=>.inr (hF3 b hb)⟩ ?_
 rintro j mj u6 w6 hjm ⟨out6,lo,hi,hu6,hjl,hx6,hM6,hlo,hhi,hr6,hd⟩
 obtain ⟨hu61,hu62⟩:=zey hu6
 rw [hu61,hu62]
 refine zal ?_
 refine br (fun hlt6=>?_) (fun hge6=>?_)
 case refine_2=>
   refine zag (by omega) ?_
   refine ⟨mk-1,by omega,k+1,by omega,out6,rfl,by omega,hx6,?_⟩
   rw [List.take_of_length_le (by omega)] at hr6
   rw [hfs]
   exact hr6.mono hlo hhi
 have hj:j<L.length:=by omega
 have hi':=hLin L[j] (List.getElem_mem _)
 have htk:L.take (j+1)=L.take j++[L[j]]:=List.take_succ_eq_append_getElem hj
 refine zad u33 ty3 (i:=j) hM6.is (by rw [zae];exact hj) fun b4 o4 hA4=>?_
 rw [zaR] at hA4
 have hlen:(Op++(L.take j).filter (fun i=>decide ((zah c i).op=5∧agN c i=r))).length≤100000:=by
   have:=List.length_filter_le (fun i=>decide ((zah c i).op=5∧agN c i=r)) (L.take j)
   have h2:=List.length_take_le' j L
   rw [List.length_append];omega
 generalize L[j]=i at *
 refine zac ty3 hA4 (Ext.refl _) fun _=>?_
 have ex6:=e0.trans (hx1.trans hx6)
 have hno:¬((zah c i).op=5∧agN c i=r)→(L.take (j+1)).filter (fun i=>decide ((zah c i).op=5∧agN c i=r))=(L.take j).filter (fun i=>decide ((zah c i).op=5∧agN c i=r)):=fun h=>by
   rw [htk,List.filter_append];simp [h]
 have hyes:((zah c i).op=5∧agN c i=r)→(L.take (j+1)).filter (fun i=>decide ((zah c i).op=5∧agN c i=r))=(L.take j).filter (fun i=>decide ((zah c i).op=5∧agN c i=r))++[i]:=fun h=>by
   rw [htk,List.filter_append];simp [h]
 refine NIL.mk rfl ?_
 refine zaa zaU ?_
 refine zaa zaK ?_
 refine zab zdG (zat hW.wl.code) ex6 fun v33 h33=>?_
 refine zad u34 zem (i:=i) h33 hi' fun b5 o5 hA5=>?_
 rw [zaY] at hA5
 refine zaa zbK ?_
 refine zac ty3 (zaG hA5) ex6 fun _=>?_
 refine zai ?_
 refine br (fun h5=>?_) (fun h5=>?_)
 case refine_2=>
   refine zag (by omega) ?_
   exact ⟨mj-1,by omega,j+1,by omega,out6,lo,hi,rfl,by omega,hx6,hM6,hlo,hhi,by rw [hno fun h=>h5 h.1];exact hr6,hd⟩
 obtain ⟨hag,_⟩:=zbv hc hi' (.inr h5)
 refine NIL.mk rfl ?_
 refine zaa zaU ?_
 refine zaa zaK ?_
 refine zab zdG (zat hW.wl.code) ex6 fun v45 h45=>?_
 refine zad u34 zem (i:=i) h45 hi' fun b7 o7 hA7=>?_
 rw [zaY] at hA7
 refine zaa zcl ?_
 refine zac ty3 (zaQ hA7) ex6 fun _=>?_
 refine zai ?_
 refine br (fun ha=>?_) (fun ha=>?_)
 case refine_2=>
   refine zag (by omega) ?_
   exact ⟨mj-1,by omega,j+1,by omega,out6,lo,hi,rfl,by omega,hx6,hM6,hlo,hhi,by rw [hno fun h=>ha (by rw [hag,h.2])];exact hr6,hd⟩
 refine zgC (x:=(i:Int)) u33 ty3 z3 zc3 (by decide) hr6 (lo2:=0) (hi2:=0) (ze5 _ _ (by unfold I64;omega)) (by rw [zak,zae];omega) (by rw [zae];omega) fun v' w' lo' hi2 hc7 hr' hd7=>?_
 have hs7:=hc7.size
 have hs6:=hx6.size
 refine zag (by omega) ?_
 refine ⟨mj-1,by omega,j+1,by omega,v',lo',hi2,rfl,by omega,hx6.chgI hc7 hlo,hM6.keep fun b hb=>hc7.block b (hM6.lt b hb) (hd b hb),by omega,by omega,?_,fun b hb=>?_⟩
 · rw [hyes ⟨h5,by omega⟩,←List.append_assoc,zcI]
   exact hr'
 have:=hd b hb
 have:=hM6.lt b hb
 omega
def F115 (a0 a1:Value) (w:World) (R:VW):Prop:=
 NIL a0 <|
 rF 92 a0 0 w fun x8=>
 rF 36 x8 4 w fun x9=>
 rL 34 x9 w fun x10=>
 rN 34 3 x10 w fun x11=>
 oP (Instr.makeSlice 90 x11 x11) w fun x12 w=>
 cL 102 [a0,x12,a1] w fun x16 w=>
 R x12 w
def cfg115:Cfg:=⟨extL,[],[],[],[],[],[]⟩
theorem F115_call {a0 a1:Value} {w:World} {R:VW} (h:F115 a0 a1 w R):cL 115 [a0,a1] w R:=co (g:=cfg115) Tryz.func115 (by kernel_rfl) (by kernel_rfl) (by kernel_rfl) h
def F111 (a0 a1:Value) (w:World) (R:VW):Prop:=
 rB .geq 3 T0 U0 a1 (iV 0) w fun x6=>
 BR x6
 (NIL a0 <|
 rF 92 a0 0 w fun x11=>
 rF 36 x11 2 w fun x12=>
 rL 24 x12 w fun x13=>
 rN 24 3 x13 w fun x14=>
 rC a1 x14 w fun x15=>
 R x15 w)
 (R (Value.bool false) w)
def cfg111:Cfg:=⟨extL,[],[],[],[],[],[]⟩
theorem F111_call {a0 a1:Value} {w:World} {R:VW} (h:F111 a0 a1 w R):cL 111 [a0,a1] w R:=co (g:=cfg111) Tryz.func111 (by kernel_rfl) (by kernel_rfl) (by kernel_rfl) h
def F49 (a0 a1:Value) (w:World) (R:VW):Prop:=
 cL 111 [a0,a1] w fun x9 w=>
 rD (Op.unary .not x9) w fun x10=>
 BR x10
 (R (Value.bool false) w)
 (NIL a0 <|
 rF 92 a0 5 w fun x14=>
 rL 3 x14 w fun x15=>
 cL 110 [x15,a1] w fun x17 w=>
 rD (Op.unary .not x17) w fun x18=>
 BR x18
 (R (Value.bool false) w)
 (cL 112 [a0] w fun x21 w=>
 NIL a0 <|
 rF 92 a0 6 w fun x25=>
 rL 3 x25 w fun x26=>
 cL 113 [a0,x26,(iV 5),a1] w fun x28 w=>
 rB .eql 3 T0 T0 a1 x21 w fun x31=>
 BR x31
 (rN 33 3 x28 w fun x33=>
 rB .eql 3 T0 U0 x33 (iV 0) w fun x34=>
 R x34 w)
 ((fun w=>rN 33 3 x28 w fun x36=>
 rB .neq 3 T0 U0 x36 (iV 1) w fun x37=>
 BR x37
 (R (Value.bool false) w)
 (NIL a0 <|
 rF 92 a0 0 w fun x41=>
 rL 36 x41 w fun x42=>
 rX 33 x28 (iV 0) w fun x44=>
 rL 3 x44 w fun x45=>
 (fun w_=>cL 114 [x42,x45] w_ fun x46 w=>
 Ext w_ w ∧
 rB .neq 3 T0 T0 x46 x21 w fun x48=>
 BR x48
 (R (Value.bool false) w)
 (rX 33 x28 (iV 0) w fun x53=>
 rL 3 x53 w fun x54=>
 rX 33 x28 (iV 0) w fun x57=>
 rL 3 x57 w fun x58=>
 (fun w_=>cL 115 [a0,x54] w_ fun x55 w=>
 Ext w_ w ∧
 rX 90 x55 x58 w fun x59=>
 rL 4 x59 w fun x60=>
 BR x60
 (R (Value.bool false) w)
 ((fun w=>cL 49 [a0,x21] w fun x64 w=>
 BR x64
 (NIL a0 <|
 rF 92 a0 2 w fun x68=>
 rL 33 x68 w fun x69=>
 NIL a0 <|
 rF 92 a0 6 w fun x72=>
 rL 3 x72 w fun x73=>
 (fun w_=>cL 116 [x69,x73] w_ fun x74 w=>
 Ext w_ w ∧
 cL 110 [x74,x21] w fun x76 w=>
 rD (Op.unary .not x76) w fun x77=>
 R x77 w) w)
 (R (Value.bool false) w)) (World.drew1 w))) w)) w)) (World.drew1 w))))
def cfg49:Cfg:=⟨extL,[],[],[(7,[0,1,2,3,4,5,6,7,8,9,10,12,11,13,14,15,16,17,18,19,21,22,23,20,24,25,26],1050624),(9,[0,1,2,3,4,5,6,7,8,9,10,11,13,12,14,15,16,17],4096)],[],[],[]⟩
theorem F49_call {a0 a1:Value} {w:World} {R:VW} (h:F49 a0 a1 w R):cL 49 [a0,a1] w R:=co (g:=cfg49) Tryz.func49 (by kernel_rfl) (by kernel_rfl) (by kernel_rfl) h
open Rep (rep)
theorem zpP {W0 w:World} {b:Nat} {c:DCode} (h:At W0 b 0 c) (hx:Ext W0 w):KAt W0 w b c:=by
 obtain ⟨F,cs,hr,hc⟩:=h
 have hl:=Rep.len hr
 have hp:0<cs.length:=by rw [hl];exact Rep.pos
 have hc':=za8 hc hx
 refine ⟨F,cs,hr,hc',Decidable.byContradiction fun hn=>?_⟩
 have:=hc' 0 cs[0] (List.getElem?_eq_getElem hp)
 simp only [World.cell?] at this
 rw [Array.getElem?_eq_none (by omega)] at this
 cases this
theorem zo4 {w W0:World} {b a:Nat} {c:DCode} (hW:WAt W0 b c) (e0:Ext W0 w) (hc:CodeR c) (ha:a<c.ins.length) :
   CALL Tryz.prog 115 [.pointer (some ⟨b,0,none⟩),.int .i64 (a:Int)] w fun v w'=>Ext w w'∧Own w.heap.size w' v (ze3 c.ins.length (RP (zax c) a)):=by
 refine F115_call ?_
 unfold F115
 have hil:=hc.f.ins
 refine NIL.mk rfl ?_
 refine zaa zaU ?_
 refine zaa zaK ?_
 refine zab zdG (zat hW.wl.code) e0 fun v10 h10=>?_
 refine zaf u34 h10 ?_
 have hk0:=zpP hW.wl.code e0
 have hbl:=hk0.lt
 refine zh6 (by omega) (by omega) fun w1 hx1 hM1=>?_
 have hs1:=hx1.size
 have e0s:=e0.size
 refine (zi1 (zpP hW.wl.code (e0.trans hx1)) (e0.trans hx1) hc rfl ha hM1 (by simp) (by omega) (by omega) fun i hi=>absurd hi zcq).mono ?_
 rintro _ w2 ⟨rfl,hc2,hM2⟩
 refine ⟨hx1.chgI hc2 (Nat.le_refl _),[w.heap.size],?_,fun b hb=>by simp at hb;omega⟩
 have:(ze3 c.ins.length fun i=>mkd (List.replicate c.ins.length false) i∨RP (zax c) a i)=ze3 c.ins.length (RP (zax c) a):=zhp fun i _=>⟨fun h=>h.resolve_left zcq,.inr⟩
 rw [←this];exact hM2
theorem zjj {w W0:World} {b r:Nat} {c:DCode} (hW:WAt W0 b c) (e0:Ext W0 w) (hr:r<c.procs.length) :
   CALL Tryz.prog 111 [.pointer (some ⟨b,0,none⟩),.int .i64 (r:Int)] w fun v w'=>Ext w w'∧v=.bool true:=by
 refine F111_call ?_
 unfold F111
 refine zdD ?_
 refine br (fun _=>?_) (fun h=>by omega)
 refine NIL.mk rfl ?_
 refine zaa zaU ?_
 refine zaa zc5 ?_
 refine zab zdQ (zbe hW.wl.code) e0 fun v10 h10=>?_
 refine zaf u24 h10 ?_
 refine zal ?_
 exact ⟨Ext.refl _,by simp;omega⟩
def zo5 (c:DCode) (r a:Nat):Prop:=zcL c r=[a]∧zap c a=(zcd c:Int)∧¬RP (zax c) a a∧zcL c (zcd c)=[]∧¬ ∃ p,UsedP c p∧zk6 c p 4 (zcd c)
def zeI (c:DCode) (r:Nat):Prop:=(r=zcd c∧zcL c r=[])∨(r≠zcd c∧∃ a,zo5 c r a)
noncomputable instance (c:DCode) (r:Nat):Decidable (zeI c r):=Classical.propDecidable _
theorem zgQ {c:DCode}:zeI c (zcd c)↔zcL c (zcd c)=[]:=
 ⟨fun h=>h.elim (·.2) fun h=>absurd rfl h.1,fun h=>.inl ⟨rfl,h⟩⟩
theorem zlq {c:DCode} {r:Nat} (hr:r≠zcd c):zeI c r↔∃ a,zo5 c r a:=
 ⟨fun h=>h.elim (fun h=>absurd h.1 hr) (·.2),fun h=>.inr ⟨hr,h⟩⟩
theorem zny {l:List Nat}:((l.length:Int)=0)↔l=[]:=by
 rw [←List.length_eq_zero_iff];omega
theorem zjk {c:DCode} {p:Nat}:(zch c).testBit p=true↔p<c.procs.length∧UsedP c p:=zbq
theorem zhw {c:DCode} {p:Nat}:(zbs c).testBit p=true↔p<c.procs.length∧RootP c p:=zbq
theorem zqA {c:DCode} (hc:CodeR c) {p:Nat} (h:UsedP c p):p<c.procs.length:=by
 obtain ⟨r,hr,hf⟩:=h
 exact hf.lt (hr.lt hc)
theorem zl3 {c:DCode} (hc:CodeR c) {q:Nat} (hq:q<c.procs.length):(orL (cls c 4) (zbo (zch c))).testBit q=true↔∃ p,UsedP c p∧zk6 c p 4 q:=by
 have h8:=hc.1.procs8
 rw [zfb (m:=zch c) (n:=c.procs.length) zgz (by omega)]
 constructor
 · rintro ⟨i,h1,h2,h3⟩
   exact ⟨i,(zjk.1 h2).2,((zfB h1).1 h3).2⟩
 rintro ⟨i,h1,h2⟩
 have hi:=zqA hc h1
 exact ⟨i,hi,zjk.2 ⟨hi,h1⟩,(zfB hi).2 ⟨hq,h2⟩⟩
theorem zhx {w W0:World} {b:Nat} {c:DCode} (hW:WAt W0 b c) (e0:Ext W0 w) (hc:CodeR c) :
   CALL Tryz.prog 49 [.pointer (some ⟨b,0,none⟩),.int .i64 (zcd c:Nat)] w fun v w'=>Ext w w'∧v=.bool (decide (zeI c (zcd c))):=by
 refine F49_call ?_
 unfold F49
 have h8:=hc.1.procs8
 have hml:=(zeg hc).2
 have hr256:zbs c<256:=zaB h8.1
 refine (zjj hW e0 hml).mono ?_
 rintro _ w1 ⟨hx1,rfl⟩
 refine zaO ?_
 refine zbQ (fun h=>by cases h) (fun _=>?_)
 refine NIL.mk rfl ?_
 refine zaa zgj ?_
 refine zac ty3 hW.roots (e0.trans hx1) fun _=>?_
 refine (zdd (m:=zbs c) (i:=zcd c) (by omega) (by omega)).mono ?_
 rintro _ w2 ⟨hx2,rfl⟩
 rw [zhw.2 ⟨hml,.main⟩]
 refine zaO ?_
 refine zbQ (fun h=>by cases h) (fun _=>?_)
 have hx12:=hx1.trans hx2
 refine (zeG (hW.wl.code.ext (e0.trans hx12)) hc).mono ?_
 rintro _ w3 ⟨hx3,rfl⟩
 have hx13:=hx12.trans hx3
 refine NIL.mk rfl ?_
 refine zaa zgk ?_
 refine zac ty3 hW.used (e0.trans hx13) fun _=>?_
 refine (zhv (r:=zcd c) hW (e0.trans hx13) hc).mono ?_
 rintro v28 w4 ⟨hx4,ho4⟩
 refine zai ?_
 refine br (fun _=>?_) (fun h=>absurd rfl h)
 refine zaf u33 ho4.is ?_
 refine zai ?_
 rw [zae]
 exact ⟨hx13.trans hx4,by congr 1;rw [decide_eq_decide,zgQ,zny]⟩
theorem znz {w W0:World} {b r:Nat} {c:DCode} (hW:WAt W0 b c) (e0:Ext W0 w) (hc:CodeR c) (hr:RootP c r) :
   CALL Tryz.prog 49 [.pointer (some ⟨b,0,none⟩),.int .i64 (r:Int)] w fun v w'=>Ext w w'∧v=.bool (decide (zeI c r)):=by
 by_cases hm:r=zcd c
 · subst hm;exact zhx hW e0 hc
 refine F49_call ?_
 unfold F49
 have h8:=hc.1.procs8
 have hml:=(zeg hc).2
 have hrl:=hr.lt hc
 have hr256:zbs c<256:=zaB h8.1
 have hu256:zch c<2^c.procs.length:=zgz
 refine (zjj hW e0 hrl).mono ?_
 rintro _ w1 ⟨hx1,rfl⟩
 refine zaO ?_
 refine zbQ (fun h=>by cases h) (fun _=>?_)
 refine NIL.mk rfl ?_
 refine zaa zgj ?_
 refine zac ty3 hW.roots (e0.trans hx1) fun _=>?_
 refine (zdd (m:=zbs c) (i:=r) (by omega) (by omega)).mono ?_
 rintro _ w2 ⟨hx2,rfl⟩
 rw [zhw.2 ⟨hrl,hr⟩]
 refine zaO ?_
 refine zbQ (fun h=>by cases h) (fun _=>?_)
 have hx12:=hx1.trans hx2
 refine (zeG (hW.wl.code.ext (e0.trans hx12)) hc).mono ?_
 rintro _ w3 ⟨hx3,rfl⟩
 have hx13:=hx12.trans hx3
 refine NIL.mk rfl ?_
 refine zaa zgk ?_
 refine zac ty3 hW.used (e0.trans hx13) fun _=>?_
 refine (zhv (r:=r) hW (e0.trans hx13) hc).mono ?_
 rintro v28 w4' ⟨hx4,ho4⟩
 refine zai ?_
 refine br (fun h=>absurd (by omega) hm) (fun _=>?_)
 have hxd:=zao w4'
 have hx14:=hx13.trans (hx4.trans hxd)
 have hS4:=ho4.is.ext hxd
 generalize World.drew1 w4'=w4 at *
 have hsm:=fun a (ha:a∈zcL c r)=>zl2 hc ha
 have hnot:(¬ ∃ a,zo5 c r a)→Value.bool false=.bool (decide (zeI c r)):=fun h=>by rw [decide_eq_false fun h2=>h ((zlq hm).1 h2)]
 refine zaf u33 hS4 ?_
 refine zaT ?_
 rw [zae]
 refine br (fun hne=>?_) (fun heq=>?_)
 · exact ⟨hx14,hnot fun ⟨a,h⟩=>hne (by rw [h.1];rfl)⟩
 have hl1:(zcL c r).length=1:=by have:=Decidable.not_not.1 heq;omega
 obtain ⟨a,ha⟩:∃ a,zcL c r=[a]:=List.length_eq_one_iff.1 hl1
 have hal:a<c.ins.length:=hsm a (by rw [ha];simp)
 rw [ha] at hS4
 have hget:∀ {w:World} {K:Value→Prop},Ext w4 w→(K (.int .i64 (a:Int)))→RD Tryz.prog (Instr.indexAt 33 v28 (.int .i64 0)) w fun x=>RD Tryz.prog (Instr.loadAt 3 x) w K:=fun hx kk=>by
   refine zad u33 ty3 (i:=0) hS4 (by simp [zaZ]) fun b3 o3 hA3=>?_
   rw [show (zaZ [a])[0]'(by simp [zaZ])=(a:Int) from rfl] at hA3
   exact zac ty3 hA3 hx fun _=>kk
 have hone:∀ a',zo5 c r a'→a'=a:=fun a' h=>by have:=h.1;rw [ha] at this;simpa using this.symm
 refine NIL.mk rfl ?_
 refine zaa zaU ?_
 refine zab zfm hW.wl.code (e0.trans hx14) fun v42 h42=>?_
 refine hget (Ext.refl _) ?_
 refine (ziV (a:=(a:Int)) h42 (e0.trans hx14) hc (by omega) (by omega)).mono ?_
 rintro _ w5 ⟨hx5,rfl⟩
 refine ⟨hx5,?_⟩
 have hx15:=hx14.trans hx5
 refine zaT ?_
 refine br (fun hne=>?_) (fun heq2=>?_)
 · exact ⟨hx15,hnot fun ⟨a',h⟩=>hne (by have:=hone a' h;subst this;exact h.2.1)⟩
 refine hget hx5 ?_
 refine hget hx5 ?_
 refine (zo4 (a:=a) hW (e0.trans hx15) hc hal).mono ?_
 rintro v55 w6 ⟨hx6,ho6⟩
 refine ⟨hx6,?_⟩
 have hx16:=hx15.trans hx6
 have hmk:=zdw (n:=c.ins.length) (p:=RP (zax c) a) (i:=a)
 rw [zcg (by rw [zbp];exact hal)] at hmk
 refine zad u90 ty4 (i:=a) ho6.is (by rw [zbp];exact hal) fun b8 o8 hA8=>?_
 refine zb1 ty4 hA8 (Ext.refl _) ?_
 refine zbQ (fun hrp=>?_) (fun hrp=>?_)
 · exact ⟨hx16,hnot fun ⟨a',h⟩=>by have:=hone a' h;subst this;exact h.2.2.1 (hmk.1 hrp).2⟩
 have hnr:¬RP (zax c) a a:=fun h=>by rw [hmk.2 ⟨hal,h⟩] at hrp;cases hrp
 have hxd6:=zao w6
 have hx17:=hx16.trans hxd6
 generalize World.drew1 w6=w7 at *
 refine (zhx hW (e0.trans hx17) hc).mono ?_
 rintro _ w8 ⟨hx8,rfl⟩
 have hx18:=hx17.trans hx8
 refine br (fun hsm=>?_) (fun hsm=>?_)
 case refine_2=>exact ⟨hx18,hnot fun ⟨a',h⟩=>hsm (zgQ.2 h.2.2.2.1)⟩
 refine NIL.mk rfl ?_
 refine zaa zkT ?_
 refine zab zeL hW.calls (e0.trans hx18) fun v69 h69=>?_
 refine NIL.mk rfl ?_
 refine zaa zgk ?_
 refine zac ty3 hW.used (e0.trans hx18) fun _=>?_
 have hcl:∀ x∈cls c 4,x<256:=fun x hx=>by
   obtain ⟨p,_,rfl⟩:=List.mem_map.1 hx
   exact zaB h8.1
 refine (zef (m:=zch c) h69 (e0.trans hx18) hcl (by rw [zdX];omega) (by rw [zdX];exact hu256)).mono ?_
 rintro _ w9 ⟨hx9,rfl⟩
 refine ⟨hx9,?_⟩
 have ho256:=zk8 hcl (zbo (zch c))
 refine (zdd (m:=orL (cls c 4) (zbo (zch c))) (i:=zcd c) (by omega) (by omega)).mono ?_
 rintro _ w10 ⟨hx10,rfl⟩
 refine zaO ?_
 refine ⟨hx18.trans (hx9.trans hx10),?_⟩
 have hcb:=zl3 hc hml
 have:zeI c r↔¬(orL (cls c 4) (zbo (zch c))).testBit (zcd c)=true:=by
   rw [zlq hm,hcb]
   constructor
   · rintro ⟨a',h⟩;exact h.2.2.2.2
   intro h;exact ⟨a,ha,Decidable.not_not.1 heq2,hnr,zgQ.1 hsm,h⟩
 congr 1
 cases hb:(orL (cls c 4) (zbo (zch c))).testBit (zcd c)
 · rw [decide_eq_true (this.2 (by rw [hb];simp))];rfl
 rw [decide_eq_false (fun h=>this.1 h hb)];rfl
def F186 (a0:Value) (w:World) (R:VW):Prop:=
 NIL a0 <|
 rF 92 a0 5 w fun x8=>
 rL 3 x8 w fun x9=>
 cL 48 [x9] w fun x10 w=>
 rN 33 3 x10 w fun x11=>
 LOOPI [3,12] [(iV 0),(iV 0)] w fun u3 w next3=>
 rC (u3 12) x11 w fun x13=>
 BR x13
 (rX 33 x10 (u3 12) w fun x14=>
 rL 3 x14 w fun x15=>
 cL 49 [a0,x15] w fun x18 w=>
 BR x18
 (rD (convert 3 105 x15) w fun x21=>
 rB .shl 3 U0 T0 (iV 1) x21 w fun x22=>
 rB .or 3 T0 T0 (u3 3) x22 w fun x23=>
 rA (u3 12) (iV 1) w fun x24=>
 next3 [x23,x24] w)
 (rA (u3 12) (iV 1) w fun x24=>
 next3 [(u3 3),x24] w))
 (R (u3 3) w)
def cfg186:Cfg:=⟨extL,[],[(3,33550376,[3,12])],[],[],[],[]⟩
theorem F186_call {a0:Value} {w:World} {R:VW} (h:F186 a0 w R):cL 186 [a0] w R:=co (g:=cfg186) Tryz.func186 (by kernel_rfl) (by kernel_rfl) (by kernel_rfl) h
def F185 (a0 a1:Value) (w:World) (R:VW):Prop:=
 NIL a0 <|
 rF 92 a0 0 w fun x10=>
 rL 36 x10 w fun x11=>
 cL 145 [x11,a1] w fun x13 w=>
 rD (Op.unary .not x13) w fun x14=>
 BR x14
 (R (iV 0) w)
 (NIL a0 <|
 rF 92 a0 1 w fun x18=>
 rL 90 x18 w fun x19=>
 rX 90 x19 a1 w fun x21=>
 rL 4 x21 w fun x22=>
 rD (Op.unary .not x22) w fun x23=>
 BR x23
 (R (iV 0) w)
 (NIL a0 <|
 rF 92 a0 5 w fun x27=>
 rL 3 x27 w fun x28=>
 cL 48 [x28] w fun x29 w=>
 rN 33 3 x29 w fun x30=>
 LOOPI [5,31] [(iV 0),(iV 0)] w fun u5 w next5=>
 rC (u5 31) x30 w fun x32=>
 BR x32
 (rX 33 x29 (u5 31) w fun x33=>
 rL 3 x33 w fun x34=>
 (fun w=>NIL a0 <|
 rF 92 a0 4 w fun x37=>
 rL 33 x37 w fun x38=>
 rX 33 x38 x34 w fun x40=>
 rL 3 x40 w fun x41=>
 NIL a0 <|
 rF 92 a0 0 w fun x44=>
 rL 36 x44 w fun x45=>
 (fun w_=>cL 114 [x45,a1] w_ fun x47 w=>
 Ext w_ w ∧
 cL 110 [x41,x47] w fun x48 w=>
 BR x48
 (rD (convert 3 105 x34) w fun x51=>
 rB .shl 3 U0 T0 (iV 1) x51 w fun x52=>
 rB .or 3 T0 T0 (u5 5) x52 w fun x53=>
 rA (u5 31) (iV 1) w fun x54=>
 next5 [x53,x54] w)
 (rA (u5 31) (iV 1) w fun x54=>
 next5 [(u5 5),x54] w)) w) (World.drew1 w))
 (R (u5 5) w)))
def cfg185:Cfg:=⟨extL,[],[(5,36028794871480480,[5,31])],[(7,[0,1,2,3,4,5,6,7,8,9,10,11,12,13],4096)],[],[],[]⟩
theorem F185_call {a0 a1:Value} {w:World} {R:VW} (h:F185 a0 a1 w R):cL 185 [a0,a1] w R:=co (g:=cfg185) Tryz.func185 (by kernel_rfl) (by kernel_rfl) (by kernel_rfl) h
open Rep (rep)
noncomputable def zkn (c:DCode):Nat:=zfn (fun r=>RootP c r∧zeI c r) c.procs.length
def RtP (c:DCode) (i r:Nat):Prop:=zc1 c i∧RootP c r∧FromP c r (zap c i).toNat
noncomputable def rtN (c:DCode) (i:Nat):Nat:=zfn (RtP c i) c.procs.length
theorem znA {c:DCode} (hc:CodeR c) (i:Nat):rtN c i<256:=zaB hc.1.procs8.1
theorem zo6 {c:DCode} (hc:CodeR c):zkn c<256:=zaB hc.1.procs8.1
def AccB (U:List Nat) (P:Nat→Prop) (k m:Nat):Prop:=m<256∧∀ r,m.testBit r=true↔r∈U.take k∧P r
theorem AccB.yes {U:List Nat} {P:Nat→Prop} {k m:Nat} (h:AccB U P k m) (hk:k<U.length) (h8:U[k]<8) (hp:P U[k]):AccB U P (k+1) (m ||| 2^U[k]):=by
 refine ⟨Nat.or_lt_two_pow (n:=8) h.1 (Nat.pow_lt_pow_right (by omega) h8),fun r=>?_⟩
 rw [Nat.testBit_or,Bool.or_eq_true,h.2,zaW hk,Nat.testBit_two_pow,decide_eq_true_eq]
 constructor
 · rintro (⟨h1,h2⟩ | rfl)
   · exact ⟨.inl h1,h2⟩
   exact ⟨.inr rfl,hp⟩
 rintro ⟨h1 | rfl,h2⟩
 · exact .inl ⟨h1,h2⟩
 exact .inr rfl
theorem AccB.no {U:List Nat} {P:Nat→Prop} {k m:Nat} (h:AccB U P k m) (hk:k<U.length) (hp:¬P U[k]):AccB U P (k+1) m:=by
 refine ⟨h.1,fun r=>?_⟩
 rw [h.2,zaW hk]
 constructor
 · rintro ⟨h1,h2⟩;exact ⟨.inl h1,h2⟩
 rintro ⟨h1 | rfl,h2⟩
 · exact ⟨h1,h2⟩
 exact absurd h2 hp
theorem AccB.fin {n:Nat} {Q P:Nat→Prop} {k m:Nat} (h:AccB (zbh n Q) P k m) (hk:(zbh n Q).length≤k):m=zfn (fun r=>Q r∧P r) n:=by
 refine zdx fun r=>?_
 rw [h.2,List.take_of_length_le hk,zaI]
 exact ⟨fun ⟨⟨a,b⟩,d⟩=>⟨a,b,d⟩,fun ⟨a,b,d⟩=>⟨⟨a,b⟩,d⟩⟩
theorem AccB.start (U:List Nat) (P:Nat→Prop):AccB U P 0 0:=⟨by omega,fun r=>by simp⟩
theorem zl4 {w W0:World} {b:Nat} {c:DCode} (hW:WAt W0 b c) (e0:Ext W0 w) (hc:CodeR c) :
   CALL Tryz.prog 186 [.pointer (some ⟨b,0,none⟩)] w fun v w'=>Ext w w'∧v=.int .i64 (zkn c:Nat):=by
 refine F186_call ?_
 unfold F186
 have h8:=hc.1.procs8
 have hr256:zbs c<256:=zaB h8.1
 refine NIL.mk rfl ?_
 refine zaa zgj ?_
 refine zac ty3 hW.roots e0 fun _=>?_
 refine (zcc (m:=zbs c) (by omega)).mono ?_
 rintro v10 w1 ⟨hx1,ho1⟩
 unfold zbs at ho1
 rw [zbZ (by omega)] at ho1
 refine zaf u33 ho1.is ?_
 rw [zae]
 have hUl:=zbb (n:=c.procs.length) (p:=RootP c)
 have hUm:∀ r∈zbh c.procs.length (RootP c),r<c.procs.length∧RootP c r:=fun r hr=>zaI.1 hr
 have hfin:∀ {k m},AccB (zbh c.procs.length (RootP c)) (zeI c) k m→(zbh c.procs.length (RootP c)).length≤k→m=zkn c:=fun h hk=>h.fin hk
 generalize zbh c.procs.length (RootP c)=U at *
 refine zaE U.length (fun k us w'=>∃ m:Nat,us=[.int .i64 (m:Int),.int .i64 (k:Int)]∧k≤U.length∧Ext w1 w'∧AccB U (zeI c) k m) 0 (Nat.zero_le _) ⟨0,rfl,Nat.zero_le _,Ext.refl _,AccB.start _ _⟩ ?_
 rintro k mk u w2 hkm ⟨m,hu,hkl,hx2,hB⟩
 obtain ⟨hu1,hu2⟩:=zey hu
 rw [hu1,hu2]
 refine zal ?_
 refine br (fun hlt=>?_) (fun hge=>?_)
 case refine_2=>
   rw [hfin hB (by omega)]
   exact ⟨hx1.trans hx2,rfl⟩
 have hk:k<U.length:=by omega
 obtain ⟨hrl,hrR⟩:=hUm U[k] (List.getElem_mem _)
 refine zad u33 ty3 (i:=k) ho1.is (by rw [zae];exact hk) fun b3 o3 hA3=>?_
 rw [zaR] at hA3
 have hyes:=fun hp=>hB.yes hk (by omega) hp
 have hno:=fun hp=>hB.no hk hp
 generalize U[k]=r at *
 refine zac ty3 hA3 hx2 fun _=>?_
 have hm256:=hB.1
 refine (znz (r:=r) hW (e0.trans (hx1.trans hx2)) hc hrR).mono ?_
 rintro _ w3 ⟨hx3,rfl⟩
 refine br (fun hs=>?_) (fun hs=>?_)
 · refine zcD (by kernel_rfl) zmI (by omega) ?_
   refine zdp (by omega) ?_
   have:2^r<256:=Nat.pow_lt_pow_right (m:=r) (n:=8) (by omega) (by omega)
   refine zhR (by omega) (by omega) ?_
   refine zag (by omega) ?_
   exact ⟨mk-1,by omega,k+1,by omega,m ||| 2^r,rfl,by omega,hx2.trans hx3,hyes hs⟩
 refine zag (by omega) ?_
 exact ⟨mk-1,by omega,k+1,by omega,m,rfl,by omega,hx2.trans hx3,hno hs⟩
theorem zl5 {w W0:World} {b i:Nat} {c:DCode} (hW:WAt W0 b c) (e0:Ext W0 w) (hc:CodeR c) (hi:i<c.ins.length) :
   CALL Tryz.prog 185 [.pointer (some ⟨b,0,none⟩),.int .i64 (i:Int)] w fun v w'=>Ext w w'∧v=.int .i64 (rtN c i:Nat):=by
 refine F185_call ?_
 unfold F185
 have h8:=hc.1.procs8
 have hr256:zbs c<256:=zaB h8.1
 obtain ⟨q,hq,hpq,_⟩:=zgK hc hi
 refine NIL.mk rfl ?_
 refine zaa zaU ?_
 refine zab zfm hW.wl.code e0 fun v11 h11=>?_
 refine (zlS (a:=(i:Int)) h11 e0).mono ?_
 rintro _ w1 ⟨hx1,rfl⟩
 refine zbw ?_
 refine br (fun h=>absurd ⟨by omega,by omega⟩ h) (fun _=>?_)
 refine NIL.mk rfl ?_
 refine zaa zkS ?_
 refine zab zmG hW.wl.live (e0.trans hx1) fun v19 h19=>?_
 have hmk:=zdw (n:=c.ins.length) (p:=zc1 c) (i:=i)
 rw [zcg (by rw [zbp];exact hi)] at hmk
 refine zad u90 ty4 (i:=i) h19 (by rw [zbp];exact hi) fun b2 o2 hA2=>?_
 refine zb1 ty4 hA2 (e0.trans hx1) ?_
 refine zaO ?_
 refine zbQ (fun hf=>?_) (fun hf=>?_)
 · have hnl:¬zc1 c i:=fun h=>by rw [hmk.2 ⟨hi,h⟩] at hf;cases hf
   have:rtN c i=0:=(zdx (m:=0) fun r=>by simp;exact fun _ h=>hnl h.1).symm
   rw [this]
   exact ⟨hx1,rfl⟩
 have hL:zc1 c i:=(hmk.1 (by simpa using hf)).2
 refine NIL.mk rfl ?_
 refine zaa zgj ?_
 refine zac ty3 hW.roots (e0.trans hx1) fun _=>?_
 refine (zcc (m:=zbs c) (by omega)).mono ?_
 rintro v29 w2 ⟨hx2,ho2⟩
 unfold zbs at ho2
 rw [zbZ (by omega)] at ho2
 refine zaf u33 ho2.is ?_
 rw [zae]
 have hUl:=zbb (n:=c.procs.length) (p:=RootP c)
 have hUm:∀ r∈zbh c.procs.length (RootP c),r<c.procs.length∧RootP c r:=fun r hr=>zaI.1 hr
 have hfin:∀ {k m},AccB (zbh c.procs.length (RootP c)) (fun r=>FromP c r q) k m→(zbh c.procs.length (RootP c)).length≤k→m=rtN c i:=fun h hk=>by
   rw [h.fin hk]
   unfold rtN
   refine zbY fun r _=>?_
   unfold RtP
   rw [hpq]
   exact ⟨fun h=>⟨hL,h.1,h.2⟩,fun h=>h.2⟩
 generalize zbh c.procs.length (RootP c)=U at *
 have hx02:=hx1.trans hx2
 refine zaE U.length (fun k us w'=>∃ m:Nat,us=[.int .i64 (m:Int),.int .i64 (k:Int)]∧k≤U.length∧Ext w2 w'∧AccB U (fun r=>FromP c r q) k m) 0 (Nat.zero_le _) ⟨0,rfl,Nat.zero_le _,Ext.refl _,AccB.start _ _⟩ ?_
 rintro k mk u w3 hkm ⟨m,hu,hkl,hx3,hB⟩
 obtain ⟨hu1,hu2⟩:=zey hu
 rw [hu1,hu2]
 refine zal ?_
 refine br (fun hlt=>?_) (fun hge=>?_)
 case refine_2=>
   rw [hfin hB (by omega)]
   exact ⟨hx02.trans hx3,rfl⟩
 have hk:k<U.length:=by omega
 obtain ⟨hrl,hrR⟩:=hUm U[k] (List.getElem_mem _)
 refine zad u33 ty3 (i:=k) ho2.is (by rw [zae];exact hk) fun b4 o4 hA4=>?_
 rw [zaR] at hA4
 have hyes:=fun hp=>hB.yes hk (by omega) hp
 have hno:=fun hp=>hB.no hk hp
 generalize U[k]=r at *
 refine zac ty3 hA4 hx3 fun _=>?_
 have hm256:=hB.1
 have hxd:=zao w3
 have hx23:=hx3.trans hxd
 generalize World.drew1 w3=w4 at *
 have e4:=e0.trans (hx02.trans hx23)
 refine NIL.mk rfl ?_
 refine zaa ziK ?_
 refine zab zeL hW.frm e4 fun v38 h38=>?_
 refine zad u33 ty3 (i:=r) h38 (by rw [zae,zfz];exact hrl) fun b5 o5 hA5=>?_
 rw [zbf] at hA5
 refine zac ty3 hA5 e4 fun _=>?_
 refine NIL.mk rfl ?_
 refine zaa zaU ?_
 refine zab zfm hW.wl.code e4 fun v45 h45=>?_
 refine (ziV (a:=(i:Int)) h45 e4 hc (by omega) (by omega)).mono ?_
 rintro _ w5 ⟨hx5,rfl⟩
 refine ⟨hx5,?_⟩
 rw [hpq]
 have hfb:=zkc (c:=c) (r:=q) hrl
 have hf256:zaC (frs c) r<256:=by rw [zlb hrl];exact zaB h8.1
 refine (zdd (m:=zaC (frs c) r) (i:=q) (by omega) (by omega)).mono ?_
 rintro _ w6 ⟨hx6,rfl⟩
 have hx26:=hx23.trans (hx5.trans hx6)
 refine zbQ (fun hs=>?_) (fun hs=>?_)
 · refine zcD (by kernel_rfl) zmI (by omega) ?_
   refine zdp (by omega) ?_
   have:2^r<256:=Nat.pow_lt_pow_right (m:=r) (n:=8) (by omega) (by omega)
   refine zhR (by omega) (by omega) ?_
   refine zag (by omega) ?_
   exact ⟨mk-1,by omega,k+1,by omega,m ||| 2^r,rfl,by omega,hx26,hyes (hfb.1 hs).2⟩
 refine zag (by omega) ?_
 exact ⟨mk-1,by omega,k+1,by omega,m,rfl,by omega,hx26,hno fun h=>by rw [hfb.2 ⟨hq,h⟩] at hs;cases hs⟩
end Go.Proofs.YtcnglfeoglgebaaGreat
namespace Go.Proofs.YtcnglfeoglgebaaGreat
open Go Go.Sh Go.Proofs Go.Sort
open Rep (rep)
structure DOrder where
 fr:Int
 to:Int
 at_:Int
theorem DOrder.ext_iff {x y:DOrder}:x=y↔(x.fr=y.fr∧x.to=y.to∧x.at_=y.at_):=⟨fun h=>by rw [h];exact ⟨rfl,rfl,rfl⟩,fun h=>by obtain ⟨h0,h1,h2⟩:=h;cases x;cases y;simp only at h0 h1 h2;simp only [h0,h1,h2]⟩
instance:DecidableEq DOrder:=fun x y=>decidable_of_iff (x.fr=y.fr∧x.to=y.to∧x.at_=y.at_) DOrder.ext_iff.symm
instance:Rep DOrder:=Rep.via fun x=>(x.fr,x.to,x.at_)
instance:RepZ DOrder:=⟨⟨(RepZ.zv:Int),(RepZ.zv:Int),(RepZ.zv:Int)⟩,RepZ.zc (Int×Int×Int),fun w=>RepZ.zr (α:=Int×Int×Int) w⟩
instance:Flat DOrder:=⟨fun h=>Flat.flat (α:=Int×Int×Int) h⟩
def ltO (x y:DOrder):Prop:=x.fr<y.fr∨(x.fr=y.fr∧(x.to<y.to∨(x.to=y.to∧x.at_<y.at_)))
instance (x y:DOrder):Decidable (ltO x y):=by unfold ltO;infer_instance
instance:Inhabited DOrder:=⟨⟨0,0,0⟩⟩
def F184 (a0:Value) (w:World) (R:VW):Prop:=
 rN 90 3 a0 w fun x7=>
 LOOPI [3,8] [(Value.slice none 0 0),(iV 0)] w fun u3 w next3=>
 rC (u3 8) x7 w fun x9=>
 BR x9
 (rX 90 a0 (u3 8) w fun x11=>
 rL 4 x11 w fun x12=>
 BR x12
 (oP (Instr.buildSlice 33 1 #[(0,(u3 8))]) w fun x16 w=>
 oP (Builtin.append_ #[33,33] 33 [(u3 3),x16].toArray) w fun x17 w=>
 rA (u3 8) (iV 1) w fun x18=>
 next3 [x17,x18] w)
 (rA (u3 8) (iV 1) w fun x18=>
 next3 [(u3 3),x18] w))
 (R (u3 3) w)
def cfg184:Cfg:=⟨extL,[],[(3,524088,[3,8])],[],[],[],[]⟩
theorem F184_call {a0:Value} {w:World} {R:VW} (h:F184 a0 w R):cL 184 [a0] w R:=co (g:=cfg184) Tryz.func184 (by kernel_rfl) (by kernel_rfl) (by kernel_rfl) h
open Rep (rep)
theorem znB {w W0:World} {v0:Value} {ms:List Bool} (h0:Is W0 v0 ms) (e0:Ext W0 w) (hn:ms.length≤2000000) :
   CALL Tryz.prog 184 [v0] w fun r w'=>Ext w w'∧Own w.heap.size w' r (zaZ (zqn ms ms.length)):=by
 refine F184_call ?_
 unfold F184
 refine zaf u90 h0 ?_
 refine zaE ms.length (fun k us w'=>∃ (v:Value),us=[v,.int .i64 (k:Int)]∧k≤ms.length∧Ext w w'∧RowI w.heap.size w'.heap.size 3 w' v (zaZ (zqn ms k))) 0 (Nat.zero_le _) ⟨_,rfl,Nat.zero_le _,Ext.refl _,zb2 _ _ _ _⟩ ?_
 rintro k mk u w2 hkm ⟨v,hu,hkl,hx2,hr2⟩
 obtain ⟨hu1,hu2⟩:=zey hu
 rw [hu1,hu2]
 refine zal ?_
 refine br (fun hlt=>?_) (fun hge=>?_)
 case refine_2=>
   have:k=ms.length:=by omega
   rw [this] at hr2
   exact ⟨hx2,hr2.own.own⟩
 have hk:k<ms.length:=by omega
 have hs2:=hx2.size
 have hg:ms.getD k false=ms[k]:=by rw [List.getD_eq_getElem?_getD,List.getElem?_eq_getElem hk];rfl
 have hil:=zoN ms k
 refine zad u90 ty4 h0 hk fun b2 o2 hA2=>?_
 refine zb1 ty4 hA2 (e0.trans hx2) ?_
 refine zbQ (fun hf=>?_) (fun hf=>?_)
 · refine zdt (lo2:=w2.heap.size) (hi2:=w2.heap.size) (x:=(k:Int)) u33 ty3 z3 zc3 (by decide) hr2 hs2 (ze5 _ _ (by unfold I64;omega)) (Nat.le_refl _) hs2 (by rw [zak,zae];omega) (by rw [zae];omega) fun v54 w9 hc9 hr9=>?_
   refine zag (by omega) ?_
   refine ⟨mk-1,by omega,k+1,by omega,v54,rfl,by omega,hx2.chgI hc9 (Nat.le_refl _),?_⟩
   rw [zi2,hg,hf,if_pos rfl,zcI]
   exact hr9
 refine zag (by omega) ?_
 refine ⟨mk-1,by omega,k+1,by omega,v,rfl,by omega,hx2,?_⟩
 rw [zi2,hg,hf]
 simpa using hr2
def F108 (a0 a1 a2:Value) (w:World) (R:VW):Prop:=
 rB .eql 3 T0 U0 a0 (iV 0) w fun x8=>
 BR x8
 (R (Value.bool false) w)
 (rB .eql 3 T0 U0 a1 (iV 0) w fun x11=>
 BR x11
 (R (Value.bool false) w)
 (rB .and 3 T0 T0 a0 a1 w fun x15=>
 rB .andNot 3 T0 T0 x15 a2 w fun x17=>
 rB .neq 3 T0 U0 x17 (iV 0) w fun x18=>
 BR x18
 (R (Value.bool true) w)
 (rB .neq 3 T0 T0 a0 a1 w fun x22=>
 BR x22
 (R (Value.bool true) w)
 (rB .sub 3 T0 U0 a0 (iV 1) w fun x27=>
 rB .and 3 T0 T0 a0 x27 w fun x28=>
 rB .neq 3 T0 U0 x28 (iV 0) w fun x29=>
 R x29 w))))
def cfg108:Cfg:=⟨extL,[],[],[],[],[],[]⟩
theorem F108_call {a0 a1 a2:Value} {w:World} {R:VW} (h:F108 a0 a1 a2 w R):cL 108 [a0,a1,a2] w R:=co (g:=cfg108) Tryz.func108 (by kernel_rfl) (by kernel_rfl) (by kernel_rfl) h
def F106 (a0:Value) (w:World) (R:VW):Prop:=
 NIL a0 <|
 rF 92 a0 0 w fun x8=>
 rF 36 x8 4 w fun x9=>
 rL 34 x9 w fun x10=>
 rN 34 3 x10 w fun x11=>
 oP (Instr.makeSlice 33 x11 x11) w fun x12 w=>
 rN 33 3 x12 w fun x14=>
 LOOPI [15] [(iV 0)] w fun u3 w next3=>
 rC (u3 15) x14 w fun x16=>
 BR x16
 (cL 185 [a0,(u3 15)] w fun x22 w=>
 rX 33 x12 (u3 15) w fun x23=>
 oS 3 x23 x22 w fun w=>
 rA (u3 15) (iV 1) w fun x24=>
 next3 [x24] w)
 (cL 186 [a0] w fun x27 w=>
 R (Value.tuple #[x12,x27]) w)
def cfg106:Cfg:=⟨extL,[],[(3,33521696,[15])],[],[],[],[]⟩
theorem F106_call {a0:Value} {w:World} {R:VW} (h:F106 a0 w R):cL 106 [a0] w R:=co (g:=cfg106) Tryz.func106 (by kernel_rfl) (by kernel_rfl) (by kernel_rfl) h
def F105 (a0:Value) (w:World) (R:VW):Prop:=
 cL 68 [a0] w fun x8 w=>
 cL 70 [a0] w fun x10 w=>
 cL 184 [x10] w fun x11 w=>
 rN 33 3 x11 w fun x12=>
 LOOPI [4,13] [(Value.slice none 0 0),(iV 0)] w fun u4 w next4=>
 rC (u4 13) x12 w fun x14=>
 BR x14
 (rX 33 x11 (u4 13) w fun x15=>
 rL 3 x15 w fun x16=>
 (fun w=>NIL a0 <|
 rF 92 a0 0 w fun x20=>
 rL 36 x20 w fun x21=>
 rX 33 x8 x16 w fun x25=>
 rL 3 x25 w fun x26=>
 (fun w_=>cL 146 [x21,x16,x26] w_ fun x27 w=>
 Ext w_ w ∧
 oP (Builtin.append_ #[133,133] 133 [(u4 4),x27].toArray) w fun x28 w=>
 rA (u4 13) (iV 1) w fun x29=>
 next4 [x28,x29] w) w) (World.drew1 w))
 (R (u4 4) w)
def cfg105:Cfg:=⟨extL,[],[(4,1073733712,[4,13])],[(6,[0,1,2,3,4,5,6,7,8,9,10,11,12],1024)],[],[],[]⟩
theorem F105_call {a0:Value} {w:World} {R:VW} (h:F105 a0 w R):cL 105 [a0] w R:=co (g:=cfg105) Tryz.func105 (by kernel_rfl) (by kernel_rfl) (by kernel_rfl) h
open Rep (rep)
def zpQ (a b s:Nat):Prop:=∃ r t,a.testBit r=true∧b.testBit t=true∧(r≠t∨s.testBit r=false)
theorem zo7:∀ a,a<256→a &&& (a-1)≠0→∃ r,r<8∧∃ t,t<8∧r≠t∧a.testBit r=true∧a.testBit t=true:=by decide +kernel
theorem zqB:∀ a,a<256→∀ r,r<8→∀ t,t<8→(a &&& (a-1)=0∧a.testBit r=true∧a.testBit t=true→r=t):=by decide +kernel
theorem znC {m l:Nat} (h:m<256) (hb:m.testBit l=true):l<8:=Decidable.byContradiction fun hc=>by
 have:=Nat.testBit_lt_two_pow (Nat.lt_of_lt_of_le (show m<2^8 from h) (Nat.pow_le_pow_right (by omega) (by omega:8≤l)))
 rw [this] at hb;cases hb
theorem zio {m:Nat} (h:m≠0):∃ i,m.testBit i=true:=Nat.exists_testBit_of_ne_zero h
theorem znD {m:Nat} (h:m=0) (i:Nat):¬m.testBit i=true:=by rw [h];simp
theorem zo8 {w:World} {a b s:Nat} (ha:a<256) (hb:b<256) (hs:s<256) :
   CALL Tryz.prog 108 [.int .i64 (a:Int),.int .i64 (b:Int),.int .i64 (s:Int)] w fun v w'=>Ext w w'∧∃ x:Bool,v=.bool x∧(x=true↔zpQ a b s):=by
 refine F108_call ?_
 unfold F108
 refine zai ?_
 refine br (fun h=>?_) (fun hna=>?_)
 · exact ⟨Ext.refl _,false,rfl,⟨fun e=>(by cases e),fun ⟨r,t,h1,_⟩=>absurd h1 (znD (by omega) r)⟩⟩
 refine zai ?_
 refine br (fun h=>?_) (fun hnb=>?_)
 · exact ⟨Ext.refl _,false,rfl,⟨fun e=>(by cases e),fun ⟨r,t,_,h1,_⟩=>absurd h1 (znD (by omega) t)⟩⟩
 have hle:=Nat.and_le_left (n:=a) (m:=b)
 refine ze6 (m:=a) (n:=b) (by omega) (by omega) ?_
 refine zgD (m:=a &&& b) (n:=s) (by omega) (by omega) ?_
 refine zaT ?_
 refine br (fun h=>?_) (fun h=>?_)
 · obtain ⟨i,hi⟩:=zio (m:=zmp (a &&& b) s) (by omega)
   rw [zee,Nat.testBit_and] at hi
   simp only [Bool.and_eq_true,Bool.not_eq_true'] at hi
   exact ⟨Ext.refl _,true,rfl,⟨fun _=>⟨i,i,hi.1.1,hi.1.2,.inr hi.2⟩,fun _=>rfl⟩⟩
 have hz:zmp (a &&& b) s=0:=by have:=Decidable.not_not.1 h;omega
 refine zaT ?_
 refine br (fun hne=>?_) (fun heq=>?_)
 · refine ⟨Ext.refl _,true,rfl,⟨fun _=>?_,fun _=>rfl⟩⟩
   refine Classical.byContradiction fun hn=>?_
   have hall:∀ r t,a.testBit r=true→b.testBit t=true→r=t:=fun r t h1 h2=>Classical.byContradiction fun e=>hn ⟨r,t,h1,h2,.inl e⟩
   obtain ⟨r,hr⟩:=zio (m:=a) (by omega)
   obtain ⟨t,ht⟩:=zio (m:=b) (by omega)
   have hrt:=hall r t hr ht
   subst hrt
   have:a=b:=Nat.eq_of_testBit_eq fun i=>by
     cases e1:a.testBit i<;>cases e2:b.testBit i
     · rfl
     · have:=hall r i hr e2;subst this;rw [hr] at e1;cases e1
     · have:=hall i r e1 ht;subst this;rw [ht] at e2;cases e2
     rfl
   exact hne (by rw [this])
 have hab:a=b:=by have:=Decidable.not_not.1 heq;omega
 subst hab
 refine zck (by unfold I64;omega) ?_
 rw [show (a:Int)-1=((a-1:Nat):Int) by omega]
 refine ze6 (m:=a) (n:=a-1) (by omega) (by omega) ?_
 refine zaT ?_
 refine ⟨Ext.refl _,_,rfl,?_⟩
 rw [decide_eq_true_eq]
 constructor
 · intro h
   obtain ⟨r,_,t,_,h1,h2,h3⟩:=zo7 a ha (by omega)
   exact ⟨r,t,h2,h3,.inl h1⟩
 rintro ⟨r,t,h1,h2,h3⟩ hc
 have:=zqB a ha r (znC ha h1) t (znC ha h2) ⟨by omega,h1,h2⟩
 subst this
 have hb:=znD hz r
 rw [zee,Nat.testBit_and,h1] at hb
 rcases h3 with h3 | h3
 · exact h3 rfl
 rw [h3] at hb;simp at hb
theorem zl6 {w W0:World} {b:Nat} {c:DCode} (hW:WAt W0 b c) (e0:Ext W0 w) (hc:CodeR c) :
   CALL Tryz.prog 106 [.pointer (some ⟨b,0,none⟩)] w fun v w'=>Ext w w'∧∃ u,v=.tuple #[u,.int .i64 (zkn c:Nat)]∧Own w.heap.size w' u (zaZ ((List.range c.ins.length).map (rtN c))):=by
 refine F106_call ?_
 unfold F106
 have hil:=hc.f.ins
 have hin0:0<c.ins.length:=by
   have:=hc.1.procs8
   have:=(zgI hc this.2).2.2
   omega
 refine NIL.mk rfl ?_
 refine zaa zaU ?_
 refine zaa zaK ?_
 refine zab zdG (zat hW.wl.code) e0 fun v10 h10=>?_
 refine zaf u34 h10 ?_
 have hn:c.ins.length=c.ins.length:=rfl
 generalize hnn:c.ins.length=n at hn
 rw [hnn] at hil hin0
 refine zdy hin0 (by omega) fun w1 hx1 hM1=>?_
 refine zig u33 ?_
 generalize hg:w.heap.size=g at *
 have hg1:=hM1.lt g (by simp)
 have hM0:Mine [g] w1 (.slice (some ⟨g,0,none⟩) n n) (zaZ ((List.range n).map fun i=>if i<0 then rtN c i else 0)):=by
   have:(List.replicate n 0)=((List.range n).map fun i=>if i<0 then rtN c i else 0):=by
     apply List.ext_getElem
     · simp
     intro i h1 h2;simp
   rw [←this];exact hM1
 refine zaE n (fun k us w'=>us=[.int .i64 (k:Int)]∧k≤n∧ChgI g (g+1) w1 w'∧Mine [g] w' (.slice (some ⟨g,0,none⟩) n n) (zaZ ((List.range n).map fun i=>if i<k then rtN c i else 0))) 0 (Nat.zero_le _) ⟨rfl,Nat.zero_le _,ChgI.refl _,hM0⟩ ?_
 rintro k mk u w2 hkm ⟨hu,hkl,hc2,hM2⟩
 simp only [List.map_cons,List.map_nil,List.cons.injEq,and_true] at hu
 rw [hu]
 have hx2:Ext w w2:=hx1.chgI hc2 (by omega)
 refine zal ?_
 refine br (fun hlt=>?_) (fun hge=>?_)
 case refine_2=>
   have hke:k=n:=by omega
   refine (zl4 hW (e0.trans hx2) hc).mono ?_
   rintro _ w3 ⟨hx3,rfl⟩
   refine ⟨hx2.trans hx3,_,rfl,[g],?_,fun b hb=>by simp at hb;omega⟩
   have:((List.range n).map fun i=>if i<k then rtN c i else 0)=(List.range n).map (rtN c):=List.map_congr_left fun i hi=>by
     have:=List.mem_range.1 hi
     rw [if_pos (by omega)]
   rw [this] at hM2
   exact hM2.ext hx3
 have hk:k<n:=by omega
 refine (zl5 (i:=k) hW (e0.trans hx2) hc (by omega)).mono ?_
 rintro _ w3 ⟨hx3,rfl⟩
 have hrt:=znA hc k
 refine zcJ (α:=Int) (i:=k) rfl u33 ty3 hk ?_
 refine zbI (α:=Int) rfl ty3 (hM2.ext hx3) (by simp [zaZ]) hk (zbF (v:=rtN c k) (by omega)) fun w4 hc4 hM4=>?_
 have hc4':ChgI g (g+1) w3 w4:=zfy hc4
 refine zag (by omega) ?_
 refine ⟨mk-1,by omega,k+1,by omega,rfl,by omega,(hc2.trans hx3.toI).trans hc4',?_⟩
 have:(zaZ ((List.range n).map fun i=>if i<k then rtN c i else 0)).set k (rtN c k:Nat)=zaZ ((List.range n).map fun i=>if i<k+1 then rtN c i else 0):=by
   unfold zaZ
   apply List.ext_getElem
   · simp
   intro i h1 h2
   simp only [List.length_map,List.length_range] at h2
   rw [List.getElem_set]
   by_cases e:k=i
   · subst e;simp
   rw [if_neg e]
   simp only [List.getElem_map,List.getElem_range]
   by_cases h:i<k
   · rw [if_pos h,if_pos (by omega)]
   rw [if_neg h,if_neg (by omega)]
 rw [←this];exact hM4
noncomputable def zo9 (c:DCode) (i:Nat):List DTouch:=zci c (i:Int) ((zaC (zdK c) i:Nat):Int)
noncomputable def zfo (c:DCode):List DTouch:=(zbh c.ins.length (MetP c)).flatMap (zo9 c)
theorem zfe {c:DCode} (hc:CodeR c) (a h:Int):(zci c a h).length≤12:=by
 have h1:=zkf c a h
 have h2:=hc.1.1
 simp only [Bool.and_eq_true,decide_eq_true_eq] at h2
 omega
theorem zjl {c:DCode} (hc:CodeR c) (U:List Nat) (hU:U.length≤1500):(U.flatMap (zo9 c)).length≤18000:=by
 have h1:=zfd (l:=U) (f:=zo9 c) (B:=12) fun i _=>zfe hc _ _
 omega
theorem zl7 {w W0:World} {b:Nat} {c:DCode} (hW:WAt W0 b c) (e0:Ext W0 w) (hc:CodeR c) :
   CALL Tryz.prog 105 [.pointer (some ⟨b,0,none⟩)] w fun v w'=>Ext w w'∧Own w.heap.size w' v (zfo c):=by
 refine F105_call ?_
 unfold F105
 have hil:=hc.f.ins
 refine (zqt hW e0 hc).mono ?_
 rintro v8 w1 ⟨hx1,ho1⟩
 refine (zrx hW (e0.trans hx1) hc).mono ?_
 rintro v10 w2 ⟨hx2,ho2⟩
 have hml:(zq8 c).length=c.ins.length:=by unfold zq8;rw [zbp]
 refine (znB ho2.is (Ext.refl _) (by rw [hml];omega)).mono ?_
 rintro v11 w3 ⟨hx3,ho3⟩
 have hx13:=hx1.trans (hx2.trans hx3)
 rw [hml] at ho3
 unfold zq8 at ho3
 rw [zm9] at ho3
 have hMu:=ho1.is.ext (hx2.trans hx3)
 have hUl:=zbb (n:=c.ins.length) (p:=MetP c)
 have hUm:∀ i∈zbh c.ins.length (MetP c),i<c.ins.length:=fun i hi=>(zaI.1 hi).1
 unfold zfo
 generalize zbh c.ins.length (MetP c)=U at *
 refine zaf u33 ho3.is ?_
 rw [zae]
 have hs13:=hx13.size
 refine zaE U.length (fun k us w'=>∃ out,us=[out,.int .i64 (k:Int)]∧k≤U.length∧Ext w3 w'∧RowI w3.heap.size w'.heap.size 138 w' out ((U.take k).flatMap (zo9 c))) 0 (Nat.zero_le _) ⟨_,rfl,Nat.zero_le _,Ext.refl _,zb2 _ _ _ _⟩ ?_
 rintro k mk u w4 hkm ⟨out,hu,hkl,hx4,hr4⟩
 obtain ⟨hu1,hu2⟩:=zey hu
 rw [hu1,hu2]
 refine zal ?_
 refine br (fun hlt=>?_) (fun hge=>?_)
 case refine_2=>
   have hke:k=U.length:=by omega
   rw [hke,List.take_length] at hr4
   exact ⟨hx13.trans hx4,hr4.own.own.mono (by omega)⟩
 have hk:k<U.length:=by omega
 have hi:=hUm U[k] (List.getElem_mem _)
 have hfs:=zdY (f:=zo9 c) hk
 have hlk:=zjl hc (U.take k) (by rw [List.length_take];omega)
 refine zad u33 ty3 (i:=k) ho3.is (by rw [zae];exact hk) fun b5 o5 hA5=>?_
 rw [zaR] at hA5
 generalize U[k]=i at *
 refine zac ty3 hA5 hx4 fun _=>?_
 have hxd:=zao w4
 have hx35:=hx4.trans hxd
 have hr5:=hr4.ext hxd
 have hsd:=hxd.size
 generalize World.drew1 w4=w5 at *
 have e5:=e0.trans (hx13.trans hx35)
 refine NIL.mk rfl ?_
 refine zaa zaU ?_
 refine zab zfm hW.wl.code e5 fun v21 h21=>?_
 refine zad u33 ty3 (i:=i) hMu (by rw [zae,zgF];exact hi) fun b6 o6 hA6=>?_
 rw [zbf] at hA6
 refine zac ty3 hA6 hx35 fun _=>?_
 have hm64:=zeF (zf1 c) i
 refine (zje (a:=(i:Int)) (held:=(zaC (zdK c) i:Nat)) h21 e5 hc (by omega) (by omega) (by unfold I64;omega)).mono ?_
 rintro v27 w6 ⟨hx6,ho6⟩
 refine ⟨hx6,?_⟩
 have h12:(zo9 c i).length≤12:=zfe hc (i:Int) (zaC (zdK c) i:Nat)
 have hs34:=hx4.size
 have hs56:=hx6.size
 refine zfr (m:=zo9 c i) zpA zen zqd (hr5.ext hx6) (by omega) ho6.is (Ext.refl _) (by rw [zak];omega) (by omega) fun v28 w7 hc7 hr7=>?_
 refine zag (by omega) ?_
 refine ⟨mk-1,by omega,k+1,by omega,v28,rfl,by omega,(hx35.trans hx6).chgI hc7 (Nat.le_refl _),?_⟩
 rw [hfs];exact hr7
section
variable {Q1 Q1' Q2:List Nat→World→Prop} {wb w w1 w':World} {F1 F2 F':List Nat}
end
def zsv (c:DCode) (a b r s:Nat):Prop:=RootP c r∧RootP c s∧FromP c r a∧FromP c s b∧(r≠s∨¬zeI c r)
def zpR (c:DCode) (a b:Nat):Prop:=∃ r s,zsv c a b r s
noncomputable instance (c:DCode) (r:Nat):Decidable (RootP c r):=Classical.propDecidable _
instance flatRawM:Flat Raw:=⟨fun h=>h.1⟩
section
variable {w0 w w':World} {lo hi g n:Nat} {out:Value} {L:List DRace} {vs:List Raw} {T:Nat→List DTouch}
end
def zrB (c:DCode) (s:DState):Prop:=(CodeR c∧zk2 c s)∧zrZ c s=[]∧zj5 c s s.stacks.length=0
instance (c:DCode) (s:DState):Decidable (zrB c s):=by unfold zrB;infer_instance
theorem zko {w w0:World} {v:Value} {l:List DRace} (h:Is w0 v l) (hx:Ext w0 w) (hn:l.length≤1000000000) :
   CALL Tryz.prog 85 [v] w fun r w'=>Ext w w'∧Own w.heap.size w' r (zjg l):=by
 refine F85_call ?_
 unfold F85
 refine (zns h hx (by omega)).mono ?_
 rintro v1 w1 ⟨hx1,ho1⟩
 refine (zo3 ho1.toI (by omega)).mono ?_
 rintro _ w2 ⟨hc2,ho2⟩
 refine (zl1 ho2 (by rw [znw];omega)).mono ?_
 rintro v3 w3 ⟨hc3,ho3⟩
 refine (zoY ho3).mono ?_
 rintro v4 w4 ⟨hx4,ho4⟩
 rw [zqz] at ho4
 exact ⟨((hx1.chgI hc2 (Nat.le_refl _)).chgI hc3 (Nat.le_refl _)).trans hx4,ho4.own⟩
open Classical in
noncomputable def rc1 (c:DCode) (a b:DTouch):List DRace:=if zcS a b∧zpR c (zap c a.at_).toNat (zap c b.at_).toNat then [zdH a b] else []
theorem zqC (c:DCode) (a b:DTouch):(rc1 c a b).length≤1:=by unfold rc1;split<;>simp
noncomputable def zkp (c:DCode) (T:List DTouch) (i:Nat):List DRace:=match T.drop i with
 | []=>[]
 | a :: r=>(a :: r).flatMap (rc1 c a)
noncomputable def zgR (c:DCode) (T:List DTouch) (n:Nat):List DRace:=(List.range n).flatMap (zkp c T)
theorem zf5 {c:DCode} {T:List DTouch} {i:Nat} (hi:i<T.length):zkp c T i=(T.drop i).flatMap (rc1 c T[i]):=by
 unfold zkp
 rw [List.drop_eq_getElem_cons hi]
theorem znE (c:DCode) (a:DTouch) (L:List DTouch):(L.flatMap (rc1 c a)).length≤L.length:=by
 have:=zfd (l:=L) (f:=rc1 c a) (B:=1) fun b _=>zqC c a b
 omega
theorem znF (c:DCode) (T:List DTouch) (i:Nat):(zkp c T i).length≤T.length:=by
 rcases Nat.lt_or_ge i T.length with h | h
 · rw [zf5 h]
   have:=znE c T[i] (T.drop i)
   rw [List.length_drop] at this
   omega
 unfold zkp
 rw [List.drop_eq_nil_of_le h];simp
theorem znG {c:DCode} {T:List DTouch} (hT:T.length≤18000) {n:Nat} (hn:n≤18000):(zgR c T n).length≤324000000:=by
 have h1:=zfd (l:=List.range n) (f:=zkp c T) (B:=18000) fun i _=>Nat.le_trans (znF c T i) hT
 rw [List.length_range] at h1
 have:n*18000≤18000*18000:=Nat.mul_le_mul_right _ hn
 unfold zgR;omega
theorem zl8 (c:DCode) (T:List DTouch) (n:Nat):zgR c T (n+1)=zgR c T n++zkp c T n:=by
 unfold zgR;rw [List.range_succ,List.flatMap_append];simp
theorem zpa {c:DCode} (hc:CodeR c):(zfo c).length≤18000:=zjl hc _ (Nat.le_trans zbb hc.f.ins)
structure TouR (c:DCode) (x:DTouch) (p:Nat):Prop where
 at_:x.at_=(p:Int)
 lt:p<c.ins.length
 met:MetP c p
 h0:0≤x.held
 h1:x.held≤63
theorem zpb {c:DCode} (hc:CodeR c) {x:DTouch} (h:x∈zfo c):∃ p,TouR c x p:=by
 unfold zfo at h
 obtain ⟨i,hi,hx⟩:=List.mem_flatMap.1 h
 obtain ⟨h1,h2⟩:=zcA hx
 have hm:=zeF (zf1 c) i
 obtain ⟨h3,h4⟩:=zaI.1 hi
 exact ⟨i,h1,h3,h4,by omega,by omega⟩
theorem zqD (c:DCode):(zfo c).Pairwise fun a b=>a.at_≤b.at_:=by
 unfold zfo
 refine List.pairwise_flatMap.2 ⟨fun i _=>?_,?_⟩
 · refine List.pairwise_iff_forall_sublist.2 fun {a b} h=>?_
   have h1:=zcA (h.subset (by simp:a∈[a,b]))
   have h2:=zcA (h.subset (by simp:b∈[a,b]))
   rw [h1.1,h2.1];omega
 have hr:(zbh c.ins.length (MetP c)).Pairwise (fun a b=>a<b):=by
   unfold zbh
   exact List.pairwise_lt_range.filter _
 refine hr.imp fun {i j} hij x hx y hy=>?_
 have h1:=zcA hx
 have h2:=zcA hy
 rw [h1.1,h2.1];omega
theorem zfC {c:DCode} {p i j:Nat} (h:zay c p i) (hj:j∈zax c i):zay c p j:=by
 rcases h with rfl | h
 · exact .inr (.one hj)
 exact .inr (h.trans (.one hj))
theorem zlr {c:DCode} (hc:CodeR c) {i:Nat} (h:MetP c i):zc1 c i:=by
 induction h with
 | root h=>exact ⟨_,h.lt hc,.inl rfl⟩
 | call h ho _=>exact ⟨_,(zbv hc (h.lt hc) (.inl ho)).2,.inl rfl⟩
 | next _ _ hj ih=>obtain ⟨p,hp,hl⟩:=ih;exact ⟨p,hp,zfC hl hj⟩
 | back _ _ _ hj ih _=>obtain ⟨p,hp,hl⟩:=ih;exact ⟨p,hp,zfC hl hj⟩
theorem znH {c:DCode} (hc:CodeR c) {i j:Nat} (hi:MetP c i) (hj:MetP c j):zpQ (rtN c i) (rtN c j) (zkn c)↔zpR c (zap c i).toNat (zap c j).toNat:=by
 have h1:=zlr hc hi
 have h2:=zlr hc hj
 have hb:∀ k r,(rtN c k).testBit r=true↔r<c.procs.length∧RtP c k r:=fun k r=>zbq
 have hs:∀ r,r<c.procs.length→RootP c r→((zkn c).testBit r=false↔¬zeI c r):=fun r hr hR=>by
   have:=zbq (n:=c.procs.length) (p:=fun r=>RootP c r∧zeI c r) (i:=r)
   unfold zkn
   constructor
   · intro h hS;rw [this.2 ⟨hr,hR,hS⟩] at h;cases h
   intro h
   cases e:(zfn (fun r=>RootP c r∧zeI c r) c.procs.length).testBit r
   · rfl
   exact absurd (this.1 e).2.2 h
 constructor
 · rintro ⟨r,t,hr,ht,h⟩
   obtain ⟨hr1,_,hr2,hr3⟩:=(hb _ _).1 hr
   obtain ⟨ht1,_,ht2,ht3⟩:=(hb _ _).1 ht
   exact ⟨r,t,hr2,ht2,hr3,ht3,h.imp id (hs r hr1 hr2).1⟩
 rintro ⟨r,t,hr2,ht2,hr3,ht3,h⟩
 exact ⟨r,t,(hb _ _).2 ⟨hr2.lt hc,h1,hr2,hr3⟩,(hb _ _).2 ⟨ht2.lt hc,h2,ht2,ht3⟩,h.imp id (hs r (hr2.lt hc) hr2).2⟩
def F47 (a0:Value) (w:World) (R:VW):Prop:=
 cL 105 [a0] w fun x12 w=>
 cL 106 [a0] w fun x15 w=>
 rE x15 0 w fun x16=>
 rE x15 1 w fun x17=>
 rN 133 3 x12 w fun x19=>
 LOOPI [6,20] [(Value.slice none 0 0),(iV 0)] w fun u5 w next5=>
 rC (u5 20) x19 w fun x21=>
 BR x21
 (rX 133 x12 (u5 20) w fun x23=>
 rL 138 x23 w fun x24=>
 oP (Instr.alloc 138 true (.tuple #[])) w fun x8 w=>
 oS 138 x8 x24 w fun w=>
 rD (Instr.sliceAt 133 x12 (some (u5 20)) none none) w fun x27=>
 rN 133 3 x27 w fun x28=>
 LOOPI [6,29] [(u5 6),(iV 0)] w fun u8 w next8=>
 rC (u8 29) x28 w fun x30=>
 BR x30
 (rX 133 x27 (u8 29) w fun x31=>
 rL 138 x31 w fun x32=>
 oP (Instr.alloc 138 true (.tuple #[])) w fun x10 w=>
 oS 138 x10 x32 w fun w=>
 (fun w=>rL 138 x8 w fun x33=>
 rL 138 x10 w fun x34=>
 cL 107 [x33,x34] w fun x35 w=>
 BR x35
 (rF 138 x8 0 w fun x38=>
 rL 3 x38 w fun x39=>
 rX 33 x16 x39 w fun x40=>
 rL 3 x40 w fun x41=>
 rF 138 x10 0 w fun x43=>
 rL 3 x43 w fun x44=>
 rX 33 x16 x44 w fun x45=>
 rL 3 x45 w fun x46=>
 cL 108 [x41,x46,x17] w fun x48 w=>
 BR x48
 (rL 138 x8 w fun x51=>
 rL 138 x10 w fun x52=>
 cL 109 [x51,x52] w fun x53 w=>
 oP (Instr.buildSlice 39 1 #[(0,x53)]) w fun x54 w=>
 oP (Builtin.append_ #[39,39] 39 [(u8 6),x54].toArray) w fun x55 w=>
 rA (u8 29) (iV 1) w fun x56=>
 next8 [x55,x56] w)
 (rA (u8 29) (iV 1) w fun x56=>
 next8 [(u8 6),x56] w))
 (rA (u8 29) (iV 1) w fun x56=>
 next8 [(u8 6),x56] w)) (World.drew1 w))
 (rA (u5 20) (iV 1) w fun x57=>
 next5 [(u8 6),x57] w))
 (cL 85 [(u5 6)] w fun x59 w=>
 R x59 w)
def cfg47:Cfg:=⟨extL,[],[(5,288230376150664640,[6,20]),(8,144115187538986048,[6,29])],[(10,[0,1,2,3,4,5,6,7,8,9,10,11,12,13,14,15,16],0)],[],[],[]⟩
theorem F47_call {a0:Value} {w:World} {R:VW} (h:F47 a0 w R):cL 47 [a0] w R:=co (g:=cfg47) Tryz.func47 (by kernel_rfl) (by kernel_rfl) (by kernel_rfl) h
open Rep (rep)
theorem zpc {w W0:World} {b:Nat} {c:DCode} (hW:WAt W0 b c) (e0:Ext W0 w) (hc:CodeR c) :
   CALL Tryz.prog 47 [.pointer (some ⟨b,0,none⟩)] w fun r w'=>Ext w w'∧Own w.heap.size w' r (zjg (zgR c (zfo c) (zfo c).length)):=by
 refine F47_call ?_
 unfold F47
 refine (zl7 hW e0 hc).mono ?_
 rintro v12 w1 ⟨hx1,ho1⟩
 refine (zl6 hW (e0.trans hx1) hc).mono ?_
 rintro _ wb ⟨hx2,v16,rfl,ho2⟩
 refine zbl rfl ?_
 refine zbl rfl ?_
 have hx1b:=hx1.trans hx2
 have hTb:=ho1.is.ext hx2
 have hRb:=ho2.is
 have hTl:=zpa hc
 have hTm:=fun x (hx:x∈zfo c)=>zpb hc hx
 generalize zfo c=T at *
 have hs1b:=hx1b.size
 have hsg:=zo6 hc
 refine zaf zpA hTb ?_
 refine zaE T.length (fun k us w'=>∃ out lo hi,us=[out,.int .i64 (k:Int)]∧k≤T.length∧Ext wb w'∧wb.heap.size≤lo∧hi≤w'.heap.size∧RowI lo hi 58 w' out (zgR c T k)) 0 (Nat.zero_le _) ⟨_,wb.heap.size,wb.heap.size,rfl,Nat.zero_le _,Ext.refl _,Nat.le_refl _,Nat.le_refl _,zb2 _ _ _ _⟩ ?_
 rintro i mk u w3 hkm ⟨out,lo0,hi0,hu,hkl,hx3,hlo0,hhi0,hr3⟩
 obtain ⟨hu1,hu2⟩:=zey hu
 rw [hu1,hu2]
 refine zal ?_
 have hall:=znG (c:=c) hTl (n:=i) (by omega)
 refine br (fun hlt=>?_) (fun hge=>?_)
 case refine_2=>
   have hke:i=T.length:=by omega
   rw [hke] at hr3 hall
   refine (zko hr3.is (Ext.refl _) (by omega)).mono ?_
   rintro r w4 ⟨hx4,ho4⟩
   exact ⟨hx1b.trans (hx3.trans hx4),ho4.mono (by have:=hx3.size;omega)⟩
 have hi:i<T.length:=by omega
 have hrow:=zf5 (c:=c) hi
 have hsuc:=zl8 c T i
 obtain ⟨pa,hpa⟩:=hTm T[i] (List.getElem_mem _)
 refine zad zpA zen (i:=i) hTb hi fun b4 o4 hA4=>?_
 generalize hae:T[i]=a at *
 refine zab zen hA4 hx3 fun v24 h24=>?_
 refine zbB zri rfl zen rfl h24 hx3 fun w4 hx4 hAa hVa=>?_
 have hAB4:=zeA h24 hVa rfl
 have hgl:w3.heap.size<w4.heap.size:=hVa.lt
 have hs4:=hx4.size
 refine zeV (i:=(i:Int)) zpA zen hTb (by omega) (by simp;omega) fun v27 h27=>?_
 rw [Int.toNat_natCast] at h27
 have hDl:(T.drop i).length=T.length-i:=List.length_drop
 have hDm:∀ x∈T.drop i,∃ p,TouR c x p:=fun x hx=>hTm x (List.mem_of_mem_drop hx)
 generalize T.drop i=D at *
 refine zaf zpA h27 ?_
 refine zaE D.length (fun j us w'=>∃ out lo hi,us=[out,.int .i64 (j:Int)]∧j≤D.length∧Ext wb w'∧w4.heap.size≤w'.heap.size∧AtB wb w' w3.heap.size 0 a∧wb.heap.size≤lo∧hi≤w'.heap.size∧(w3.heap.size<lo∨hi≤w3.heap.size)∧RowI lo hi 58 w' out (zgR c T i++(D.take j).flatMap (rc1 c a))) 0 (Nat.zero_le _) ⟨out,lo0,hi0,rfl,Nat.zero_le _,hx3.trans hx4,Nat.le_refl _,hAB4,hlo0,by omega,.inr hhi0,by simpa using hr3.ext hx4⟩ ?_
 rintro j mj u5 w5 hjm ⟨out5,lo,hi5,hu5,hjl,hx5,hs5,hAB5,hlo,hhi,hd,hr5⟩
 obtain ⟨hu51,hu52⟩:=zey hu5
 rw [hu51,hu52]
 refine zal ?_
 refine br (fun hlt5=>?_) (fun hge5=>?_)
 case refine_2=>
   refine zag (by omega) ?_
   refine ⟨mk-1,by omega,i+1,by omega,out5,lo,hi5,rfl,by omega,hx5,hlo,hhi,?_⟩
   rw [List.take_of_length_le (by omega)] at hr5
   rw [hsuc,hrow];exact hr5
 have hj:j<D.length:=by omega
 have hfs:=zdY (f:=rc1 c a) hj
 have hrl:=znE c a (D.take j)
 have htl:=List.length_take_le' j D
 obtain ⟨pb,hpb⟩:=hDm D[j] (List.getElem_mem _)
 refine zad zpA zen (i:=j) h27 hj fun b6 o6 hA6=>?_
 generalize hbe:D[j]=bb at *
 refine zab zen hA6 hx5 fun v32 h32=>?_
 refine zbB zri rfl zen rfl h32 hx5 fun w6 hx6 hAb hVb=>?_
 have hxd:=zao w6
 have hx56:=hx6.trans hxd
 have hAbd:=hAb.ext hxd
 generalize World.drew1 w6=w7 at *
 have hAB7:=hAB5.ext hx56
 have hx7:=hx5.trans hx56
 have hAa7:=hAB7.at hx7
 have hr7:=hr5.ext hx56
 have hs57:=hx56.size
 refine zab zen hAa7 (Ext.refl _) fun v33 h33=>?_
 refine zab zen hAbd (Ext.refl _) fun v34 h34=>?_
 refine (zo1 h33 (Ext.refl _) h34 (Ext.refl _)).mono ?_
 rintro _ w8 ⟨hx8,rfl⟩
 have hs78:=hx8.size
 have hno:∀ {w9:World},Ext w7 w9→¬(zcS a bb∧zpR c (zap c a.at_).toNat (zap c bb.at_).toNat)→RD Tryz.prog (bin .add 3 (.tmp 0) (.const undef) (.int .i64 (j:Int)) (.int .i64 1)) w9 fun x56=>∃ m',m'<mj∧∃ k',k'+m'=D.length∧∃ out lo hi,[out5,x56]=[out,.int .i64 (k':Int)]∧k'≤D.length∧Ext wb w9∧w4.heap.size≤w9.heap.size∧AtB wb w9 w3.heap.size 0 a∧wb.heap.size≤lo∧hi≤w9.heap.size∧(w3.heap.size<lo∨hi≤w3.heap.size)∧RowI lo hi 58 w9 out (zgR c T i++(D.take k').flatMap (rc1 c a)):=fun hx9 hn=>by
   have:=hx9.size
   refine zag (by omega) ?_
   refine ⟨mj-1,by omega,j+1,by omega,out5,lo,hi5,rfl,by omega,hx7.trans hx9,by omega,hAB7.ext hx9,hlo,by omega,hd,?_⟩
   rw [hfs]
   have:rc1 c a bb=[]:=by unfold rc1;rw [if_neg hn]
   rw [this,List.append_nil]
   exact hr7.ext hx9
 refine br (fun hcl=>?_) (fun hcl=>?_)
 case refine_2=>exact hno hx8 fun h=>hcl h.1
 have hRl:∀ i,i<c.ins.length→i<(zaZ ((List.range c.ins.length).map (rtN c))).length:=fun i hi=>by simp [zaZ];exact hi
 have hRg:∀ i (hi:i<(zaZ ((List.range c.ins.length).map (rtN c))).length),(zaZ ((List.range c.ins.length).map (rtN c)))[i]=((rtN c i:Nat):Int):=fun i hi=>by simp [zaZ]
 have hx8b:=hx7.trans hx8
 have hAa8:=hAa7
 refine zaa zfq ?_
 refine zac ty3 (zbU hAa7) hx8 fun _=>?_
 rw [hpa.at_]
 refine zad u33 ty3 (i:=pa) hRb (hRl pa hpa.lt) fun b9 o9 hA9=>?_
 rw [hRg] at hA9
 refine zac ty3 hA9 hx8b fun _=>?_
 refine zaa zfq ?_
 refine zac ty3 (zbU hAbd) hx8 fun _=>?_
 rw [hpb.at_]
 refine zad u33 ty3 (i:=pb) hRb (hRl pb hpb.lt) fun b10 o10 hA10=>?_
 rw [hRg] at hA10
 refine zac ty3 hA10 hx8b fun _=>?_
 refine (zo8 (znA hc pa) (znA hc pb) hsg).mono ?_
 rintro _ w9 ⟨hx9,x,rfl,hx⟩
 rw [znH hc hpa.met hpb.met] at hx
 have hpa':zap c a.at_=zap c pa:=by rw [hpa.at_]
 have hpb':zap c bb.at_=zap c pb:=by rw [hpb.at_]
 have hx79:=hx8.trans hx9
 refine zbQ (fun hxt=>?_) (fun hxf=>?_)
 case refine_2=>
   refine hno hx79 fun h=>?_
   have:=hx.2 (by rw [←hpa',←hpb'];exact h.2)
   rw [this] at hxf;cases hxf
 have hB:zpR c (zap c a.at_).toNat (zap c bb.at_).toNat:=by rw [hpa',hpb'];exact hx.1 hxt
 refine zab zen hAa7 hx79 fun v51 h51=>?_
 refine zab zen hAbd hx79 fun v52 h52=>?_
 refine (znv h51 hx79 h52 hx79).mono ?_
 rintro v53 w10 ⟨hx10,ho10⟩
 have hx710:=hx79.trans hx10
 have hs710:=hx710.size
 refine zgC (x:=zdH a bb) u39 zfQ z58 zsd (by decide) (hr7.ext hx710) (ho10 0 0) (by rw [zak,List.length_append];omega) (by rw [List.length_append];omega) fun v55 w11 lo' hi' hc11 hr11 hd11=>?_
 have hs11:=hc11.size
 have hsb:=hx7.size
 refine zag (by omega) ?_
 refine ⟨mj-1,by omega,j+1,by omega,v55,lo',hi',rfl,by omega,(hx7.trans hx710).chgI hc11 hlo,by omega,(hAB7.ext hx710).keep (hc11.block _ (by omega) hd),by omega,by omega,by omega,?_⟩
 rw [hfs]
 have:rc1 c a bb=[zdH a bb]:=by unfold rc1;rw [if_pos ⟨hcl,hB⟩]
 rw [this,←List.append_assoc]
 exact hr11
def F11 (a0:Value) (w:World) (R:VW):Prop:=
 oP (Instr.box 36 a0) w fun x1 w=>
 rL 36 x1 w fun x6=>
 cL 46 [x6] w fun x7 w=>
 rE x7 0 w fun x8=>
 rE x7 1 w fun x9=>
 rD (Op.unary .not x9) w fun x11=>
 BR x11
 (R (Value.slice none 0 0) w)
 (cL 47 [x8] w fun x13 w=>
 R x13 w)
def cfg11:Cfg:=⟨extL,[],[],[],[],[],[]⟩
theorem F11_call {a0:Value} {w:World} {R:VW} (h:F11 a0 w R):cL 11 [a0] w R:=co (g:=cfg11) Tryz.func11 (by kernel_rfl) (by kernel_rfl) (by kernel_rfl) h
open Rep (rep)
open Classical in
noncomputable def zdg (c:DCode):List DRace:=if CodeR c then zjg (zgR c (zfo c) (zfo c).length) else []
theorem zet {w W0:World} {v0:Value} {c:DCode} (h0:Is W0 v0 c) (e0:Ext W0 w) :
   CALL Tryz.prog 11 [v0] w fun r w'=>Ext w w'∧Own w.heap.size w' r (zdg c):=by
 refine F11_call ?_
 unfold F11
 refine zdE h0 e0 fun w1 hx1 hA=>?_
 refine zab zfm hA (Ext.refl _) fun v6 h6=>?_
 refine (zl0 h6 (Ext.refl _)).mono ?_
 rintro r7 w2 ⟨hx2,hr⟩
 have hs1:=hx1.size
 have hs2:=hx2.size
 rcases hr with ⟨hn,rfl⟩ | ⟨hc,b,rfl,hW⟩
 · refine zbl rfl ?_
   refine zbl rfl ?_
   refine zaO ?_
   refine zbQ (fun _=>?_) (fun h=>by cases h)
   refine ⟨hx1.trans hx2,?_⟩
   unfold zdg;rw [if_neg hn]
   exact zgf rfl
 refine zbl rfl ?_
 refine zbl rfl ?_
 refine zaO ?_
 refine zbQ (fun h=>by cases h) (fun _=>?_)
 refine (zpc hW (Ext.refl _) hc).mono ?_
 rintro v13 w3 ⟨hx3,ho3⟩
 refine ⟨hx1.trans (hx2.trans hx3),?_⟩
 unfold zdg;rw [if_pos hc]
 exact ho3.mono (by omega)
end Go.Proofs.YtcnglfeoglgebaaGreat
