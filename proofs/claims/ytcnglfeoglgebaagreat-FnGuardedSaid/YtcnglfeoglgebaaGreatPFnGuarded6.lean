/-
  The law FnGuarded of the given program returns true for every input, and its arguments read afterwards as before: the given statement Rows.FnGuardedSaid.
-/
import Derived.Test.YtcnglfeoglgebaaGreatPFnGuarded5
set_option linter.unusedVariables false
set_option linter.unusedSimpArgs false
set_option linter.unusedSectionVars false
namespace Go.Proofs.YtcnglfeoglgebaaGreat
open Go Go.Sh Go.Proofs
open Rep (rep)
def F43 (a0:Value) (w:World) (R:VW):Prop:=
 rB .eql 24 T0 U0 a0 (Value.slice none 0 0) w fun x4=>
 BR x4
 (R (Value.slice none 0 0) w)
 (oP (Instr.buildSlice 24 0 #[]) w fun x5 w=>
 oP (Builtin.append_ #[24,24] 24 [x5,a0].toArray) w fun x7 w=>
 R x7 w)
def cfg43:Cfg:=⟨extL,[],[],[],[],[],[]⟩
theorem F43_call {a0:Value} {w:World} {R:VW} (h:F43 a0 w R):cL 43 [a0] w R:=co (g:=cfg43) Tryz.func43 (by kernel_rfl) (by kernel_rfl) (by kernel_rfl) h
def F10 (a0:Value) (w:World) (R:VW):Prop:=
 oP (Instr.box 27 a0) w fun x1 w=>
 oP (Instr.alloc 36 true (.tuple #[])) w fun x2 w=>
 rL 27 x1 w fun x7=>
 cL 42 [x7] w fun x8 w=>
 rB .neq 3 T0 U0 x8 (iV 0) w fun x9=>
 BR x9
 (rD (Instr.build 36 #[]) w fun x10=>
 oS 36 x2 x10 w fun w=>
 rD (zbG 36 x2) w fun r2=>R (Value.tuple #[r2,(Value.bool false)]) w)
 ((fun w0=>PAR w0 [[(0,11)],[(1,12),(0,11)],[(2,13),(1,12)],[(3,14)],[(4,15),(3,14)],[(5,16),(4,15),(2,13)],[(6,17)],[(7,18),(6,17),(5,16)],[(8,19),(2,13),(5,16),(7,18)],[(9,4)]] (fun Q=>
 (∀ (u3:Env) (T:Nat→Nat×Nat) (w:World),Ext w0 w→zau [] w0.heap.size w.heap.size T→(True)→(fun w1=>rF 27 x1 0 w fun x11=>
 Ext w1 w∧Q 0 (upd u3 11 x11) (za3 T 0 (w1.heap.size,w.heap.size)) w) w) ∧
 (∀ (u3:Env) (T:Nat→Nat×Nat) (w:World),Ext w0 w→zau [0] w0.heap.size w.heap.size T→(Q 0 u3 T w∧True)→(fun w1=>rL 24 (u3 11) w fun x12=>
 Ext w1 w∧Q 1 (upd u3 12 x12) (za3 T 1 (w1.heap.size,w.heap.size)) w) w) ∧
 (∀ (u3:Env) (T:Nat→Nat×Nat) (w:World),Ext w0 w→zau [1] w0.heap.size w.heap.size T→(Q 1 u3 T w∧True)→(fun w1=>cL 43 [(u3 12)] w fun x13 w=>
 Ext w1 w∧Q 2 (upd u3 13 x13) (za3 T 2 (w1.heap.size,w.heap.size)) w) w) ∧
 (∀ (u3:Env) (T:Nat→Nat×Nat) (w:World),Ext w0 w→zau [] w0.heap.size w.heap.size T→(True)→(fun w1=>rF 27 x1 1 w fun x14=>
 Ext w1 w∧Q 3 (upd u3 14 x14) (za3 T 3 (w1.heap.size,w.heap.size)) w) w) ∧
 (∀ (u3:Env) (T:Nat→Nat×Nat) (w:World),Ext w0 w→zau [3] w0.heap.size w.heap.size T→(Q 3 u3 T w∧True)→(fun w1=>rL 24 (u3 14) w fun x15=>
 Ext w1 w∧Q 4 (upd u3 15 x15) (za3 T 4 (w1.heap.size,w.heap.size)) w) w) ∧
 (∀ (u3:Env) (T:Nat→Nat×Nat) (w:World),Ext w0 w→zau [4,2] w0.heap.size w.heap.size T→(Q 4 u3 T w∧Q 2 u3 T w∧True)→(fun w1=>cL 43 [(u3 15)] w fun x16 w=>
 Ext w1 w∧Q 5 (upd u3 16 x16) (za3 T 5 (w1.heap.size,w.heap.size)) w) w) ∧
 (∀ (u3:Env) (T:Nat→Nat×Nat) (w:World),Ext w0 w→zau [] w0.heap.size w.heap.size T→(True)→(fun w1=>rL 27 x1 w fun x17=>
 Ext w1 w∧Q 6 (upd u3 17 x17) (za3 T 6 (w1.heap.size,w.heap.size)) w) w) ∧
 (∀ (u3:Env) (T:Nat→Nat×Nat) (w:World),Ext w0 w→zau [6,5] w0.heap.size w.heap.size T→(Q 6 u3 T w∧Q 5 u3 T w∧True)→(fun w1=>cL 44 [(u3 17)] w fun x18 w=>
 Ext w1 w∧Q 7 (upd u3 18 x18) (za3 T 7 (w1.heap.size,w.heap.size)) w) w) ∧
 (∀ (u3:Env) (T:Nat→Nat×Nat) (w:World),Ext w0 w→zau [2,5,7] w0.heap.size w.heap.size T→(Q 2 u3 T w∧Q 5 u3 T w∧Q 7 u3 T w∧True)→(fun w1=>rD (Instr.build 36 #[(0,(u3 13)),(1,(u3 16)),(2,(u3 18))]) w fun x19=>
 Ext w1 w∧Q 8 (upd u3 19 x19) (za3 T 8 (w1.heap.size,w.heap.size)) w) w) ∧
 (∀ (u3:Env) (T:Nat→Nat×Nat) (w:World),Ext w0 w→zau [] w0.heap.size w.heap.size T→(True)→(fun w1=>oP (Instr.alloc 36 true (.tuple #[])) w fun x4 w=>
 Ext w1 w∧Q 9 (upd u3 4 x4) (za3 T 9 (w1.heap.size,w.heap.size)) w) w) ∧
 True)
 (fun Q=>∀ (u3:Env) (T:Nat→Nat×Nat) (w:World),Ext w0 w→zau [0,1,2,3,4,5,6,7,8,9] w0.heap.size w.heap.size T→(Q 0 u3 T w∧Q 1 u3 T w∧Q 2 u3 T w∧Q 3 u3 T w∧Q 4 u3 T w∧Q 5 u3 T w∧Q 6 u3 T w∧Q 7 u3 T w∧Q 8 u3 T w∧Q 9 u3 T w∧True) →
 oS 36 (u3 4) (u3 19) w fun w=>
 rF 27 x1 2 w fun x20=>
 rL 25 x20 w fun x21=>
 rN 25 3 x21 w fun x22=>
 LOOPI [23] [(iV 0)] w fun u5 w next5=>
 rC (u5 23) x22 w fun x24=>
 BR x24
 (rX 25 x21 (u5 23) w fun x25=>
 rL 32 x25 w fun x26=>
 oP (Instr.alloc 32 true (.tuple #[])) w fun x6 w=>
 oS 32 x6 x26 w fun w=>
 rF 36 (u3 4) 3 w fun x27=>
 rL 33 x27 w fun x28=>
 rF 36 (u3 4) 4 w fun x29=>
 rL 34 x29 w fun x30=>
 rN 34 3 x30 w fun x31=>
 oP (Instr.buildSlice 33 1 #[(0,x31)]) w fun x32 w=>
 oP (Builtin.append_ #[33,33] 33 [x28,x32].toArray) w fun x33 w=>
 rF 36 (u3 4) 3 w fun x34=>
 oS 33 x34 x33 w fun w=>
 rF 32 x6 1 w fun x35=>
 rL 29 x35 w fun x36=>
 cL 45 [(u3 4),x36] w fun x37 w=>
 rF 36 (u3 4) 4 w fun x38=>
 rL 34 x38 w fun x39=>
 rD (Instr.build 84 #[(0,(iV 9))]) w fun x40=>
 oP (Instr.buildSlice 34 1 #[(0,x40)]) w fun x41 w=>
 oP (Builtin.append_ #[34,34] 34 [x39,x41].toArray) w fun x42 w=>
 rF 36 (u3 4) 4 w fun x43=>
 oS 34 x43 x42 w fun w=>
 rA (u5 23) (iV 1) w fun x44=>
 next5 [x44] w)
 (rL 36 (u3 4) w fun x45=>
 oS 36 x2 x45 w fun w=>
 rD (zbG 36 x2) w fun r2=>R (Value.tuple #[r2,(Value.bool true)]) w))) (World.drew1 w))
def cfg10:Cfg:=⟨extL,[],[(5,35184363700288,[23])],[],[(3,1046544,10)],[],[]⟩
theorem F10_call {a0:Value} {w:World} {R:VW} (h:F10 a0 w R):cL 10 [a0] w R:=co (g:=cfg10) Tryz.func10 (by kernel_rfl) (by kernel_rfl) (by kernel_rfl) h
open Rep (rep)
theorem zjB {w W:World} {v:Value} {l:List ByteArray} (h:Is W v l) (e:Ext W w) (hn:l.length≤1000000) :
   CALL Tryz.prog 43 [v] w fun r w'=>Ext w w'∧OwnI w.heap.size w'.heap.size w' r l:=by
 refine F43_call ?_
 unfold F43
 obtain ⟨a,cap,Fi,xs,rfl,h1,h2,h3,h4⟩:=zcf h
 refine zfM u24 ?_
 refine zbQ (fun hnil=>?_) (fun _=>?_)
 · have:l=[]:=by
     rcases h4 with h4 | ⟨b,o,rfl,_⟩
     · exact h4
     simp at hnil
   subst this
   exact ⟨Ext.refl w,(zgf rfl).toI⟩
 refine zcx (α:=ByteArray) u24 ty9 fun a1 w1 hx1 hr1=>?_
 refine zfu (α:=ByteArray) u24 ty9 zc9 h (e.trans hx1) (by rw [zak];omega) (by omega) fun v2 w2 hx2 hr2=>?_
 exact ⟨hx1.trans hx2,hr2.own.mono hx1.size (Nat.le_refl _)⟩
theorem zsa {W w:World} {b:Nat} {x:DProc} (h:AtB W w b 0 x):AtB W w b (0+1) x.body:=by
 obtain ⟨F,cs,hr,hc⟩:=h
 have h:AtB W w b 0 (x.name,x.body):=⟨F,cs,hr,hc⟩
 exact h.snd
theorem zn7 {P:Program} {t by_ b:Nat} {w:World} {cs:List Value} {K:Value→Prop} (ht:tyI P t=some (cs.length,by_,true)) (hr:w.rangeAt b 0 cs) (k:K (.agg cs.toArray)):RD P (Instr.loadAt t (.pointer (some ⟨b,0,none⟩))) w K:=by
 obtain ⟨i,d,hi,hd,hs,_,hg⟩:=zbj ht
 exact zaF (fun w' hx'=>run_loadAt_mid w' b 0 t cs d (za8 hr hx') hd hg (by simp [hi,hs])) k
def ciQ (p:DProg) (g1:Nat) (w0:World):ParQ:=fun i u T w=>match i with
 | 0=>u 11=.pointer (some ⟨g1,0+0,none⟩)
 | 1=>Is w0 (u 12) p.globals
 | 2=>OwnI (T 2).1 (T 2).2 w (u 13) p.globals
 | 3=>u 14=.pointer (some ⟨g1,0+1,none⟩)
 | 4=>Is w0 (u 15) p.locks
 | 5=>OwnI (T 5).1 (T 5).2 w (u 16) p.locks
 | 6=>Is w0 (u 17) p
 | 7=>OwnI (T 7).1 (T 7).2 w (u 18) (p.procs.map DProc.name)
 | 8=>u 19=.agg #[u 13,u 16,u 18,.slice none 0 0,.slice none 0 0]
 | 9=>∃ g,u 4=.pointer (some ⟨g,0,none⟩)∧(T 9).1≤g∧g<(T 9).2∧Blk g 36 w [.slice none 0 0,.slice none 0 0,.slice none 0 0,.slice none 0 0,.slice none 0 0]
 | _=>True
section
variable {W w w':World} {g bs:Nat} {c0 c1 c2 ve:Value} {G L P:List ByteArray} {I:List DIns} {F F':List Nat}
theorem CoF.turnV {ve':Value} {I':List DIns} {rv:Value} (h:CoF W g bs c0 c1 c2 ve G L P I F w) (hc:Chg (g :: F) w w') (hO:OAt F' w' g 0 (⟨⟨c0⟩,⟨c1⟩,⟨c2⟩,⟨ve'⟩,⟨rv,I'⟩⟩:DEc)) (hF:∀ c∈F',c∈F∨w.heap.size≤c):CoF W g bs c0 c1 c2 ve' G L P I' F' w':=by
 have hb:=h.Wb
 have h1:=h.gW
 have h2:=h.gb
 refine ⟨⟨rv,hO⟩,h.nm.keep fun b hb1 hb2 hb3=>hc.block b hb3 fun hm=>?_,h.old.chgL hc fun c hcm=>?_,h1,h2,Nat.le_trans hb hc.size,fun c hcm=>(hF c hcm).elim (h.Fb c) fun h=>by omega⟩
 · rcases List.mem_cons.1 hm with e | hm
   · exact hb2 e
   have:=h.Fb b hm;omega
 rcases List.mem_cons.1 hcm with rfl | hcm
 · exact h1
 have:=h.Fb c hcm;omega
theorem CoF.away {S:List Nat} (h:CoF W g bs c0 c1 c2 ve G L P I F w) (hc:Chg S w w') (hS:∀ c∈S,bs≤c∧c∉F):CoF W g bs c0 c1 c2 ve G L P I F w':=by
 obtain ⟨rv,hO⟩:=h.oat
 have hlt:=h.lt
 have h1:=h.gW
 have h2:=h.gb
 have hb:=h.Wb
 refine ⟨⟨rv,hO.keep fun c hcm=>hc.block c (hO.lts c hcm) fun hm=>?_⟩,h.nm.keep fun b hb1 hb2 hb3=>hc.block b hb3 fun hm=>?_,h.old.chgL hc fun c hcm=>?_,h1,h2,Nat.le_trans hb hc.size,h.Fb⟩
 · rcases List.mem_cons.1 hcm with rfl | hcm
   · have:=(hS _ hm).1;omega
   exact (hS c hm).2 hcm
 · have:=(hS b hm).1;omega
 have:=(hS c hcm).1;omega
theorem zpj {w2:World} {u:Value} {x:DIns} {lo hi:Nat} {K:World→Prop} (h:CoF W g bs c0 c1 c2 ve G L P I F w2) (o:OwnI lo hi w2 u x) (hlo:w2.heap.size≤lo)
   (hI:I.length≤1000000) {rv:Value} (hO:OAt F w2 g 0 (⟨⟨c0⟩,⟨c1⟩,⟨c2⟩,⟨ve⟩,⟨rv,I⟩⟩:DEc)) (k:∀ w4 F4,Chg (g :: F) w2 w4→CoF W g bs c0 c1 c2 ve G L P (I++[x]) F4 w4→(∀ c∈F4,c∈F∨w2.heap.size≤c)→K w4) :
   OP Tryz.prog (Instr.buildSlice 34 1 #[(0,u)]) w2 fun x49 w=>OP Tryz.prog (Builtin.append_ #[34,34] 34 [rv,x49].toArray) w fun x50 w'=>
     RD Tryz.prog (Instr.fieldAt 36 (.pointer (some ⟨g,0,none⟩)) 4) w' fun x52=>OPU Tryz.prog (Instr.storeAt 34 x52 x50) w' fun w=>K w:=
 OP.mono (zix h o hlo hI hO k) fun _ _ h=>OP.mono h fun _ _ ⟨_,h⟩=>h
theorem zpk {E:List Int} {Fe:List Nat} {K:World→Prop} (h:CoF W g bs c0 c1 c2 ve G L P I F w) (he:RowG Fe 3 w ve E) (hn:Fe.Nodup) (hd:∀ c∈Fe,bs≤c∧c∉F) (hI:I.length≤1000000) (hE:E.length≤1000000)
   (k:∀ ve' w' Fe' F',Chg (g :: (F++Fe)) w w'→CoF W g bs c0 c1 c2 ve' G L P I F' w'→RowG Fe' 3 w' ve' (E++[(I.length:Int)])→Fe'.Nodup→(∀ c∈Fe',bs≤c∧c∉F')→(∀ c∈Fe',c∈Fe∨w.heap.size≤c)→(∀ c∈F',c∈F)→K w') :
   RD Tryz.prog (Instr.fieldAt 36 (.pointer (some ⟨g,0,none⟩)) 3) w fun x27=>RD Tryz.prog (Instr.loadAt 33 x27) w fun x28=>RD Tryz.prog (Instr.fieldAt 36 (.pointer (some ⟨g,0,none⟩)) 4) w fun x29=>
     RD Tryz.prog (Instr.loadAt 34 x29) w fun x30=>RD Tryz.prog (Builtin.len_ #[34] 3 [x30].toArray) w fun x31=>OP Tryz.prog (Instr.buildSlice 33 1 #[(0,x31)]) w fun x32 w=>
     OP Tryz.prog (Builtin.append_ #[33,33] 33 [x28,x32].toArray) w fun x33 w=>RD Tryz.prog (Instr.fieldAt 36 (.pointer (some ⟨g,0,none⟩)) 3) w fun x34=>OPU Tryz.prog (Instr.storeAt 33 x34 x33) w fun w=>K w:=by
 obtain ⟨e1,e2,e3,e5⟩:=h.lt
 have hgb:=h.gb
 have hWb:=h.Wb
 obtain ⟨rv,hr,hi,hO⟩:=zfj h
 have hve:w.rangeAt g (0+3) [ve]:=by
   obtain ⟨G1,hL⟩:=zhF (Lens.var hO)
   obtain ⟨cs,⟨_,rfl,_⟩,hr,_⟩:=hL.here
   exact hr
 refine zaa zbJ ?_
 refine zcZ zeL hve ?_
 refine zaa zaK ?_
 refine zcZ zdG hr ?_
 refine zaf u34 hi ?_
 refine ze2 (β:=Int) (G:=Fe) (x:=(I.length:Int)) u33 ty3 z3 zc3 (by decide) he hn (zcR (by unfold I64;omega)) (by simp) (by rw [zak];omega) (by omega) (fun w4 v12 w5 Fe' hx4 hc5 hR5 hN5 hs5=>?_) fun s' w4 hx4 h=>h
 have hs4:=hx4.size
 have hs5':=hc5.size
 have h5:=(h.ext hx4).away hc5 hd
 obtain ⟨rv5,hO5⟩:=h5.oat
 obtain ⟨G3,hL3⟩:=zhF (Lens.var hO5)
 have hdn:∀ c∈Fe',bs≤c∧c∉F:=fun c hc=>by
   rcases hs5 c hc with h | h | h
   · exact hd c h
   · simp at h
   exact ⟨by omega,fun hm=>by have:=e2 c hm;omega⟩
 refine zaa zbJ ?_
 refine zhV (β:=Raw) (G':=[]) zeL hL3 (y':=⟨v12⟩) ⟨⟨[v12],⟨rfl,rfl,hR5.one⟩,rfl⟩,List.nodup_nil,Wr.nil _⟩ (by simp) fun w6 hc6 ⟨F',hO6,hF6⟩=>?_
 have hgF':g∉F':=by obtain ⟨_,_,_,_,_,hn,_⟩:=hO6;exact hn
 have hF:∀ c∈F',c∈F:=fun c hcm=>by
   rcases hF6 c hcm with h | h
   · rcases List.mem_cons.1 h with rfl | h
     · exact absurd hcm hgF'
     exact h
   simp at h
 have h6:=h5.turnV hc6 hO6 fun c hc=>.inl (hF c hc)
 refine k v12 w6 Fe' F' ((((hx4.chg Fe).trans hc5).mono fun c hc=>by simp [hc]).trans (hc6.mono fun c hc=>by rcases List.mem_cons.1 hc with rfl | hc<;>simp [*])) h6 (hR5.keep fun c hc=>hc6.block c (hR5.lt c hc) fun hm=>?_) hN5 (fun c hc=>⟨(hdn c hc).1,fun hm=>(hdn c hc).2 (hF c hm)⟩) (fun c hc=>?_) hF
 · rcases List.mem_cons.1 hm with rfl | hm
   · have:=(hdn c hc).1;omega
   exact (hdn c hc).2 hm
 rcases hs5 c hc with h | h | h
 · exact .inl h
 · simp at h
 exact .inr h
end
structure CiS (W:World) (p:DProg) (g bs x2 l0 h0 l1 h1 l2 h2:Nat) (c0 c1 c2 ve:Value) (E:List Int) (I:List DIns) (Fe F:List Nat) (w:World):Prop where
 co:CoF W g bs c0 c1 c2 ve p.globals p.locks (p.procs.map DProc.name) I F w
 e:RowG Fe 3 w ve E
 en:Fe.Nodup
 de:∀ c∈Fe,bs≤c∧c∉F
 o0:OwnI l0 h0 w c0 p.globals
 o1:OwnI l1 h1 w c1 p.locks
 o2:OwnI l2 h2 w c2 (p.procs.map DProc.name)
 x:Blk x2 36 w [.slice none 0 0,.slice none 0 0,.slice none 0 0,.slice none 0 0,.slice none 0 0]
section
variable {W:World} {p:DProg} {g bs x2 l0 h0 l1 h1 l2 h2:Nat} {c0 c1 c2 ve:Value} {E:List Int} {I:List DIns} {Fe F:List Nat} {w w':World}
theorem CiS.ext (h:CiS W p g bs x2 l0 h0 l1 h1 l2 h2 c0 c1 c2 ve E I Fe F w) (hx:Ext w w'):CiS W p g bs x2 l0 h0 l1 h1 l2 h2 c0 c1 c2 ve E I Fe F w':=
 ⟨h.co.ext hx,h.e.keep fun c hc=>hx.heap (h.e.lt c hc),h.en,h.de,h.o0.ext hx,h.o1.ext hx,h.o2.ext hx,h.x.ext hx⟩
theorem CiS.go {ve':Value} {E':List Int} {I':List DIns} {Fe' F':List Nat} {S:List Nat} (h:CiS W p g bs x2 l0 h0 l1 h1 l2 h2 c0 c1 c2 ve E I Fe F w) (ho:h0≤bs∧h1≤bs∧h2≤bs∧(g<l0∨h0≤g)∧(g<l1∨h1≤g)∧(g<l2∨h2≤g)∧x2<bs∧x2≠g)
   (hc:Chg (g :: S) w w') (hS:∀ c∈S,bs≤c) (hE:CoF W g bs c0 c1 c2 ve' p.globals p.locks (p.procs.map DProc.name) I' F' w') (he:RowG Fe' 3 w' ve' E') (hn:Fe'.Nodup) (hd:∀ c∈Fe',bs≤c∧c∉F'):CiS W p g bs x2 l0 h0 l1 h1 l2 h2 c0 c1 c2 ve' E' I' Fe' F' w':=by
 have hS':∀ c∈g :: S,c=g∨bs≤c:=fun c hc=>by
   rcases List.mem_cons.1 hc with e | hc
   · exact .inl e
   exact .inr (hS c hc)
 exact ⟨hE,he,hn,hd,zfJ h.o0 hc fun c hcm=>by have:=hS' c hcm;omega,zfJ h.o1 hc fun c hcm=>by have:=hS' c hcm;omega,zfJ h.o2 hc fun c hcm=>by have:=hS' c hcm;omega,h.x.chg hc fun hm=>by have:=hS' _ hm;omega⟩
end
theorem zfl {w W:World} {v:Value} {p:DProg} (h:Is W v p) (e:Ext W w) (hp:ProgR p) :
   CALL Tryz.prog 10 [v] w fun r w'=>Ext w w'∧∃ a,r=.tuple #[a,.bool true]∧OwnI w.heap.size w'.heap.size w' a (zbu p):=by
 have hcl:=(zhE hp).2
 obtain ⟨f1,f2,f3,f4⟩:=hp.facts
 refine F10_call ?_
 unfold F10
 refine zdE h e fun w1 hx1 hA=>?_
 have hs1:=hx1.size
 refine zcm zrN fun w2 hx2 hB2=>?_
 have hs2:=hx2.size
 have hg2:=hB2.lt
 refine zab zow hA hx2 fun v7 h7=>?_
 refine (zfT h7 hx2 hp).mono ?_
 rintro _ w3 ⟨hx3,rfl⟩
 have hs3:=hx3.size
 refine zaT ?_
 refine br (fun hc=>absurd rfl hc) (fun _=>?_)
 have hx13:=hx2.trans hx3
 have hx4:=zao w3
 have hs4:=hx4.size
 generalize World.drew1 w3=w4 at *
 have hx14:=hx13.trans hx4
 have hg1:w.heap.size<w1.heap.size:=by
   obtain ⟨F,cs,hr,hr2⟩:=hA
   exact zd5 hr2 (by rw [Rep.len hr];decide)
 refine PAR.mk (ciQ p w.heap.size w4) ?_ ?_ ?_
 · intro i u u' T T' wa wb hxa hxb hd hq
   match i,hd,hq with
   | 0,hd,hq=>exact (hd (0,11) (by decide)).1.trans hq
   | 1,hd,hq=>have:=(hd (1,12) (by decide)).1;show Is _ (u' 12) _;simp only [this];exact hq
   | 2,hd,hq=>
     obtain ⟨e1,e2⟩:=hd (2,13) (by decide)
     simp only at e1 e2
     show OwnI (T' 2).1 (T' 2).2 wb (u' 13) p.globals
     rw [e1,e2];exact OwnI.ext hq hxb
   | 3,hd,hq=>exact (hd (3,14) (by decide)).1.trans hq
   | 4,hd,hq=>have:=(hd (4,15) (by decide)).1;show Is _ (u' 15) _;simp only [this];exact hq
   | 5,hd,hq=>
     obtain ⟨e1,e2⟩:=hd (5,16) (by decide)
     simp only at e1 e2
     show OwnI (T' 5).1 (T' 5).2 wb (u' 16) p.locks
     rw [e1,e2];exact OwnI.ext hq hxb
   | 6,hd,hq=>have:=(hd (6,17) (by decide)).1;show Is _ (u' 17) _;simp only [this];exact hq
   | 7,hd,hq=>
     obtain ⟨e1,e2⟩:=hd (7,18) (by decide)
     simp only at e1 e2
     show OwnI (T' 7).1 (T' 7).2 wb (u' 18) (p.procs.map DProc.name)
     rw [e1,e2];exact OwnI.ext hq hxb
   | 8,hd,hq=>
     have e1:=(hd (8,19) (by decide)).1
     have e2:=(hd (2,13) (by decide)).1
     have e3:=(hd (5,16) (by decide)).1
     have e4:=(hd (7,18) (by decide)).1
     simp only at e1 e2 e3 e4
     show u' 19=.agg #[u' 13,u' 16,u' 18,.slice none 0 0,.slice none 0 0]
     rw [e1,e2,e3,e4];exact hq
   | 9,hd,⟨g,q1,q2,q3,q4⟩=>
     obtain ⟨e1,e2⟩:=hd (9,4) (by decide)
     simp only at e1 e2
     exact ⟨g,e1.trans q1,by rw [e2];exact q2,by rw [e2];exact q3,q4.ext hxb⟩
   | n+10,_,_=>trivial
 · have glen:p.globals.length≤1000000:=by rcases hp.g with e | e<;>(rw [e];decide)
   have llen:p.locks.length≤1000000:=by rcases hp.l with e | e | e<;>(rw [e];decide)
   refine ⟨fun u T w' hx _ _=>?_,fun u T w' hx _ hp'=>?_,fun u T w' hx _ hp'=>?_,fun u T w' hx _ _=>?_,fun u T w' hx _ hp'=>?_,fun u T w' hx _ hp'=>?_,fun u T w' hx _ _=>?_,fun u T w' hx _ hp'=>?_,fun u T w' hx _ hp'=>?_,fun u T w' hx _ _=>?_,trivial⟩
   · exact zaa ziH ⟨Ext.refl _,rfl⟩
   · have q0:u 11=_:=hp'.1
     rw [q0]
     exact zab zdQ (zdi hA) (hx14.trans hx) fun v6 h6=>⟨Ext.refl _,h6.ext hx14⟩
   · have q1:Is _ (u 12) p.globals:=hp'.1
     exact (zjB q1 hx glen).mono fun r w5 ⟨hx5,o5⟩=>⟨hx5,o5⟩
   · exact zaa zkP ⟨Ext.refl _,rfl⟩
   · have q0:u 14=_:=hp'.1
     rw [q0]
     exact zab zdQ (zej hA) (hx14.trans hx) fun v6 h6=>⟨Ext.refl _,h6.ext hx14⟩
   · have q1:Is _ (u 15) p.locks:=hp'.1
     exact (zjB q1 hx llen).mono fun r w5 ⟨hx5,o5⟩=>⟨hx5,o5⟩
   · exact zab zow hA (hx14.trans hx) fun v6 h6=>⟨Ext.refl _,h6.ext hx14⟩
   · have q1:Is _ (u 17) p:=hp'.1
     exact (zd1 q1 hx (by omega)).mono fun r w5 ⟨hx5,o5⟩=>⟨hx5,o5.toI⟩
   · have o1:OwnI _ _ _ (u 13) p.globals:=hp'.1
     have o2:OwnI _ _ _ (u 16) p.locks:=hp'.2.1
     have o3:OwnI _ _ _ (u 18) (p.procs.map DProc.name):=hp'.2.2.1
     obtain ⟨a,n,cap,q1⟩:=ze1 o1
     obtain ⟨a',n',cap',q1'⟩:=ze1 o2
     obtain ⟨a2,n2,cap2,q2⟩:=ze1 o3
     rw [q1,q1',q2]
     refine zaz (cells:=#[.slice a n cap,.slice a' n' cap',.slice a2 n2 cap2,.slice none 0 0,.slice none 0 0]) (by kernel_rfl) ⟨Ext.refl _,?_⟩
     show _=Value.agg #[u 13,u 16,u 18,.slice none 0 0,.slice none 0 0]
     rw [q1,q1',q2];rfl
   exact zcm zrN fun w5 hx5 hB=>⟨hx5,w'.heap.size,rfl,Nat.le_refl _,hB.lt,hB⟩
 rintro u T w5 hx5 hap ⟨-,-,o13,-,-,o16,-,o18,q19,⟨gk,q4,hgk0,hgk1,hB5⟩,-⟩
 have o13:OwnI (T 2).1 (T 2).2 w5 (u 13) p.globals:=o13
 have o16:OwnI (T 5).1 (T 5).2 w5 (u 16) p.locks:=o16
 have o18:OwnI (T 7).1 (T 7).2 w5 (u 18) (p.procs.map DProc.name):=o18
 have q19:u 19=.agg #[u 13,u 16,u 18,.slice none 0 0,.slice none 0 0]:=q19
 have t2:=hap.1 2 (by decide)
 have t5:=hap.1 5 (by decide)
 have t7:=hap.1 7 (by decide)
 have t9:=hap.1 9 (by decide)
 have d25:=hap.2 2 (by decide) 5 (by decide) (by decide)
 have d27:=hap.2 2 (by decide) 7 (by decide) (by decide)
 have d57:=hap.2 5 (by decide) 7 (by decide) (by decide)
 have d29:=hap.2 2 (by decide) 9 (by decide) (by decide)
 have d59:=hap.2 5 (by decide) 9 (by decide) (by decide)
 have d79:=hap.2 7 (by decide) 9 (by decide) (by decide)
 have hs5:=hx5.size
 obtain ⟨l0,hl0⟩:∃ x,(T 2).1=x:=⟨_,rfl⟩
 obtain ⟨h0,hh0⟩:∃ x,(T 2).2=x:=⟨_,rfl⟩
 obtain ⟨l1,hl1⟩:∃ x,(T 5).1=x:=⟨_,rfl⟩
 obtain ⟨h1,hh1⟩:∃ x,(T 5).2=x:=⟨_,rfl⟩
 obtain ⟨l2,hl2⟩:∃ x,(T 7).1=x:=⟨_,rfl⟩
 obtain ⟨h2,hh2⟩:∃ x,(T 7).2=x:=⟨_,rfl⟩
 rw [hl0,hh0] at o13 t2 d25 d27 d29
 rw [hl1,hh1] at o16 t5 d25 d57 d59
 rw [hl2,hh2] at o18 t7 d27 d57 d79
 generalize u 13=c0 at *
 generalize u 16=c1 at *
 generalize u 18=c2 at *
 rw [q19,q4]
 have one0:=ziv rfl o13
 have one1:=ziv rfl o16
 have one2:=ziv rfl o18
 refine ze0 (α:=Raw5) (x:=(⟨c0⟩,⟨c1⟩,⟨c2⟩,⟨.slice none 0 0⟩,⟨.slice none 0 0⟩)) (lo:=0) (hi:=0) zfm rfl hB5 rfl (zjv one0 one1 one2 rfl rfl) fun w6 hc6 hB6=>?_
 have hs6:=hc6.size
 have hx16:Ext w1 w6:=Ext.chgI (hx14.trans hx5) hc6 (by omega)
 have o0:=o13.chg hc6 (by omega)
 have o1:=o16.chg hc6 (by omega)
 have o2:=o18.chg hc6 (by omega)
 have hord:h0≤w6.heap.size∧h1≤w6.heap.size∧h2≤w6.heap.size∧(gk<l0∨h0≤gk)∧(gk<l1∨h1≤gk)∧(gk<l2∨h2≤gk)∧w1.heap.size<w6.heap.size∧w1.heap.size≠gk:=by omega
 have hdis:w1.heap.size<l0∧w1.heap.size<l1∧w1.heap.size<l2∧w.heap.size≤l0∧w.heap.size≤l1∧w.heap.size≤l2∧(h0≤l1∨h1≤l0)∧(h0≤l2∨h2≤l0)∧(h1≤l2∨h2≤l1):=by omega
 have hE6:CoF w1 gk w6.heap.size c0 c1 c2 (.slice none 0 0) p.globals p.locks (p.procs.map DProc.name) [] [] w6:=by
   refine ⟨⟨.slice none 0 0,[c0,c1,c2,.slice none 0 0,.slice none 0 0],?_,hB6.range,List.nodup_nil,Wr.nil _,by simp,_,_,hB6⟩,⟨?_,?_,?_⟩,hx16,by omega,by omega,Nat.le_refl _,by simp⟩
   · have r:∀ {v:Value},v.oneCell'=true→rep [] w6 [v] (⟨v⟩:Raw):=fun h=>⟨rfl,rfl,h⟩
     exact zaj (F:=[]) (r one0) (zaj (F:=[]) (r one1) (zaj (F:=[]) (r one2) (zaj (F:=[]) (r rfl) (show rep [] w6 [Value.slice none 0 0] (⟨.slice none 0 0,[]⟩:RIns) from ⟨rfl,.inl ⟨none,rfl,rfl,rfl⟩⟩))))
   · obtain ⟨F,hM,hF⟩:=o0
     exact ⟨F,hM,fun b hb=>by have:=hF b hb;omega⟩
   · obtain ⟨F,hM,hF⟩:=o1
     exact ⟨F,hM,fun b hb=>by have:=hF b hb;omega⟩
   obtain ⟨F,hM,hF⟩:=o2
   exact ⟨F,hM,fun b hb=>by have:=hF b hb;omega⟩
 have hS6:CiS w1 p gk w6.heap.size w1.heap.size l0 h0 l1 h1 l2 h2 c0 c1 c2 (.slice none 0 0) [] [] [] [] w6:=
   ⟨hE6,.inl ⟨none,rfl,rfl,rfl⟩,List.nodup_nil,by simp,o0,o1,o2,(((hB2.ext hx3).ext hx4).ext hx5).chgI hc6 (by omega)⟩
 refine zaa ziI ?_
 refine zab zrh (zdj hA) hx16 fun v21 h21=>?_
 refine zaf u25 h21 ?_
 have hgkW:w1.heap.size≤gk:=by omega
 have hww:w.heap.size≤w1.heap.size:=by omega
 clear hB5 hgk0 hgk1 d25 d27 d57 d29 d59 d79 t2 t5 t7 t9 hl0 hh0 hl1 hh1 hl2 hh2 hap q19 q4
 generalize hbs:w6.heap.size=bs at *
 obtain ⟨G,hG⟩:∃ G,G=p.globals:=⟨_,rfl⟩
 obtain ⟨Lk,hLk⟩:∃ G,G=p.locks:=⟨_,rfl⟩
 obtain ⟨Pn,hPn⟩:∃ G,G=p.procs.map DProc.name:=⟨_,rfl⟩
 have hcd:zbu p=⟨G,Lk,Pn,zjt G Lk Pn p.procs 0,emP G Lk Pn p.procs 0⟩:=by rw [hG,hLk,hPn];rfl
 refine zaE p.procs.length (fun k us w'=>us=[.int .i64 (k:Int)]∧∃ ve E I Fe F,k≤p.procs.length∧E.length=k∧CiS w1 p gk bs w1.heap.size l0 h0 l1 h1 l2 h2 c0 c1 c2 ve E I Fe F w' ∧
     zjt G Lk Pn p.procs 0=E++zjt G Lk Pn (p.procs.drop k) I.length∧emP G Lk Pn p.procs 0=I++emP G Lk Pn (p.procs.drop k) I.length) 0 (Nat.zero_le _)
     ⟨rfl,_,[],[],[],[],Nat.zero_le _,rfl,hS6,by simp,by simp⟩ ?_
 rintro k m uu w8 hkm ⟨hu,ve,E,I,Fe,F,hkl,hEl,hS8,hent,hem⟩
 simp only [List.map_cons,List.map_nil,List.cons.injEq,and_true] at hu
 rw [hu]
 have hx18:=hS8.co.old
 have hb8:=hS8.co.Wb
 refine zal ?_
 have hLl:I.length≤436:=by
   have h1:=congrArg List.length hem
   have h2:(zbu p).ins.length=(emP G Lk Pn p.procs 0).length:=by rw [hcd]
   rw [List.length_append] at h1
   omega
 refine br (fun hlt=>?_) (fun hge'=>?_)
 · have hk:k<p.procs.length:=by omega
   have hbody:=hp.b _ (List.getElem_mem hk)
   rw [zn1 hk] at hent
   rw [zpi hk] at hem
   refine zad u25 zkQ h21 hk fun b25 o25 hA25=>?_
   refine zab zkQ hA25 hx18 fun v26 h26=>?_
   refine zbB zq4 rfl zkQ rfl h26 hx18 fun w9 hx9 hA9 hV9=>?_
   have hs9:=hx9.size
   have hg9:=hV9.lt
   have hB9:=zeA h26 hV9 rfl
   have hS9:=hS8.ext hx9
   have hgk8:=hS8.co.lt.1
   have hde8:∀ c∈F,c<w8.heap.size:=hS8.co.lt.2.1
   have hee8:∀ c∈Fe,c<w8.heap.size:=fun c hc=>hS8.e.lt c hc
   refine zpk hS9.co hS9.e hS9.en hS9.de (by omega) (by omega) fun ve' w10 Fe' F' hc10 hE10 hR10 hN10 hd10 hn10 hF10=>?_
   have hs10:=hc10.size
   have hS10:=hS9.go hord hc10 (fun c hc=>by
     rcases List.mem_append.1 hc with h | h
     · exact hS9.co.Fb c h
     exact (hS9.de c h).1) hE10 hR10 hN10 hd10
   have hB10:=hB9.keep (hc10.block _ (by omega) fun hm=>by
     rcases List.mem_cons.1 hm with e | hm
     · omega
     rcases List.mem_append.1 hm with h | h
     · have:=hde8 _ h;omega
     have:=hee8 _ h;omega)
   refine zaa zmF ?_
   refine zb9 zfV (zsa hB10) hE10.old (Ext.refl _) fun v36 h36=>?_
   have hbl:=zfI G Lk Pn (p.procs[k]).body I.length
   refine (zg0 _ 2 _ hE10 h36 hbody.1 (by have:=hbody.2;omega)).mono ?_
   rintro r37 w11 ⟨hc11,F11,hE11,hF11⟩
   have hs11:=hc11.size
   have hFlt:=hE10.lt.2.1
   have hRlt:∀ c∈Fe',c<w10.heap.size:=fun c hc=>hR10.lt c hc
   have hd11:∀ c∈Fe',bs≤c∧c∉F11:=fun c hc=>⟨(hd10 c hc).1,fun hm=>(hF11 c hm).elim (hd10 c hc).2 fun h=>by have:=hRlt c hc;omega⟩
   have hgE:gk∉Fe':=fun hm=>by have:=(hd10 _ hm).1;have:=hE10.gb;omega
   have hR11:=hR10.keep fun c hc=>hc11.block c (hRlt c hc) fun hm=>by
     rcases List.mem_cons.1 hm with rfl | hm
     · exact hgE hc
     exact (hd10 c hc).2 hm
   have hS11:=hS10.go hord hc11 (fun c hc=>hE10.Fb c hc) hE11 hR11 hN10 hd11
   obtain ⟨rv11,hr11,hi11,hO11⟩:=zfj hE11
   refine zaa zaK ?_
   refine zcZ zdG hr11 ?_
   refine zgY (lo:=w11.heap.size) (hi:=w11.heap.size) (by unfold I64;omega) fun v40 o40=>?_
   have hlb:(I++emL p.globals p.locks (p.procs.map DProc.name) p.procs[k].body I.length).length≤1000000:=by
     rw [←hG,←hLk,←hPn,List.length_append];have:=hbody.2;omega
   refine zpj hE11 o40 (Nat.le_refl _) hlb hO11 fun w12 F12 hc12 hE12 hF12=>?_
   have hs12:=hc12.size
   have hR12:=hR11.keep fun c hc=>hc12.block c (by have:=hRlt c hc;omega) fun hm=>by
     rcases List.mem_cons.1 hm with rfl | hm
     · exact hgE hc
     exact (hd11 c hc).2 hm
   have hd12:∀ c∈Fe',bs≤c∧c∉F12:=fun c hc=>⟨(hd10 c hc).1,fun hm=>(hF12 c hm).elim (hd11 c hc).2 fun h=>by have:=hRlt c hc;omega⟩
   have hS12:=hS11.go hord hc12 (fun c hc=>hE11.Fb c hc) hE12 hR12 hN10 hd12
   rw [←hG,←hLk,←hPn] at hS12
   refine zag (by omega) ?_
   refine ⟨m-1,by omega,k+1,by omega,rfl,_,_,_,_,_,by omega,by simp [hEl],hS12,?_,?_⟩
   · rw [hent];simp [Nat.add_assoc]
   rw [hem];simp [Nat.add_assoc,zqM]
 have hk:k=p.procs.length:=by omega
 subst hk
 rw [List.drop_length,zjt,List.append_nil] at hent
 rw [List.drop_length,emP,List.append_nil] at hem
 obtain ⟨rv,hr8,hi8,hO8⟩:=zfj hS8.co
 obtain ⟨Gi,hLi⟩:=zdk (Lens.var hO8)
 obtain ⟨cs1,⟨rfl,hrow⟩,hr1,hnG,_,hg1,_⟩:=hLi.here
 have hrow:RowG Gi 84 w8 rv I:=hrow
 have hGi:∀ c∈Gi,c∈F:=fun c hc=>by
   rcases List.mem_cons.1 (hLi.sub c (by simp [hc])) with e | h
   · exact absurd (e▸hc) hg1
   exact h
 have hrng:w8.rangeAt gk 0 [c0,c1,c2,ve,rv]:=by
   obtain ⟨cs,hr,ha,_⟩:=hO8
   obtain ⟨F0,d0,F1,d1,F2,d2,F3,d3,F4,d4,rfl,rfl,⟨_,rfl,_⟩,⟨_,rfl,_⟩,⟨_,rfl,_⟩,⟨_,rfl,_⟩,⟨rfl,_⟩⟩:=zqQ hr
   exact ha
 refine zn7 (cs:=[c0,c1,c2,ve,rv]) zfm hrng ?_
 refine ze0 (α:=Raw5) (x:=(⟨c0⟩,⟨c1⟩,⟨c2⟩,⟨ve⟩,⟨rv⟩)) (lo:=0) (hi:=0) zfm rfl hS8.x rfl (zjv one0 one1 one2 hS8.e.one hrow.one) fun w10 hc10 hB10=>?_
 have hs10:=hc10.size
 refine zm4 hB10 zfm ?_
 have hxf:Ext w w10:=Ext.chgI (hx1.trans hx18) hc10 (by omega)
 refine ⟨hxf,_,rfl,?_⟩
 obtain ⟨F0,M0,B0⟩:=hS8.o0.chg hc10 (by omega)
 obtain ⟨F1,M1,B1⟩:=hS8.o1.chg hc10 (by omega)
 obtain ⟨F2,M2,B2⟩:=hS8.o2.chg hc10 (by omega)
 have keep:∀ c,bs≤c→c<w8.heap.size→w10.heap[c]?=w8.heap[c]?:=fun c h1 h2=>hc10.block c (by omega) (by omega)
 have hFb:=hS8.co.Fb
 have Me:=zjw (hS8.e.keep fun c hc=>keep c (hS8.de c hc).1 (hS8.e.lt c hc)) hS8.en
 have Mi:=zjw (hrow.keep fun c hc=>keep c (hFb c (hGi c hc)) (hrow.lt c hc)) hnG
 rw [hcd,hent,hem,hG,hLk,hPn]
 refine ⟨F0++(F1++(F2++(Fe++Gi))),⟨⟨[c0,c1,c2,ve,rv],zaj (zda rfl M0.own) (zaj (zda rfl M1.own) (zaj (zda rfl M2.own) (zaj (zda rfl Me.own) (zda rfl Mi.own)))),rfl⟩,?_,M0.wr.append (M1.wr.append (M2.wr.append (Me.wr.append Mi.wr)))⟩,fun c hc=>?_⟩
 · simp only [List.nodup_append,List.mem_append]
   refine ⟨M0.nodup,⟨M1.nodup,⟨M2.nodup,⟨hS8.en,hnG,fun a ha b hb e=>?_⟩,fun a ha b hb e=>?_⟩,fun a ha b hb e=>?_⟩,fun a ha b hb e=>?_⟩
   · exact (hS8.de a ha).2 (hGi a (e▸hb))
   · subst e
     have:=B2 a ha
     rcases hb with h | h
     · have:=(hS8.de a h).1;omega
     have:=hFb a (hGi a h);omega
   · subst e
     have:=B1 a ha
     rcases hb with h | h | h
     · have:=B2 a h;omega
     · have:=(hS8.de a h).1;omega
     have:=hFb a (hGi a h);omega
   subst e
   have:=B0 a ha
   rcases hb with h | h | h | h
   · have:=B1 a h;omega
   · have:=B2 a h;omega
   · have:=(hS8.de a h).1;omega
   have:=hFb a (hGi a h);omega
 simp only [List.mem_append] at hc
 rcases hc with h | h | h | h | h
 · have:=B0 c h;omega
 · have:=B1 c h;omega
 · have:=B2 c h;omega
 · have:=(hS8.de c h).1;have:=hS8.e.lt c h;omega
 have:=hFb c (hGi c h);have:=hrow.lt c h;omega
end Go.Proofs.YtcnglfeoglgebaaGreat
namespace Go.Sh
open Rep (rep)
section
variable {P:Program} {α β:Type} [Rep α] [Rep β] {w:World} {b o:Nat}
end
abbrev Raw8:=Raw×Raw×Raw×Raw×Raw×Raw×Raw×Raw
def c8 (x:Raw8):List Value:=[x.1.v,x.2.1.v,x.2.2.1.v,x.2.2.2.1.v,x.2.2.2.2.1.v,x.2.2.2.2.2.1.v,x.2.2.2.2.2.2.1.v,x.2.2.2.2.2.2.2.v]
def fl8:List Raw8→List Value
 | []=>[]
 | x :: l=>c8 x++fl8 l
theorem zly {F:List Nat} {w:World} {cs:List Value} {x:Raw8} (h:rep F w cs x):F=[]∧cs=c8 x:=by
 obtain ⟨F0,G0,d0,e0,rfl,rfl,⟨rfl,rfl,_⟩,F1,G1,d1,e1,rfl,rfl,⟨rfl,rfl,_⟩,F2,G2,d2,e2,rfl,rfl,⟨rfl,rfl,_⟩,F3,G3,d3,e3,rfl,rfl,⟨rfl,rfl,_⟩,
   F4,G4,d4,e4,rfl,rfl,⟨rfl,rfl,_⟩,F5,G5,d5,e5,rfl,rfl,⟨rfl,rfl,_⟩,F6,G6,d6,e6,rfl,rfl,⟨rfl,rfl,_⟩,⟨rfl,rfl,_⟩⟩:=h
 exact ⟨rfl,rfl⟩
theorem zhI {w:World}:∀ {l:List Raw8} {F:List Nat} {xs:List Value},Cells F w xs l→F=[]∧xs=fl8 l
 | [],_,_,⟨h1,h2⟩=>⟨h1,h2⟩
 | x :: l,_,_,⟨F1,F2,c1,c2,hF,hx,h1,h2⟩=>by
   obtain ⟨rfl,rfl⟩:=zly h1
   obtain ⟨rfl,rfl⟩:=zhI h2
   exact ⟨hF,hx⟩
theorem zn8 {w:World} {cs:List Value} (hl:cs.length=8) (ho:∀ v∈cs,v.oneCell'=true):∃ x:Raw8,c8 x=cs∧rep [] w cs x:=by
 match cs,hl with
 | [a,b,c,d,e,f,g,h],_=>
   have r:∀ {v:Value},v∈[a,b,c,d,e,f,g,h]→rep [] w [v] (⟨v⟩:Raw):=fun hm=>⟨rfl,rfl,ho _ hm⟩
   exact ⟨(⟨a⟩,⟨b⟩,⟨c⟩,⟨d⟩,⟨e⟩,⟨f⟩,⟨g⟩,⟨h⟩),rfl,zaj (F:=[]) (r (by simp)) (zaj (F:=[]) (r (by simp)) (zaj (F:=[]) (r (by simp)) (zaj (F:=[]) (r (by simp)) (zaj (F:=[]) (r (by simp)) (zaj (F:=[]) (r (by simp)) (zaj (F:=[]) (r (by simp)) (r (by simp))))))))⟩
end Go.Sh
namespace Go.Proofs.YtcnglfeoglgebaaGreat
open Go Go.Sh Go.Proofs
open Rep (rep)
def F9 (a0:Value) (w:World) (R:VW):Prop:=
 oP (Instr.buildSlice 29 0 #[]) w fun x6 w=>
 LOOPI [3,4] [x6,(iV 0)] w fun u3 w next3=>
 rN 29 3 a0 w fun x9=>
 rC (u3 4) x9 w fun x10=>
 BR x10
 (rX 29 a0 (u3 4) w fun x15=>
 rL 56 x15 w fun x16=>
 oP (Instr.alloc 56 true (.tuple #[])) w fun x5 w=>
 oS 56 x5 x16 w fun w=>
 JOIN [] (fun J8=>
 rF 56 x5 0 w fun x17=>
 rL 3 x17 w fun x18=>
 rB .eql 3 T0 U0 x18 (iV 5) w fun x19=>
 BR x19
 (rD (Instr.build 56 #[(0,(iV 8))]) w fun x20=>
 oS 56 x5 x20 w fun w=>
 J8 [] w)
 (J8 [] w)) (fun u8 w=>
 rF 56 x5 3 w fun x21=>
 rL 29 x21 w fun x22=>
 cL 9 [x22] w fun x23 w=>
 rF 56 x5 3 w fun x24=>
 oS 29 x24 x23 w fun w=>
 rF 56 x5 4 w fun x25=>
 rL 29 x25 w fun x26=>
 cL 9 [x26] w fun x27 w=>
 rF 56 x5 4 w fun x28=>
 oS 29 x28 x27 w fun w=>
 rL 56 x5 w fun x30=>
 oP (Instr.buildSlice 29 1 #[(0,x30)]) w fun x31 w=>
 oP (Builtin.append_ #[29,29] 29 [(u3 3),x31].toArray) w fun x32 w=>
 rA (u3 4) (iV 1) w fun x12=>
 next3 [x32,x12] w))
 (R (u3 3) w)
open Rep (rep)
def zom (s:Nat) (lk:Bool):List (Int×Int):=
 (5,1) :: (List.replicate s (8,0)++((6,0) :: (1,0) :: (7,0) :: (9,0) :: (List.replicate s (8,0)++(if lk then [(6,0),(1,0),(7,0),(9,0)] else [(1,0),(9,0)]))))
def opG (s:Nat) (lk:Bool) (i:Nat):Int×Int:=(zom s lk).getD i (0,0)
def q2 (s:Nat) (lk:Bool):Nat:=if lk then 2*s+6 else 2*s+5
def zrQ (s:Nat) (lk:Bool) (i:Nat):Bool:=
 (decide ((opG s lk i).1=5) == decide (i=0))&&(decide ((opG s lk i).1=6) == (decide (i=s+1) || (lk&&decide (i=2*s+5))))&&(decide ((opG s lk i).1=7) == (decide (i=s+3) || (lk&&decide (i=2*s+7)))) &&
   (decide ((opG s lk i).1=1) == (decide (i=s+2) || decide (i=q2 s lk)))&&(!decide (i<(zom s lk).length) || (decide ((opG s lk i).1=9) == (decide (i=s+4) || decide (i+1=(zom s lk).length)))) &&
   !decide ((opG s lk i).1=4)&&!decide ((opG s lk i).1=2)&&!decide ((opG s lk i).1=3)&&decide ((opG s lk i).2=if i=0 then 1 else 0)
theorem zpl:((List.range 4).all fun s=>(List.range 16).all fun i=>zrQ s true i&&zrQ s false i)=true:=by decide +kernel
theorem zn9 (s:Nat) (hs:s<4) (lk:Bool) (i:Nat) (hi:i<16):((opG s lk i).1=5↔i=0)∧((opG s lk i).1=6↔i=s+1∨(lk=true∧i=2*s+5))∧((opG s lk i).1=7↔i=s+3∨(lk=true∧i=2*s+7)) ∧
   ((opG s lk i).1=1↔i=s+2∨i=q2 s lk)∧(i<(zom s lk).length→((opG s lk i).1=9↔i=s+4∨i+1=(zom s lk).length))∧(opG s lk i).1≠4∧(opG s lk i).1≠2∧(opG s lk i).1≠3∧(opG s lk i).2=if i=0 then 1 else 0:=by
 have h1:=List.all_eq_true.1 (List.all_eq_true.1 zpl s (List.mem_range.2 hs)) i (List.mem_range.2 hi)
 have h:zrQ s lk i=true:=by
   simp only [Bool.and_eq_true] at h1
   cases lk
   · exact h1.2
   exact h1.1
 have eqB:∀ {p q:Prop} [Decidable p] [Decidable q],(decide p == decide q)=true→(p↔q):=fun {p q} _ _ h=>by
   by_cases hp:p<;>by_cases hq:q<;>simp_all
 simp only [zrQ,Bool.and_eq_true] at h
 obtain ⟨⟨⟨⟨⟨⟨⟨⟨a1,a2⟩,a3⟩,a4⟩,a5⟩,a6⟩,a7⟩,a8⟩,a9⟩:=h
 refine ⟨eqB a1,?_,?_,?_,fun hl=>?_,by simpa using a6,by simpa using a7,by simpa using a8,by simpa using a9⟩
 · simp only [beq_iff_eq] at a2
   constructor
   · intro e
     rw [decide_eq_true e] at a2
     simpa using a2.symm
   intro e
   have:(decide (i=s+1) || (lk&&decide (i=2*s+5)))=true:=by simpa using e
   rw [this] at a2
   exact of_decide_eq_true a2
 · simp only [beq_iff_eq] at a3
   constructor
   · intro e
     rw [decide_eq_true e] at a3
     simpa using a3.symm
   intro e
   have:(decide (i=s+3) || (lk&&decide (i=2*s+7)))=true:=by simpa using e
   rw [this] at a3
   exact of_decide_eq_true a3
 · simp only [beq_iff_eq] at a4
   constructor
   · intro e
     rw [decide_eq_true e] at a4
     simpa using a4.symm
   intro e
   have:(decide (i=s+2) || decide (i=q2 s lk))=true:=by simpa using e
   rw [this] at a4
   exact of_decide_eq_true a4
 rw [decide_eq_true hl] at a5
 simp only [Bool.not_true,Bool.false_or,beq_iff_eq] at a5
 constructor
 · intro e
   rw [decide_eq_true e] at a5
   simpa using a5.symm
 intro e
 have:(decide (i=s+4) || decide (i+1=(zom s lk).length))=true:=by simpa using e
 rw [this] at a5
 exact of_decide_eq_true a5
structure GuC (c:DCode) (s:Nat) (lk:Bool):Prop where
 r:CodeR c
 s4:s<4
 ins:c.ins.map (fun x=>(x.op,x.arg))=zom s lk
 ent:c.entry=[0,((s+5:Nat):Int)]
 prc:c.procs.length=2
 mn:zcd c=0
 gl:0<c.globals.length
section
variable {c:DCode} {s:Nat} {lk:Bool}
theorem zlz:(zom s lk).length=2*s+(if lk then 9 else 7):=by cases lk<;>simp [zom]<;>omega
theorem GuC.len (h:GuC c s lk):c.ins.length=(zom s lk).length:=by rw [←h.ins,List.length_map]
theorem GuC.lt (h:GuC c s lk) {i:Nat} (hi:i<c.ins.length):i<16:=by
 have h1:=h.len
 rw [zlz] at h1
 have:=h.s4
 cases lk<;>simp at h1<;>omega
theorem GuC.opat (h:GuC c s lk) {i:Nat} (hi:i<c.ins.length):(zah c i).op=(opG s lk i).1∧(zah c i).arg=(opG s lk i).2:=by
 have h1:opG s lk i=((zah c i).op,(zah c i).arg):=by
   unfold opG
   rw [←h.ins,List.getD_eq_getElem?_getD,List.getElem?_map,List.getElem?_eq_getElem hi,zaY hi]
   rfl
 rw [h1];exact ⟨rfl,rfl⟩
structure GuI (c:DCode) (s:Nat) (lk:Bool) (i:Nat):Prop where
 o5:(zah c i).op=5↔i=0
 o6:(zah c i).op=6↔i=s+1∨(lk=true∧i=2*s+5)
 o7:(zah c i).op=7↔i=s+3∨(lk=true∧i=2*s+7)
 o1:(zah c i).op=1↔i=s+2∨i=q2 s lk
 o9:(zah c i).op=9↔i=s+4∨i+1=c.ins.length
 n4:(zah c i).op≠4
 n2:(zah c i).op≠2
 n3:(zah c i).op≠3
 ar:(zah c i).arg=if i=0 then 1 else 0
theorem GuC.at_ (h:GuC c s lk) {i:Nat} (hi:i<c.ins.length):GuI c s lk i:=by
 obtain ⟨e1,e2⟩:=h.opat hi
 obtain ⟨h1,h2,h3,h4,h5,h6,h7,h8,h9⟩:=zn9 s h.s4 lk i (h.lt hi)
 have h5:=h5 (by rw [←h.len];exact hi)
 rw [←h.len] at h5
 refine ⟨?_,?_,?_,?_,?_,?_,?_,?_,?_⟩
 · rw [e1];exact h1
 · rw [e1];exact h2
 · rw [e1];exact h3
 · rw [e1];exact h4
 · rw [e1];exact h5
 · rw [e1];exact h6
 · rw [e1];exact h7
 · rw [e1];exact h8
 rw [e2];exact h9
theorem GuC.ag (h:GuC c s lk) {i:Nat} (hi:i<c.ins.length):agN c i=if i=0 then 1 else 0:=by
 unfold agN;rw [(h.at_ hi).ar];split<;>rfl
theorem GuC.big (h:GuC c s lk):s+4<c.ins.length∧q2 s lk<c.ins.length∧2*s+6<c.ins.length:=by
 have h1:=h.len
 rw [zlz] at h1
 unfold q2
 cases lk<;>simp at h1 ⊢<;>omega
theorem zkB {i:Nat} (hi:¬i<c.ins.length):zah c i=zsh:=by
 unfold zah;rw [List.getD_eq_getElem?_getD,List.getElem?_eq_none (by omega)];rfl
theorem GuC.no4 (h:GuC c s lk) (i:Nat):(zah c i).op≠4:=by
 by_cases hi:i<c.ins.length
 · exact (h.at_ hi).n4
 rw [zkB hi];decide
theorem GuC.nx (h:GuC c s lk) {i j:Nat} (hj:j∈zax c i):j=i+1∧(zah c i).op≠9:=by
 have h23:(zah c i).op≠3∧(zah c i).op≠2:=by
   by_cases hi:i<c.ins.length
   · exact ⟨(h.at_ hi).n3,(h.at_ hi).n2⟩
   rw [zkB hi];decide
 unfold zax at hj
 split at hj
 · cases hj
 rename_i h9
 rw [if_neg h23.1,if_neg (fun e=>h23.2 e.1)] at hj
 simp only [List.mem_cons,List.not_mem_nil,or_false] at hj
 exact ⟨hj,h9⟩
theorem GuC.mem (h:GuC c s lk) {i:Nat} (hi:i<c.ins.length) (h9:(zah c i).op≠9):i+1∈zax c i:=by
 unfold zax
 rw [if_neg h9,if_neg (h.at_ hi).n3,if_neg (fun e=>(h.at_ hi).n2 e.1)]
 simp
theorem GuC.proc (h:GuC c s lk) (i:Nat):(zap c (i:Int)).toNat=if s+5≤i then 1 else 0:=by
 have h0:en c 0=0:=by unfold en;rw [h.ent];rfl
 have h1:en c 1=((s+5:Nat):Int):=by unfold en;rw [h.ent];rfl
 unfold zap
 rw [h.ent]
 show (Go.Proofs.YtcnglfeoglgebaaGreat.prc c (i:Int) 2).toNat=_
 rw [Go.Proofs.YtcnglfeoglgebaaGreat.prc,h1]
 split
 · rw [if_pos (by omega)];rfl
 rw [Go.Proofs.YtcnglfeoglgebaaGreat.prc,h0,if_pos (by omega),if_neg (by omega)];rfl
theorem GuC.procI (h:GuC c s lk) (i:Nat):zap c (i:Int)=((if s+5≤i then 1 else 0:Nat):Int):=by
 have h0:en c 0=0:=by unfold en;rw [h.ent];rfl
 have h1:en c 1=((s+5:Nat):Int):=by unfold en;rw [h.ent];rfl
 unfold zap
 rw [h.ent]
 show Go.Proofs.YtcnglfeoglgebaaGreat.prc c (i:Int) 2=_
 rw [Go.Proofs.YtcnglfeoglgebaaGreat.prc,h1]
 split
 · rw [if_pos (by omega)]
 rw [Go.Proofs.YtcnglfeoglgebaaGreat.prc,h0,if_pos (by omega),if_neg (by omega)]
theorem GuC.e0 (h:GuC c s lk):eN c 0=0:=by unfold eN en;rw [h.ent];rfl
theorem GuC.e1 (h:GuC c s lk):eN c 1=s+5:=by unfold eN en;rw [h.ent];rfl
theorem GuC.from_ (h:GuC c s lk) {p q:Nat} (k:FromP c p q):q=p:=by
 have hn:∀ p q,¬q∈zqp c p:=fun p q hm=>by
   obtain ⟨_,i,_,_,ho,_⟩:=zaI.1 hm
   exact h.no4 i ho
 rcases k with k | k
 · exact k
 cases k with
 | one k=>exact absurd k (hn _ _)
 | more _ k=>exact absurd k (hn _ _)
theorem GuC.r0 (h:GuC c s lk):RootP c 0:=h.mn▸RootP.main
theorem GuC.r1 (h:GuC c s lk):RootP c 1:=by
 have hb:=h.big
 have h0:=h.at_ (i:=0) (by omega)
 exact .spawn h.r0 (.inl rfl) ⟨0,by omega,.inl h.e0.symm,h0.o5.2 rfl,by rw [h0.ar];rfl⟩ (by rw [h.prc];omega)
theorem GuC.root (h:GuC c s lk) {r:Nat} (k:RootP c r):r=0∨r=1:=by
 have:=k.lt h.r
 rw [h.prc] at this;omega
theorem GuC.live1 (h:GuC c s lk) {i:Nat} (k:zay c 1 i):s+5≤i:=by
 have he:(en c 1).toNat=s+5:=h.e1
 rcases k with k | k
 · omega
 exact k.keeps (p:=fun i=>s+5≤i) (by omega) fun i j hi hj=>by have:=(h.nx hj).1;omega
theorem GuC.liveA (h:GuC c s lk):∀ k,s+5+k<c.ins.length→zay c 1 (s+5+k)
 | 0,_=>.inl h.e1.symm
 | k+1,hk=>by
   have ih:=h.liveA k (by omega)
   have hi:=h.at_ (i:=s+5+k) (by omega)
   exact zfC ih (h.mem (by omega) fun e=>by have:=hi.o9.1 e;omega)
theorem GuC.met0 (h:GuC c s lk):∀ k,k≤s+4→MetP c k
 | 0,_=>h.e0▸MetP.root h.r0
 | k+1,hk=>by
   have hb:=h.big
   have ih:=h.met0 k (by omega)
   have hi:=h.at_ (i:=k) (by omega)
   exact .next ih hi.n4 (h.mem (by omega) fun e=>by have:=hi.o9.1 e;omega)
theorem GuC.met1 (h:GuC c s lk):∀ k,s+5+k<c.ins.length→MetP c (s+5+k)
 | 0,_=>by have:=MetP.root h.r1;rw [h.e1] at this;exact this
 | k+1,hk=>by
   have ih:=h.met1 k (by omega)
   have hi:=h.at_ (i:=s+5+k) (by omega)
   exact .next ih hi.n4 (h.mem (by omega) fun e=>by have:=hi.o9.1 e;omega)
theorem zhJ {n:Nat} {p:Nat→Prop} (h:∀ i,i<n→¬p i):zbh n p=[]:=by
 unfold zbh
 rw [List.filter_eq_nil_iff]
 intro i hi
 have:=h i (List.mem_range.1 hi)
 simpa using this
theorem zoa {n:Nat} {p:Nat→Prop} (hn:0<n) (h0:p 0) (h:∀ i,0<i→¬p i):zbh n p=[0]:=by
 obtain ⟨m,rfl⟩:∃ m,n=m+1:=⟨n-1,by omega⟩
 unfold zbh
 rw [List.range_succ_eq_map,List.filter_cons_of_pos (by simpa using h0)]
 congr 1
 rw [List.filter_eq_nil_iff]
 intro i hi
 obtain ⟨j,_,rfl⟩:=List.mem_map.1 hi
 have:=h (j+1) (by omega)
 simpa using this
theorem GuC.stp (h:GuC c s lk) {r p i:Nat} (hi:i<c.ins.length) (k:StP c r p i):i=0∧r=1:=by
 have h0:=(h.at_ hi).o5.1 k.2.1
 have h1:=h.ag hi
 rw [k.2.2,if_pos h0] at h1
 exact ⟨h0,h1⟩
theorem GuC.start0 (h:GuC c s lk):zcL c 0=[]:=by
 unfold zcL
 rw [List.flatMap_eq_nil_iff]
 exact fun p _=>zhJ fun i hi k=>by have:=(h.stp hi k).2;omega
theorem GuC.start1 (h:GuC c s lk):zcL c 1=[0]:=by
 have hb:=h.big
 have h0:=h.at_ (i:=0) (by omega)
 have e0:zbh c.ins.length (StP c 1 0)=[0]:=by
   refine zoa (by omega) ⟨.inl h.e0.symm,h0.o5.2 rfl,by rw [h.ag (by omega)];rfl⟩ fun i hi k=>?_
   have:i<c.ins.length:=by
     rcases Nat.lt_or_ge i c.ins.length with h | h
     · exact h
     have:=k.2.1;rw [zkB (by omega)] at this;exact absurd this (by decide)
   have:=(h.stp this k).1;omega
 have e1:zbh c.ins.length (StP c 1 1)=[]:=zhJ fun i hi k=>by
   have:=(h.stp hi k).1
   have:=h.live1 k.1;omega
 have eu:zbh c.procs.length (UsedP c)=[0,1]:=by
   unfold zbh
   rw [h.prc]
   show List.filter _ [0,1]=_
   rw [List.filter_cons_of_pos (by simpa using h.r0.used),List.filter_cons_of_pos (by simpa using h.r1.used)]
   rfl
 unfold zcL
 rw [eu]
 simp [e0,e1]
theorem GuC.sing (h:GuC c s lk) {r:Nat} (k:RootP c r):zeI c r:=by
 have hb:=h.big
 rcases h.root k with rfl | rfl
 · exact .inl ⟨h.mn.symm,h.start0⟩
 refine .inr ⟨by rw [h.mn];omega,0,h.start1,?_,fun k=>?_,by rw [h.mn];exact h.start0,?_⟩
 · rw [h.mn]
   have:=h.procI 0
   rw [if_neg (by omega)] at this
   exact this
 · have:∀ b,RP (zax c) 0 b→0<b:=fun b k=>by
     induction k with
     | one hj=>have:=(h.nx hj).1;omega
     | more _ hj ih=>have:=(h.nx hj).1;omega
   exact absurd (this 0 k) (by omega)
 rintro ⟨p,_,i,_,_,ho,_⟩
 exact h.no4 i ho
theorem GuC.bes (h:GuC c s lk) {a b:Nat}:zpR c a b→a≠b:=by
 rintro ⟨r,t,hr,ht,fr,ft,k⟩
 have:=h.from_ fr
 have:=h.from_ ft
 rcases k with k | k
 · omega
 exact absurd (h.sing hr) k
theorem GuC.bes2 (h:GuC c s lk):zpR c 0 1:=⟨0,1,h.r0,h.r1,.inl rfl,.inl rfl,.inl (by omega)⟩
theorem GuC.must (h:GuC c s lk) {i l:Nat} (hl:l<6) (hi:i<c.ins.length):(zaC (zdK c) i).testBit l=false↔LostP c (tK (zbR c)) (tG (zbR c)) (if s+5≤i then 1 else 0) (fun l=>(zmq c (if s+5≤i then 1 else 0)).testBit l=true) i l:=by
 have hu:UsedP c (if s+5≤i then 1 else 0):=by
   split
   · exact h.r1.used
   exact h.r0.used
 rw [zk9 hi,zgG (h.procI i) hu]
 exact zf0 hi hl
theorem GuC.lost (h:GuC c s true) {K G:Nat→Nat→Prop} {p:Nat} {H:Nat→Prop} {i:Nat} (hp:p<2) (k:LostP c K G p H i 0):i≠s+2∧i≠s+3∧i≠2*s+6∧i≠2*s+7:=by
 have hb:=h.big
 have hlt:∀ {i j},zay c p i→j∈zax c i→i<c.ins.length:=fun {i j} k hj=>(za2 h.r (by rw [h.r.2.1.1,h.prc];exact hp) k).1
 generalize hz:0=l at k
 induction k with
 | ent _=>
   have:p=0∨p=1:=by omega
   rcases this with rfl | rfl
   · rw [h.e0];omega
   rw [h.e1];omega
 | @gen i j l h0 hj h1=>
   have hi:=hlt h0 hj
   have h2:=(h.nx hj).1
   rcases h1 with ⟨h1,_⟩ | ⟨h1,_⟩
   · have:=(h.at_ hi).o7.1 h1
     omega
   exact absurd h1 (h.no4 i)
 | @pass i j l h0 hj _ h2 ih=>
   have ih:=ih hz
   have hi:=hlt h0 hj
   have h3:=(h.nx hj).1
   have h6:=(h.at_ hi).o6
   have ha:=h.ag hi
   have hn:¬(i=s+1∨(true=true∧i=2*s+5)):=fun e=>h2.1 ⟨h6.2 e,by rw [ha,if_neg (by omega)];exact hz⟩
   simp only [true_and] at hn
   omega
theorem GuC.heldY (h:GuC c s true) {i:Nat} (hi:i=s+2∨i=q2 s true):(zaC (zdK c) i).testBit 0=true:=by
 have hb:=h.big
 have hq:q2 s true=2*s+6:=rfl
 refine zcz fun hf=>?_
 have:=h.lost (by split<;>omega) ((h.must (by omega) (by omega)).1 hf)
 omega
theorem GuC.heldN (h:GuC c s false):zaC (zdK c) (2*s+5)=0:=by
 have hb:=h.big
 have key:∀ l,l<6→∀ k,k≤s→LostP c (tK (zbR c)) (tG (zbR c)) 1 (fun l=>(zmq c 1).testBit l=true) (s+5+k) l:=by
   intro l hl k
   induction k with
   | zero=>
     intro _
     have:LostP c (tK (zbR c)) (tG (zbR c)) 1 (fun l=>(zmq c 1).testBit l=true) (eN c 1) l:=by
       refine .ent fun hb=>?_
       exact (zi3.1 hb).2 (.root h.r1)
     rw [h.e1] at this
     exact this
   | succ k ih=>
     intro hk
     have hi:=h.at_ (i:=s+5+k) (by omega)
     have hq:q2 s false=2*s+5:=rfl
     have hn6:(zah c (s+5+k)).op≠6:=fun e=>by
       have:=hi.o6.1 e
       simp only [Bool.false_eq_true,false_and,or_false] at this
       omega
     refine .pass (h.liveA k (by omega)) (h.mem (by omega) fun e=>?_) (ih (by omega)) ⟨fun e=>hn6 e.1,fun e=>h.no4 _ e.1⟩
     have:=hi.o9.1 e;omega
 have h64:=zeF (zf1 c) (2*s+5)
 refine Nat.eq_of_testBit_eq fun l=>?_
 rw [Nat.zero_testBit]
 cases e:(zaC (zdK c) (2*s+5)).testBit l with
 | false=>rfl
 | true=>
   have hl:=zh8 h64 e
   have:=(h.must (i:=2*s+5) hl (by omega)).2
   rw [if_pos (by omega)] at this
   have h2:=this (by have:=key l hl s (Nat.le_refl _);rwa [show s+5+s=2*s+5 by omega] at this)
   rw [h2] at e;cases e
theorem zhK {a held:Int} {i:DIns} {x:DTouch}:∀ {k:Nat},x∈zbk c a held i k→x.write=true→x.global=i.arg
 | 0,h,_=>by simp [zbk] at h
 | k+1,h,hw=>by
   rw [zbk] at h
   rcases List.mem_append.1 h with h | h
   · rcases List.mem_append.1 h with h | h
     · exact zhK h hw
     split at h
     · simp only [List.mem_cons,List.not_mem_nil,or_false] at h
       rw [h] at hw;cases hw
     cases h
   split at h
   · rename_i h2
     simp only [List.mem_cons,List.not_mem_nil,or_false] at h
     rw [h];exact h2.2.symm
   cases h
theorem zg2 {a held:Int} {i:DIns} (ho:i.op=1) (ha:i.arg=0):∀ {k:Nat},0<k→(⟨a,0,true,held⟩:DTouch)∈zbk c a held i k
 | 0,h=>absurd h (by omega)
 | 1,_=>by rw [zbk];exact List.mem_append_right _ (by rw [if_pos ⟨ho,ha⟩];simp)
 | k+2,_=>by
   rw [zbk]
   exact List.mem_append_left _ (List.mem_append_left _ (zg2 ho ha (k:=k+1) (by omega)))
theorem GuC.touch (h:GuC c s lk) {x:DTouch} (hx:x∈zfo c):∃ i,x.at_=((i:Nat):Int)∧x.held=((zaC (zdK c) i:Nat):Int)∧(i=s+2∨i=q2 s lk)∧(x.write=true→x.global=0):=by
 unfold zfo at hx
 obtain ⟨i,hi,hx⟩:=List.mem_flatMap.1 hx
 obtain ⟨hil,_⟩:=zaI.1 hi
 have hI:=h.at_ hil
 unfold zo9 at hx
 obtain ⟨h1,h2⟩:=zcA hx
 refine ⟨i,h1,h2,?_⟩
 unfold zci at hx
 simp only [Int.toNat_natCast] at hx
 split at hx
 · rename_i ho
   have ho:(zah c i).op=1:=ho.resolve_right hI.n2
   have hq:=hI.o1.1 ho
   refine ⟨hq,fun hw=>?_⟩
   rw [zhK hx hw,hI.ar,if_neg]
   unfold q2 at hq
   split at hq<;>omega
 cases hx
theorem GuC.writes (h:GuC c s lk) {i:Nat} (hi:i=s+2∨i=q2 s lk):(⟨(i:Int),0,true,((zaC (zdK c) i:Nat):Int)⟩:DTouch)∈zfo c:=by
 have hb:=h.big
 have hil:i<c.ins.length:=by omega
 have hI:=h.at_ hil
 have h5:i≠0:=by unfold q2 at hi;split at hi<;>omega
 have hm:MetP c i:=by
   rcases hi with e | e
   · rw [e];exact h.met0 _ (by omega)
   have:s+5≤i:=by rw [e];unfold q2;split<;>omega
   have:=h.met1 (i-(s+5)) (by omega)
   rwa [show s+5+(i-(s+5))=i by omega] at this
 unfold zfo
 refine List.mem_flatMap.2 ⟨i,zaI.2 ⟨hil,hm⟩,?_⟩
 unfold zo9 zci
 simp only [Int.toNat_natCast]
 rw [if_pos (.inl (hI.o1.2 hi))]
 exact zg2 (hI.o1.2 hi) (by rw [hI.ar,if_neg h5]) h.gl
theorem zob {r:DRace} {T:List DTouch}:r∈zgR c T T.length↔∃ i j,∃ (hij:i≤j) (hj:j<T.length),zcS T[i] T[j]∧zpR c (zap c T[i].at_).toNat (zap c T[j].at_).toNat∧r=zdH T[i] T[j]:=by
 constructor
 · intro h
   obtain ⟨i,hi,h⟩:=List.mem_flatMap.1 h
   have hi:=List.mem_range.1 hi
   rw [zf5 hi] at h
   obtain ⟨b,hb,h⟩:=List.mem_flatMap.1 h
   obtain ⟨j,hj,rfl⟩:=List.getElem_of_mem hb
   simp only [List.getElem_drop] at h
   have hj':i+j<T.length:=by rw [List.length_drop] at hj;omega
   unfold rc1 at h
   split at h
   · rename_i hcl
     simp only [List.mem_cons,List.not_mem_nil,or_false] at h
     exact ⟨i,i+j,by omega,hj',hcl.1,hcl.2,h⟩
   cases h
 rintro ⟨i,j,hij,hj,h1,h2,rfl⟩
 refine List.mem_flatMap.2 ⟨i,List.mem_range.2 (by omega),?_⟩
 rw [zf5 (by omega)]
 refine List.mem_flatMap.2 ⟨T[j],?_,?_⟩
 · have:T[j]=(T.drop i)[j-i]'(by rw [List.length_drop];omega):=by rw [List.getElem_drop];congr 1;omega
   rw [this];exact List.getElem_mem _
 unfold rc1
 rw [if_pos ⟨h1,h2⟩];simp
theorem zlA {r:DRace} (hc:CodeR c):r∈zdg c↔∃ i j,∃ (hij:i≤j) (hj:j<(zfo c).length),zcS (zfo c)[i] (zfo c)[j]∧zpR c (zap c (zfo c)[i].at_).toNat (zap c (zfo c)[j].at_).toNat∧r=zdH (zfo c)[i] (zfo c)[j]:=by
 unfold zdg
 rw [if_pos hc,zjh]
 exact zob
theorem GuC.race (h:GuC c s lk) {r:DRace} (hr:r∈zdg c):r=⟨0,((s+2:Nat):Int),((q2 s lk:Nat):Int)⟩∧zaC (zdK c) (s+2) &&& zaC (zdK c) (q2 s lk)=0:=by
 obtain ⟨i,j,hij,hj,hcl,hbe,rfl⟩:=(zlA h.r).1 hr
 obtain ⟨a,ha,haT⟩:∃ a,a=(zfo c)[i]∧a∈zfo c:=⟨_,rfl,List.getElem_mem _⟩
 obtain ⟨b,hb,hbT⟩:∃ b,b=(zfo c)[j]∧b∈zfo c:=⟨_,rfl,List.getElem_mem _⟩
 rw [←ha,←hb] at hcl hbe ⊢
 obtain ⟨x,x1,x2,x3,x4⟩:=h.touch haT
 obtain ⟨y,y1,y2,y3,y4⟩:=h.touch hbT
 have hg:a.global=0:=by
   rcases hcl.2.1 with hw | hw
   · exact x4 hw
   rw [hcl.1];exact y4 hw
 have hne:=h.bes hbe
 rw [x1,y1,h.proc,h.proc] at hne
 have hq:s+5≤q2 s lk:=by unfold q2;split<;>omega
 have hand:=hcl.2.2.2.2
 rw [x2,y2,Int.toNat_natCast,Int.toNat_natCast] at hand
 have hxy:(x=s+2∧y=q2 s lk)∨(x=q2 s lk∧y=s+2):=by
   rcases x3 with e | e<;>rcases y3 with e' | e'
   · rw [e,e'] at hne;exact absurd rfl hne
   · exact .inl ⟨e,e'⟩
   · exact .inr ⟨e,e'⟩
   rw [e,e'] at hne;exact absurd rfl hne
 unfold zdH
 rw [x1,y1,hg]
 rcases hxy with ⟨rfl,rfl⟩ | ⟨rfl,rfl⟩
 · refine ⟨?_,hand⟩
   congr 1<;>omega
 refine ⟨?_,by rw [Nat.and_comm];exact hand⟩
 congr 1<;>omega
theorem GuC.none (h:GuC c s true):zdg c=[]:=by
 refine List.eq_nil_iff_forall_not_mem.2 fun r hr=>?_
 have h1:=(h.race hr).2
 have h2:=congrArg (fun n=>n.testBit 0) h1
 simp only [Nat.testBit_and,h.heldY (.inl rfl),h.heldY (.inr rfl),Nat.zero_testBit] at h2
 exact absurd h2 (by decide)
theorem GuC.one (h:GuC c s false):zdg c=[⟨0,((2+s:Nat):Int),((2*s+5:Nat):Int)⟩]:=by
 have hq:q2 s false=2*s+5:=rfl
 have hex:∃ r,r∈zdg c:=by
   obtain ⟨i,hi,ei⟩:=List.getElem_of_mem (h.writes (i:=s+2) (.inl rfl))
   obtain ⟨j,hj,ej⟩:=List.getElem_of_mem (h.writes (i:=2*s+5) (.inr rfl))
   have hp:=List.pairwise_iff_getElem.1 (zqD c)
   have h1:=zeF (zf1 c) (s+2)
   have hij:i≤j:=by
     rcases Nat.lt_or_ge j i with hl | hl
     · have:=hp j i hj hi hl
       rw [ei,ej] at this
       simp only at this;omega
     exact hl
   refine ⟨_,(zlA h.r).2 ⟨i,j,hij,hj,?_,?_,rfl⟩⟩
   · rw [ei,ej]
     refine ⟨rfl,.inl rfl,⟨by simp only;omega,by simp only;omega⟩,⟨by simp only;omega,by simp only [h.heldN];omega⟩,?_⟩
     simp only [Int.toNat_natCast]
     rw [h.heldN,Nat.and_zero]
   rw [ei,ej]
   simp only
   rw [h.proc,h.proc,if_neg (by omega),if_pos (by omega)]
   exact h.bes2
 have hall:∀ r∈zdg c,r=⟨0,((2+s:Nat):Int),((2*s+5:Nat):Int)⟩:=fun r hr=>by
   rw [(h.race hr).1,hq,Nat.add_comm]
 have hpw:(zdg c).Pairwise ltR:=by unfold zdg;rw [if_pos h.r];exact zlp _
 generalize zdg c=R at *
 match R,hex,hall,hpw with
 | [],⟨r,hr⟩,_,_=>cases hr
 | [x],_,ha,_=>rw [ha x (by simp)]
 | x :: y :: l,_,ha,hp=>
   have:=(List.pairwise_cons.1 hp).1 y (by simp)
   rw [ha x (by simp),ha y (by simp)] at this
   exact absurd this (zdf _)
end
def zp0 (t:DTerm):DStmt:=.mk 1 nX t [] []
def zbC (t:DTerm) (s:Nat) (lk:Bool):List DStmt:=List.replicate s znV++(if lk then [zmf nA,zp0 t,zfG nA] else [zp0 t])
def zhc (t:DTerm) (s:Nat) (lk:Bool):DProg:=⟨glb,[nA],[⟨zbz,zdI nP :: zbC t s true⟩,⟨nP,zbC t s lk⟩]⟩
theorem zoc (x:DStmt) (h:szS x=1):∀ n,szL (List.replicate n x)=n
 | 0=>by simp [szL]
 | n+1=>by rw [List.replicate_succ,szL,zoc x h n,h];omega
theorem zlB {t:DTerm} (ht:TmR glb t) (s:Nat) (hs:s<4) (lk:Bool):(∀ x∈zbC t s lk,StR ⟨glb,[nA],[nP]⟩ 2 x)∧szL (zbC t s lk)≤6:=by
 have h1:StR ⟨glb,[nA],[nP]⟩ 2 znV:=StR.base (.inr (.inr (.inr ⟨rfl,rfl,rfl,rfl,rfl⟩)))
 have h2:StR ⟨glb,[nA],[nP]⟩ 2 (zmf nA):=StR.base (.inr (.inr (.inl ⟨.inl rfl,by simp [zmf,DStmt.name],rfl,rfl,rfl⟩)))
 have h3:StR ⟨glb,[nA],[nP]⟩ 2 (zfG nA):=StR.base (.inr (.inr (.inl ⟨.inr rfl,by simp [zfG,DStmt.name],rfl,rfl,rfl⟩)))
 have h4:StR ⟨glb,[nA],[nP]⟩ 2 (zp0 t):=StR.base (.inl ⟨rfl,by simp [zp0,DStmt.name,glb],ht,rfl,rfl⟩)
 unfold zbC
 refine ⟨fun x hx=>?_,?_⟩
 · rcases List.mem_append.1 hx with hx | hx
   · rw [(List.mem_replicate.1 hx).2];exact h1
   split at hx
   · simp only [List.mem_cons,List.not_mem_nil,or_false] at hx
     rcases hx with rfl | rfl | rfl
     · exact h2
     · exact h4
     exact h3
   simp only [List.mem_cons,List.not_mem_nil,or_false] at hx
   rw [hx];exact h4
 rw [zfF,zoc _ (by simp [szS,szL,znV])]
 split<;>simp [szL,szS,zmf,zfG,zp0]<;>omega
theorem zkC {t:DTerm} (ht:TmR glb t) {s:Nat} (hs:s<4) (lk:Bool):ProgR (zhc t s lk):=by
 have hP:((zhc t s lk).procs.map DProc.name).drop 1=[nP]:=rfl
 refine ⟨.inl rfl,.inr (.inl rfl),⟨1,by omega,rfl⟩,fun x hx=>?_⟩
 rw [hP]
 have h0:x=⟨zbz,zdI nP :: zbC t s true⟩∨x=⟨nP,zbC t s lk⟩:=by simpa [zhc] using hx
 rcases h0 with rfl | rfl
 · have h:=zlB ht s hs true
   refine ⟨fun y hy=>?_,?_⟩
   · rcases List.mem_cons.1 hy with rfl | hy
     · exact StR.base (.inr (.inl ⟨.inr rfl,by simp [zdI,DStmt.name],rfl,rfl,rfl⟩))
     exact h.1 y hy
   show szL (zdI nP :: zbC t s true)≤54
   rw [szL]
   have:=h.2
   simp only [szS,szL,zdI];omega
 have h:=zlB ht s hs lk
 exact ⟨h.1,by have:=h.2;show szL (zbC t s lk)≤54;omega⟩
theorem zod {t:DTerm} (ht:TmR glb t) {s:Nat} (hs:s<4) (lk:Bool):GuC (zbu (zhc t s lk)) s lk:=by
 refine ⟨(zhE (zkC ht hs lk)).1,hs,?_,?_,rfl,rfl,by show 0<glb.length;decide⟩
 · match s,hs,lk with
   | 0,_,true=>rfl
   | 1,_,true=>rfl
   | 2,_,true=>rfl
   | 3,_,true=>rfl
   | 0,_,false=>rfl
   | 1,_,false=>rfl
   | 2,_,false=>rfl
   | 3,_,false=>rfl
 match s,hs,lk with
 | 0,_,true=>rfl
 | 1,_,true=>rfl
 | 2,_,true=>rfl
 | 3,_,true=>rfl
 | 0,_,false=>rfl
 | 1,_,false=>rfl
 | 2,_,false=>rfl
 | 3,_,false=>rfl
def F41 (a0:Value) (w:World) (R:VW):Prop:=
 rN 22 3 a0 w fun x6=>
 rB .add 3 U0 T0 (iV 94701) x6 w fun x7=>
 LOOPI [3,4] [x7,(iV 0)] w fun u3 w next3=>
 rN 22 3 a0 w fun x10=>
 rC (u3 4) x10 w fun x11=>
 BR x11
 (rB .lss 3 T0 U0 (u3 4) (iV 4000) w fun x14=>
 BR x14
 (rB .mul 3 T0 U0 (u3 3) (iV 131) w fun x19=>
 rX 22 a0 (u3 4) w fun x22=>
 rL 5 x22 w fun x23=>
 rD (convert 5 3 x23) w fun x24=>
 rB .add 3 T0 T0 x19 x24 w fun x25=>
 rA x25 (iV 7) w fun x26=>
 rB .and 3 T0 U0 x26 (iV 1073741823) w fun x27=>
 rA (u3 4) (iV 1) w fun x17=>
 next3 [x27,x17] w)
 (rD (Instr.build 125 #[(0,a0),(2,(u3 3))]) w fun x30=>
 oP (Instr.box 125 x30) w fun x31 w=>
 R x31 w))
 (rD (Instr.build 125 #[(0,a0),(2,(u3 3))]) w fun x30=>
 oP (Instr.box 125 x30) w fun x31 w=>
 R x31 w)
def cfg41:Cfg:=⟨extL,[],[(3,268435224,[3,4])],[],[],[],[]⟩
theorem F41_call {a0:Value} {w:World} {R:VW} (h:F41 a0 w R):cL 41 [a0] w R:=co (g:=cfg41) Tryz.func41 (by kernel_rfl) (by kernel_rfl) (by kernel_rfl) h
def F20 (a0:Value) (w:World) (R:VW):Prop:=
 cL 41 [a0] w fun x7 w=>
 cL 50 [x7] w fun x9 w=>
 oP (Instr.buildSlice 33 0 #[]) w fun x10 w=>
 LOOPI [4,5] [x10,(iV 0)] w fun u5 w next5=>
 rB .lss 3 T0 U0 (u5 5) (iV 12) w fun x12=>
 BR x12
 (cL 51 [x7,(iV 10000)] w fun x17 w=>
 oP (Instr.buildSlice 33 1 #[(0,x17)]) w fun x18 w=>
 oP (Builtin.append_ #[33,33] 33 [(u5 4),x18].toArray) w fun x19 w=>
 rA (u5 5) (iV 1) w fun x14=>
 next5 [x19,x14] w)
 (R (u5 4) w)
def cfg20:Cfg:=⟨extL,[],[(5,1046576,[4,5])],[],[],[],[]⟩
theorem F20_call {a0:Value} {w:World} {R:VW} (h:F20 a0 w R):cL 20 [a0] w R:=co (g:=cfg20) Tryz.func20 (by kernel_rfl) (by kernel_rfl) (by kernel_rfl) h
open Rep (rep)
theorem zoe {bs:List UInt8} {k:Nat} (hk:k<(bs.take 4000).length) (h:Int):((bs.take 4000).take (k+1)).foldl (fun h (b:UInt8)=>zma (h*131+(b.toNat:Int)+7) 1073741823) h =
   zma (((bs.take 4000).take k).foldl (fun h (b:UInt8)=>zma (h*131+(b.toNat:Int)+7) 1073741823) h*131+(((bs.take 4000)[k]).toNat:Int)+7) 1073741823:=by
 rw [List.take_succ_eq_append_getElem hk,List.foldl_append];rfl
set_option maxRecDepth 100000 in
theorem zjC {w W:World} {v:Value} {bs:List UInt8} (h:Is W v bs) (e:Ext W w) (hl:bs.length≤1048576) :
    CALL Tryz.prog 41 [v] w fun r w'=>Ext w w'∧∃ g,r=.pointer (some ⟨g,0,none⟩)∧w.heap.size≤g∧CurAt w g bs (zhC bs) w':=by
  have fin:∀ {w1:World} {hh:Int},Ext w w1→hh=zr1 bs→I64 hh→RD Tryz.prog (Instr.build 125 #[(0,v),(2,.int .i64 hh)]) w1 fun x30=>OP Tryz.prog (Instr.box 125 x30) w1 fun x31 w2=>
      Ext w w2∧∃ g,x31=.pointer (some ⟨g,0,none⟩)∧w.heap.size≤g∧CurAt w g bs (zhC bs) w2:=by
    intro w1 hh hx1 hh1 hI
    obtain ⟨a,cap,Fi,xs,rfl,_⟩:=zcf h
    refine zaz (cells:=#[.slice a bs.length cap,.int .i64 0,.int .i64 hh]) (by kernel_rfl) ?_
    refine zm3 fun w2 hx2 hB2=>?_
    refine ⟨hx1.trans hx2,_,rfl,hx1.size,.slice a bs.length cap,h.ext e,hx1.trans hx2,hx1.size,?_,Nat.zero_le _,hl⟩
    rw [hh1] at hB2
    exact hB2
  refine F41_call ?_
  unfold F41
  refine zaf u22 h ?_
  refine zeq (by unfold I64;omega) ?_
  refine zaE (bs.take 4000).length (fun k us w'=>∃ hh:Int,us=[.int .i64 hh,.int .i64 (k:Int)]∧Ext w w'∧k≤(bs.take 4000).length∧0≤hh∧hh≤1073741823∧hh=((bs.take 4000).take k).foldl (fun h (b:UInt8)=>zma (h*131+(b.toNat:Int)+7) 1073741823) (94701+(bs.length:Int))) 0 (Nat.zero_le _)
    ⟨_,rfl,Ext.refl w,Nat.zero_le _,by omega,by omega,by simp⟩ ?_
  rintro k m u w1 hkm ⟨hh,hu,hx1,hkl,h0,h1,hf⟩
  obtain ⟨hu0,hu1⟩:=zey hu
  rw [hu0,hu1]
  have htl:(bs.take 4000).length=min 4000 bs.length:=List.length_take
  have hdone:(bs.take 4000).length≤k→hh=zr1 bs:=fun hk=>by
    rw [hf,List.take_of_length_le hk];rfl
  have hIh:I64 hh:=by unfold I64;omega
  refine zaf u22 h ?_
  refine zal ?_
  refine br (fun hlt=>?_) (fun hge=>fin hx1 (hdone (by omega)) hIh)
  refine zal ?_
  refine br (fun hlt2=>?_) (fun hge=>fin hx1 (hdone (by omega)) hIh)
  have hk:k<(bs.take 4000).length:=by omega
  have hkb:k<bs.length:=by omega
  refine zkO (by unfold I64;omega) ?_
  refine zad u22 ty5 (i:=k) h hkb fun b o hA=>?_
  refine zlw ty5 hA (e.trans hx1) ?_
  have h256:=UInt8.toNat_lt (bs[k])
  refine znQ (by kernel_rfl) u3 (by omega) ?_
  refine zeq (by unfold I64;omega) ?_
  refine zeq (by unfold I64;omega) ?_
  refine zkr ?_
  refine zag (by omega) ?_
  have hb:=ziq (hh*131+((bs[k]).toNat:Int)+7) (n:=1073741823) (by omega)
  refine ⟨m-1,by omega,k+1,by omega,_,rfl,hx1,by omega,hb.1,hb.2,?_⟩
  rw [zoe hk,←hf,List.getElem_take]
def zb6 (bs:List UInt8) (m:Int):Nat→Cur→List Int
 | 0,_=>[]
 | n+1,s=>zcW bs m s :: zb6 bs m n (zav bs m s)
theorem zfP (bs:List UInt8) (m:Int):∀ (n:Nat) (s:Cur),(zb6 bs m n s).length=n
 | 0,_=>rfl
 | n+1,s=>by rw [zb6,List.length_cons,zfP bs m n]
theorem zg3 (bs:List UInt8) {m:Int} (hm:0<m):∀ (n:Nat) (s:Cur),∀ x∈zb6 bs m n s,0≤x∧x<m
 | 0,_,x,h=>by rw [zb6] at h;cases h
 | n+1,s,x,h=>by
   rw [zb6] at h
   rcases List.mem_cons.1 h with rfl | h
   · exact zcM bs hm s
   exact zg3 bs hm n _ x h
def zg4 (bs:List UInt8):List Int:=zb6 bs 10000 12 (zbP bs (zhC bs))
theorem ziz {w W:World} {v:Value} {bs:List UInt8} (h:Is W v bs) (e:Ext W w) (hl:bs.length≤1048576) :
   CALL Tryz.prog 20 [v] w fun r w'=>Ext w w'∧Own w.heap.size w' r (zg4 bs):=by
 refine F20_call ?_
 unfold F20
 refine (zjC h e hl).mono ?_
 rintro _ w1 ⟨hx1,g,rfl,hg,hC1⟩
 have hs1:=hx1.size
 have hgl:=hC1.lt
 refine (zcB hC1).mono ?_
 rintro _ w2 ⟨hc2,hC2,rfl⟩
 have hs2:=hc2.size
 refine zcx (α:=Int) u33 ty3 fun v10 w3 hx3 r10=>?_
 have hs3:=hx3.size
 refine zaE 12 (fun k us w'=>∃ v hi l s1,us=[v,.int .i64 (k:Int)]∧k≤12∧ChgI g (g+1) w2 w'∧CurAt w g bs s1 w'∧RowI w3.heap.size hi 3 w' v l∧w3.heap.size≤hi∧hi≤w'.heap.size∧l.length=k∧zg4 bs=l++zb6 bs 10000 (12-k) s1) 0 (Nat.zero_le _)
   ⟨_,w3.heap.size,[],_,rfl,by omega,hx3.toI,hC2.ext hx3,r10,Nat.le_refl _,Nat.le_refl _,rfl,rfl⟩ ?_
 rintro k m u w4 hkm ⟨v4,hi,l,s1,hu,hkl,hc4,hC4,r4,hlo,hhi,hll,heq⟩
 obtain ⟨hu0,hu1⟩:=zey hu
 rw [hu0,hu1]
 refine zal ?_
 refine br (fun hlt=>?_) (fun hge=>?_)
 · have hk:k<12:=by omega
   refine (zdA hC4 (by omega)).mono ?_
   rintro _ w5 ⟨hc5,hC5,rfl⟩
   have hs5:=hc5.size
   have hb:=zcM bs (n:=10000) (by omega) s1
   refine zdt (α:=Int) (lo2:=w5.heap.size) (hi2:=w5.heap.size) u33 ty3 z3 zc3 (by decide) (r4.chg hc5 (by omega)) (by omega) (Go.Sh.ownI_int (by unfold I64;omega)) (by omega) (by omega) (by rw [zak];omega) (by omega) fun v19 w6 hc6 r6=>?_
   have hs6:=hc6.size
   refine zag (by omega) ?_
   refine ⟨m-1,by omega,k+1,by omega,v19,w6.heap.size,_,_,rfl,by omega,ChgI.out (hc4.trans hc5) hc6 (by omega),hC5.chg hc6 (by omega) (by omega),r6,by omega,Nat.le_refl _,by simp [hll],?_⟩
   rw [heq,show 12-k=(12-(k+1))+1 by omega,zb6];simp
 have hk:k=12:=by omega
 subst hk
 rw [Nat.sub_self,zb6,List.append_nil] at heq
 rw [heq]
 exact ⟨Ext.chgI (Ext.chgI hx1 hc2 hg) hc4 hg,r4.own.own.mono (by omega)⟩
end Go.Proofs.YtcnglfeoglgebaaGreat
namespace Go.Sh
open Rep (rep)
def SlB (e:Nat) (w:World) (b cap:Nat) (v:Value) (n:Nat) (xs:List Value):Prop:=
 v=.slice (some ⟨b,0,none⟩) n cap∧∃ c,w.heap[b]?=some (.cells c e (0,0))∧c.size=cap*8∧n≤cap∧cap≤maxLen∧c.toList.take (n*8)=xs∧xs.length=n*8
section
variable {P:Program} {w w':World} {e b cap n:Nat} {v:Value} {xs:List Value}
theorem SlB.lt (h:SlB e w b cap v n xs):b<w.heap.size:=by obtain ⟨_,c,hc,_⟩:=h;exact (Array.getElem?_eq_some_iff.1 hc).1
theorem SlB.keep (h:SlB e w b cap v n xs) (hk:w'.heap[b]?=w.heap[b]?):SlB e w' b cap v n xs:=by
 obtain ⟨hv,c,hc,h⟩:=h;exact ⟨hv,c,by rw [hk];exact hc,h⟩
theorem SlB.ext (h:SlB e w b cap v n xs) (hx:Ext w w'):SlB e w' b cap v n xs:=h.keep (hx.heap h.lt)
theorem SlB.range (h:SlB e w b cap v n xs):w.rangeAt b 0 xs:=by
 obtain ⟨_,c,hc,hcs,hn,_,rfl,hl⟩:=h
 intro j u hj
 have hlt:=(List.getElem?_eq_some_iff.1 hj).1
 rw [List.getElem?_take] at hj
 split at hj
 · simpa [World.cell?,hc] using hj
 cases hj
theorem SlB.of_blk {cs:List Value} (h:Blk b e w cs) (hl:cs.length=n*8) (hn:n≤1000):SlB e w b n (.slice (some ⟨b,0,none⟩) n n) n cs:=by
 refine ⟨rfl,cs.toArray,h,by simp [hl],Nat.le_refl _,by rw [zak];omega,?_,hl⟩
 rw [←hl];simp
theorem zg5 {G:List Nat} {R:List Raw8} (h:RowG G e w v R):(R=[]∧∃ a,v=.slice a 0 0)∨∃ b cap,SlB e w b cap v R.length (fl8 R)∧b∈G:=by
 rcases h with ⟨a,hv,hR,_⟩ | ⟨xs,Fi,ho,hc,hF,_⟩
 · exact .inl ⟨hR,a,hv⟩
 obtain ⟨rfl,rfl⟩:=zhI hc
 rcases ho.2 with ⟨hv,hn⟩ | ⟨g,cap,cur,hv,_,hg,h1,h2,h3,h4⟩
 · exact .inl ⟨List.eq_nil_of_length_eq_zero hn,none,hv⟩
 refine .inr ⟨g,cap,⟨hv,cur,hg,h3,h1,h2,h4,ho.1⟩,?_⟩
 rw [hF,hv];simp [Value.ownBlock]
theorem SlB.rep {α:Type} [Rep α] {Fc:List Nat} {l:List α} (h:SlB e w b cap v n xs) (hc:Cells Fc w xs l) (hl:l.length=n):rep (b :: Fc) w [v] l:=by
 have hr:=h.range
 have hb:=h.lt
 obtain ⟨rfl,c,_,_,h1,h2,_⟩:=h
 exact ⟨some ⟨b,0,none⟩,cap,Fc,xs,by rw [hl],by omega,h2,hc,.inr ⟨b,0,rfl,rfl,hr,hb⟩⟩
theorem SlB.raw {R:List Raw8} (h:SlB e w b cap v n (fl8 R)) (hR:R.length=n) (ho:∀ x∈fl8 R,x.oneCell'=true):Is w v R:=by
 have key:∀ (R:List Raw8),(∀ x∈fl8 R,x.oneCell'=true)→Cells [] w (fl8 R) R:=by
   intro R
   induction R with
   | nil=>intro _;exact ⟨rfl,rfl⟩
   | cons x l ih=>
     intro ho
     obtain ⟨y,hy,hp⟩:=zn8 (w:=w) (cs:=c8 x) rfl fun v hv=>ho v (by rw [fl8];simp [hv])
     have:y=x:=by
       simp only [c8,List.cons.injEq,and_true] at hy
       obtain ⟨⟨y0⟩,⟨y1⟩,⟨y2⟩,⟨y3⟩,⟨y4⟩,⟨y5⟩,⟨y6⟩,⟨y7⟩⟩:=y
       obtain ⟨⟨x0⟩,⟨x1⟩,⟨x2⟩,⟨x3⟩,⟨x4⟩,⟨x5⟩,⟨x6⟩,⟨x7⟩⟩:=x
       simp only at hy
       obtain ⟨rfl,rfl,rfl,rfl,rfl,rfl,rfl,rfl⟩:=hy
       rfl
     subst this
     exact ⟨[],[],c8 y,fl8 l,rfl,rfl,hp,ih fun v hv=>ho v (by rw [fl8];simp [hv])⟩
 exact ⟨_,_,h.rep (key R ho) hR,rfl⟩
instance flatRaw8:Flat Raw8:=⟨fun h=>(zly h).1⟩
theorem zkD {t ty by_ m b2 cap2:Nat} {u:Value} {ys:List Value} {K:Value→World→Prop} (ht:P.underlying t=some (.slice e)) (he:tyI P e=some (8,by_,true)) (hz:(P.info? e).map (fun i=>(i.zero.map (·.cells.size)))=some (some 8))
   (hv:SlB e w b cap v n xs) (hu:SlB e w b2 cap2 u m ys) (hm:0<m) (ho:∀ x∈ys,x.oneCell'=true) (hn:n+m≤1000) (hb:by_≤1000000)
   (k1:n+m≤cap→∀ w' v',Chg [b] w w'→(∃ c c',w.heap[b]?=some (.cells c e (0,0))∧w'.heap[b]?=some (.cells c' e (0,0))∧c'.size=c.size∧c.size=cap*8∧c'.toList.take (n*8)=c.toList.take (n*8))→SlB e w' b cap v' (n+m) (xs++ys)→K v' w')
   (k2:∀ w' v' b' cap',Ext w w'→w.heap.size≤b'→SlB e w' b' cap' v' (n+m) (xs++ys)→K v' w'):OP P (Builtin.append_ #[t,t] ty [v,u].toArray) w K:=by
 have hra:=hu.range
 obtain ⟨rfl,c,hc,hcs,hnc,hcm,htk,hxl⟩:=hv
 obtain ⟨rfl,c2,hc2,hcs2,hnc2,hcm2,htk2,hyl⟩:=hu
 obtain ⟨i,d,hi,hd',hs,hby,hg⟩:=zbj he
 simp only [hi,Option.map_some,Option.some.injEq] at hz
 obtain ⟨z,hz,hzs⟩:=Option.map_eq_some_iff.1 hz
 have ho1:w.ownsRow 0 e 8 (.slice (some ⟨b,0,none⟩) n cap) n xs:=⟨hxl,.inr ⟨b,cap,c,rfl,Nat.zero_le _,hc,hnc,hcm,hcs,htk⟩⟩
 have hbb:(n+m)*by_≤140737488355328:=Nat.le_trans (Nat.mul_le_mul hn hb) (by omega)
 have hra':∀ j u,ys[j]?=some u→w.cell? ((⟨b2,0,none⟩:Addr).add j)=some u:=fun j u hu=>by rw [Addr.add_mid];exact hra j u hu
 obtain ⟨v',w',hrun,hown',hgrow,hnil⟩:=run_append_own (P:=P) w 0 t ty e i z 8 by_ ht hi hz hs hby hzs (by omega) _ n xs ho1 ⟨b2,0,none⟩ m cap2 ys hyl hra' ho (by rw [zak];omega) hbb (Nat.zero_le _)
 have hcl:c.toList.length=cap*8:=by rw [Array.length_toList,hcs]
 by_cases hroom:n+m≤cap
 · have hr2:=run_append_room (P:=P) w t ty e i ht hi b n cap c hc ⟨b2,0,none⟩ m cap2 ys (by rw [hs];exact hyl) hra' ho hroom (by rw [hs,hyl,hcs];omega)
   have hset:=setRow_heap w b c ((c.toList.take (n*i.size)++ys++c.toList.drop (n*i.size+ys.length)).toArray) e _ hc
   rw [hs] at hr2 hset
   have htl:(c.toList.take (n*8)).length=n*8:=by rw [List.length_take,hcl];omega
   refine ⟨_,_,hr2,k1 hroom _ _ (zbT w b _) ⟨c,_,hc,hset,?_,hcs,?_⟩ ⟨rfl,_,hset,?_,hroom,hcm,?_,?_⟩⟩
   · simp only [List.size_toArray,List.length_append,List.length_drop,htl,hcl,hyl,hcs];omega
   · rw [List.append_assoc,List.take_append_of_le_length (by omega)]
     rw [List.take_of_length_le (by omega)]
   · simp only [List.size_toArray,List.length_append,List.length_drop,htl,hcl,hyl];omega
   · rw [htk,List.take_append_of_le_length (by rw [List.length_append,hxl,hyl];omega),List.take_of_length_le (by rw [List.length_append,hxl,hyl];omega)]
   rw [List.length_append,hxl,hyl];omega
 have hr2:=run_append_grow (P:=P) w t ty e i z ht hi hz ⟨b,0,none⟩ n cap xs (by rw [hs];exact hxl) (ho1.cells (g:=b) rfl) ⟨b2,0,none⟩ m cap2 ys (by rw [hs];exact hyl) hra' (by omega) (by omega) (growslice_fits (by omega) (by rw [hby];exact hbb))
 have hrun':(Builtin.append_ #[t,t] ty #[.slice (some ⟨b,0,none⟩) n cap,.slice (some ⟨b2,0,none⟩) m cap2]).run P w=.ok v' w':=hrun
 rw [hr2] at hrun'
 simp only [Result.ok.injEq] at hrun'
 have hx:Ext w w':=by rw [←hrun'.2];exact (zao w).trans (zaw w.drew _)
 rcases hown'.2 with ⟨_,h0⟩ | ⟨g',cap',cur',hv',_,hg',h1,h2,h3,h4⟩
 · omega
 have hgs:g'=w.heap.size:=by
   rw [←hrun'.1] at hv'
   simp only [Value.slice.injEq,Option.some.injEq,Addr.mk.injEq] at hv'
   exact hv'.1.1.symm
 exact ⟨v',w',hrun,k2 w' v' g' cap' hx (by omega) ⟨hv',cur',hg',h3,h1,h2,h4,hown'.1⟩⟩
theorem zc2 {t by_ s:Nat} {ag:Bool} {zs vs:List Value} {parts:Array (Nat×Value)} {K:Value→World→Prop} (ht:P.underlying t=some (.slice e)) (he:tyI P e=some (s,by_,ag)) (hz:zbt P e=some zs) (hzl:zs.length=s) (hs:0<s∧s≤100) (hn:0<n∧n≤1000)
   (hf:Instr.fill (fun i=>some (i*s,s)) ((Array.range (n*s)).map fun i=>(zs.toArray)[i%s]!) parts.toList=some vs.toArray)
   (k:∀ w',Ext w w'→Blk w.heap.size e w' vs→K (.slice (some ⟨w.heap.size,0,none⟩) n n) w'):OP P (Instr.buildSlice t n parts) w K:=by
 unfold zbt at hz
 cases hi:P.info? e with
 | none=>simp [hi] at hz
 | some i=>
   simp only [hi] at hz
   obtain ⟨v,hv,hvc⟩:=Option.map_eq_some_iff.1 hz
   have hvc':v.cells=zs.toArray:=Array.ext' (by simpa using hvc)
   have hB:Blk w.heap.size e (w.alloc (.cells vs.toArray e)) vs:=heap_alloc_new w _
   refine ⟨.slice (some ⟨w.heap.size,0,none⟩) n n,w.alloc (.cells vs.toArray e),?_,k _ (zaw w _) hB⟩
   have hns:n*s≤1000*100:=Nat.mul_le_mul hn.2 hs.2
   have hne:¬n*s=0:=Nat.ne_of_gt (Nat.mul_pos hn.1 hs.1)
   have h24:¬2^24<n*s:=by omega
   have hzr:(zeroValue e).run P w=.ok v w:=by simp [zeroValue,typeInfo,hi,hv]
   have hsz:zs.toArray.size=s:=by simp [hzl]
   simp only [Instr.buildSlice,Sem.run_bind,run_underlying ht,Result.andThen_ok,zar he]
   simp only [h24,hne,if_false,Sem.run_bind,Sem.run_pure,Result.andThen_ok,hzr,hvc',hsz]
   rw [hf]
   rfl
theorem zkE {t by_:Nat} {zs cs:List Value} {K:Value→World→Prop} (hz:zbt P t=some zs) (hzl:zs.length=8) (ht:tyI P t=some (8,by_,true)) (hl:cs.length=8) (ho:∀ v∈cs,v.oneCell'=true)
   (k:∀ w',Ext w w'→Blk w.heap.size t w' cs→K (.pointer (some ⟨w.heap.size,0,none⟩)) w'):OP P (Instr.alloc t true (.tuple #[])) w fun p w1=>OPU P (Instr.storeAt t p (.agg cs.toArray)) w1 fun w2=>K p w2:=by
 refine zcm hz fun w1 hx1 hB1=>?_
 obtain ⟨r8,_,hp⟩:=zn8 (w:=w1) hl ho
 refine ze0 (α:=Raw8) (x:=r8) (lo:=0) (hi:=0) ht rfl hB1 hzl ⟨[],⟨⟨cs,hp,rfl⟩,List.nodup_nil,Wr.nil _⟩,by simp⟩ fun w2 hc2 hB2=>?_
 exact k w2 (hx1.chgI hc2 (Nat.le_refl _)) hB2
end
structure GR (tS tP n0 s m jin jst j:Nat) (w w':World):Prop where
 os:w'.os=w.os
 tape:w'.tape=w.tape
 output:w'.output=w.output
 size:w.heap.size≤w'.heap.size
 blk:∀ b,b<w.heap.size→w'.heap[b]?=w.heap[b]?∨(n0≤b∧((j=jin∧0<s∧∃ c c',w.heap[b]?=some (.cells c tS (0,0))∧w'.heap[b]?=some (.cells c' tS (0,0))∧c'.size=c.size∧(s+m)*8≤c.size∧c'.toList.take (s*8)=c.toList.take (s*8)) ∨
   (j=jst∧∃ c c',w.heap[b]?=some (.cells c tP (0,0))∧w'.heap[b]?=some (.cells c' tP (0,0))∧c'.size=c.size)))
section
variable {tS tP s m jin jst j:Nat} {W w w':World} {b e:Nat}
theorem GR.ext {n0:Nat} (hx:Ext w w'):GR tS tP n0 s m jin jst j w w':=⟨hx.os,hx.tape,hx.output,hx.size,fun b hb=>.inl (hx.heap hb)⟩
theorem GR.out (hx:Ext W w) (h:GR tS tP W.heap.size s m jin jst j w w'):Ext W w':=⟨h.os.trans hx.os,h.tape.trans hx.tape,h.output.trans hx.output,Nat.le_trans hx.size h.size,fun b hb=>by
 rcases h.blk b (Nat.lt_of_lt_of_le hb hx.size) with k | k
 · rw [k];exact hx.heap hb
 omega⟩
variable {n0:Nat}
theorem GR.other {cs:List Value} (h:GR tS tP n0 s m jin jst j w w') (hB:Blk b e w cs) (h1:e≠tS) (h2:e≠tP):Blk b e w' cs:=by
 have hB':w.heap[b]?=some (.cells cs.toArray e (0,0)):=hB
 unfold Blk
 rcases h.blk b hB.lt with k | ⟨_,⟨_,_,c,c',k,_⟩ | ⟨_,c,c',k,_⟩⟩
 · rw [k];exact hB
 · rw [hB'] at k
   simp only [Option.some.injEq,Obj.cells.injEq] at k
   exact absurd k.2.1 h1
 rw [hB'] at k
 simp only [Option.some.injEq,Obj.cells.injEq] at k
 exact absurd k.2.1 h2
theorem GR.small {cs:List Value} (h:GR tS tP n0 s m jin jst j w w') (hB:Blk b tS w cs) (h1:cs.length≤m*8) (h2:tS≠tP):Blk b tS w' cs:=by
 have hB':w.heap[b]?=some (.cells cs.toArray tS (0,0)):=hB
 unfold Blk
 rcases h.blk b hB.lt with k | ⟨_,⟨_,h0,c,c',k,_,_,hl,_⟩ | ⟨_,c,c',k,_⟩⟩
 · rw [k];exact hB
 · rw [hB'] at k
   simp only [Option.some.injEq,Obj.cells.injEq] at k
   rw [←k.1,List.size_toArray] at hl
   omega
 rw [hB'] at k
 simp only [Option.some.injEq,Obj.cells.injEq] at k
 exact absurd k.2.1 h2
theorem GR.head {cap:Nat} {v:Value} {xs:List Value} (h:GR tS tP n0 s m jin jst j w w') (hB:SlB tS w b cap v s xs) (h2:tS≠tP):SlB tS w' b cap v s xs:=by
 rcases h.blk b hB.lt with k | ⟨_,⟨_,_,c,c',k,k',hs,_,ht⟩ | ⟨_,c,c',k,_⟩⟩
 · exact hB.keep k
 · obtain ⟨hv,d,hd,h1,h3,h4,h5,h6⟩:=hB
   rw [hd] at k
   simp only [Option.some.injEq,Obj.cells.injEq,and_true] at k
   subst k
   exact ⟨hv,c',k',by rw [hs];exact h1,h3,h4,by rw [ht];exact h5,h6⟩
 obtain ⟨hv,d,hd,_⟩:=hB
 rw [hd] at k
 simp only [Option.some.injEq,Obj.cells.injEq] at k
 exact absurd k.2.1 h2
theorem GR.all {cap n:Nat} {v:Value} {xs:List Value} (h:GR tS tP n0 s m jin jst j w w') (hB:SlB tS w b cap v n xs) (hj:j≠jin) (h2:tS≠tP):SlB tS w' b cap v n xs:=by
 rcases h.blk b hB.lt with k | ⟨_,⟨e1,_⟩ | ⟨_,c,c',k,_⟩⟩
 · exact hB.keep k
 · exact absurd e1 hj
 obtain ⟨hv,d,hd,_⟩:=hB
 rw [hd] at k
 simp only [Option.some.injEq,Obj.cells.injEq] at k
 exact absurd k.2.1 h2
theorem GR.prog {cs:List Value} (h:GR tS tP n0 s m jin jst j w w') (hB:Blk b tP w cs) (hj:j≠jst) (h2:tP≠tS):Blk b tP w' cs:=by
 have hB':w.heap[b]?=some (.cells cs.toArray tP (0,0)):=hB
 unfold Blk
 rcases h.blk b hB.lt with k | ⟨_,⟨_,_,c,c',k,_⟩ | ⟨e1,_⟩⟩
 · rw [k];exact hB
 · rw [hB'] at k
   simp only [Option.some.injEq,Obj.cells.injEq] at k
   exact absurd k.2.1 h2
 exact absurd e1 hj
theorem GR.var {cs:List Value} (h:GR tS tP n0 s m jin jst j w w') (hB:Blk b tP w cs) (h2:tP≠tS):∃ ds,Blk b tP w' ds∧ds.length=cs.length:=by
 have hB':w.heap[b]?=some (.cells cs.toArray tP (0,0)):=hB
 rcases h.blk b hB.lt with k | ⟨_,⟨_,_,c,c',k,_⟩ | ⟨e1,c,c',k,k',hs⟩⟩
 · exact ⟨cs,by unfold Blk;rw [k];exact hB,rfl⟩
 · rw [hB'] at k
   simp only [Option.some.injEq,Obj.cells.injEq] at k
   exact absurd k.2.1 h2
 rw [hB'] at k
 simp only [Option.some.injEq,Obj.cells.injEq,and_true] at k
 exact ⟨c'.toList,by unfold Blk;simpa using k',by rw [Array.length_toList,hs,←k];simp⟩
end
end Go.Sh
namespace Go.Proofs.YtcnglfeoglgebaaGreat
open Go Go.Sh Go.Proofs
open Rep (rep)
def stC (k:Int) (s:ByteArray):List Value:=[.int .i64 k,.string s,.int .i64 0,.int .i64 0,.string nO,.slice none 0 0,.slice none 0 0,.slice none 0 0]
theorem ziA {w:World} {k:Int} {s:ByteArray} (hk:I64 k) (hs:s.size≤maxLen):rep [] w (stC k s) (DStmt.mk k s zaM [] []):=by
 obtain ⟨F,⟨⟨cs,hr,hv⟩,_,_⟩,hF⟩:OwnI 0 0 w (.agg (stC k s).toArray) (DStmt.mk k s zaM [] []):=
   mkS (l0:=0) (h0:=0) (l1:=0) (h1:=0) (l2:=0) (h2:=0) hk hs zel zd0 zd0 (by omega) (by omega) (by omega) (by omega) (by omega) (by omega)
 have:F=[]:=List.eq_nil_iff_forall_not_mem.2 fun c hc=>by have:=hF c hc;omega
 subst this
 have hcs:(stC k s).toArray=cs.toArray:=by simpa [mkv,Rep.agg] using hv
 have hcs:stC k s=cs:=by simpa using congrArg Array.toList hcs
 rw [hcs];exact hr
theorem zsm {w:World}:slc 0 (([]:List DStmt)=[]) w [] (.slice none 0 0) (fun Fi xs=>zbS [] Fi w xs):=⟨none,0,[],[],rfl,Nat.le_refl _,Nat.zero_le _,by simp [zbS],.inl ⟨rfl,rfl⟩⟩
theorem zpm {w:World} {F:List Nat} {a b c d:Value} {t:DTerm} (h:rep F w [a,b,c,d] t):rep F w [.int .i64 1,.string nX,a,b,c,d,.slice none 0 0,.slice none 0 0] (zp0 t):=by
 show zkq (.mk 1 nX t [] []) F w _
 rw [zkq]
 exact ⟨F,[a,b,c,d],[],.slice none 0 0,[],.slice none 0 0,by simp,rfl,by unfold I64;omega,by decide,h,zsm,zsm⟩
def skR:Raw8:=(⟨.int .i64 8⟩,⟨.string nO⟩,⟨.int .i64 0⟩,⟨.int .i64 0⟩,⟨.string nO⟩,⟨.slice none 0 0⟩,⟨.slice none 0 0⟩,⟨.slice none 0 0⟩)
def skC (s:Nat):List Value:=fl8 (List.replicate s skR)
theorem zf8 {w:World}:∀ s,Cells [] w (skC s) (List.replicate s znV)
 | 0=>⟨rfl,rfl⟩
 | s+1=>⟨[],[],stC 8 nO,skC s,rfl,rfl,ziA (by unfold I64;omega) (by decide),zf8 s⟩
theorem zkF:∀ s,∀ x∈skC s,x.oneCell'=true
 | 0,x,h=>by cases h
 | s+1,x,h=>by
   have h:x∈stC 8 nO++skC s:=h
   rcases List.mem_append.1 h with h | h
   · simp only [stC,List.mem_cons,List.not_mem_nil,or_false] at h
     rcases h with h | h | h | h | h | h | h | h<;>(rw [h];rfl)
   exact zkF s x h
theorem zlC {w:World} {gp g0 g1 gl b1 c1 b2 c2 s:Nat} {v1 v2 ta tb tc td:Value} {t:DTerm} {Ft:List Nat} {lk:Bool} {ys:List Value} (hP:Blk gp 27 w [.slice (some ⟨g0,0,none⟩) 4 4,.slice (some ⟨g1,0,none⟩) 1 1,.slice (some ⟨gl,0,none⟩) 2 2])
   (h0:Blk g0 9 w (glb.map Value.string)) (h1:Blk g1 9 w [.string nA]) (hl:Blk gl 32 w [.string zbz,v1,.string nP,v2]) (ht:rep Ft w [ta,tb,tc,td] t)
   (hb1:SlB 56 w b1 c1 v1 (1+s+3) (stC 5 nP++skC s++(stC 6 nA++([.int .i64 1,.string nX,ta,tb,tc,td,.slice none 0 0,.slice none 0 0]++stC 7 nA))))
   (hb2:SlB 56 w b2 c2 v2 (s+if lk then 3 else 1) (skC s++ys)) (hy:ys=if lk then stC 6 nA++([.int .i64 1,.string nX,ta,tb,tc,td,.slice none 0 0,.slice none 0 0]++stC 7 nA) else [.int .i64 1,.string nX,ta,tb,tc,td,.slice none 0 0,.slice none 0 0]) :
   At w gp 0 (zhc t s lk):=by
 have hL:=ziA (w:=w) (k:=6) (s:=nA) (by unfold I64;omega) (by decide)
 have hU:=ziA (w:=w) (k:=7) (s:=nA) (by unfold I64;omega) (by decide)
 have hS:=ziA (w:=w) (k:=5) (s:=nP) (by unfold I64;omega) (by decide)
 have hT:=zpm ht
 have c3:∃ F,Cells F w (stC 6 nA++([.int .i64 1,.string nX,ta,tb,tc,td,.slice none 0 0,.slice none 0 0]++stC 7 nA)) [zmf nA,zp0 t,zfG nA]:=
   ⟨_,Cells.append (l:=[zmf nA]) (Cells.single hL) (Cells.append (l:=[zp0 t]) (Cells.single hT) (Cells.single (x:=zfG nA) hU))⟩
 obtain ⟨F3,c3⟩:=c3
 have cm:=Cells.append (l:=zdI nP :: List.replicate s znV) (Cells.append (l:=[zdI nP]) (Cells.single hS) (zf8 s)) c3
 have cm:Cells _ w _ (zdI nP :: zbC t s true):=cm
 have cp:∃ F,Cells F w (skC s++ys) (zbC t s lk):=by
   rw [hy]
   unfold zbC
   cases lk with
   | true=>exact ⟨_,Cells.append (zf8 s) c3⟩
   | false=>exact ⟨_,Cells.append (zf8 s) (Cells.single hT)⟩
 obtain ⟨Fp,cp⟩:=cp
 have lm:(zdI nP :: zbC t s true).length=1+s+3:=by simp [zbC];omega
 have lp:(zbC t s lk).length=s+if lk then 3 else 1:=by unfold zbC;cases lk<;>simp
 have rm:=hb1.rep cm lm
 have rp:=hb2.rep cp lp
 have str:∀ (x:ByteArray),x.size≤maxLen→rep [] w [.string x] x:=fun x hx=>⟨rfl,rfl,hx⟩
 have r1:rep _ w [.string zbz,v1] (⟨zbz,zdI nP :: zbC t s true⟩:DProc):=zaj (str zbz (by decide)) rm
 have r2:rep _ w [.string nP,v2] (⟨nP,zbC t s lk⟩:DProc):=zaj (str nP (by decide)) rp
 have cl:∃ F,Cells F w [.string zbz,v1,.string nP,v2] [(⟨zbz,zdI nP :: zbC t s true⟩:DProc),⟨nP,zbC t s lk⟩]:=⟨_,Cells.append (Cells.single r1) (Cells.single r2)⟩
 obtain ⟨Fl,cl⟩:=cl
 have q0:rep [g0] w [.slice (some ⟨g0,0,none⟩) 4 4] glb:=⟨_,4,[],_,rfl,Nat.le_refl _,by rw [zak];omega,zek (by decide),.inr ⟨g0,0,rfl,rfl,h0.range,h0.lt⟩⟩
 have q1:rep [g1] w [.slice (some ⟨g1,0,none⟩) 1 1] [nA]:=⟨_,1,[],_,rfl,Nat.le_refl _,by rw [zak];omega,zek (l:=[nA]) (by decide),.inr ⟨g1,0,rfl,rfl,h1.range,h1.lt⟩⟩
 have q2:rep (gl :: Fl) w [.slice (some ⟨gl,0,none⟩) 2 2] [(⟨zbz,zdI nP :: zbC t s true⟩:DProc),⟨nP,zbC t s lk⟩]:=⟨_,2,Fl,_,rfl,Nat.le_refl _,by rw [zak];omega,cl,.inr ⟨gl,0,rfl,rfl,hl.range,hl.lt⟩⟩
 exact hP.at (x:=zhc t s lk) (zaj q0 (zaj q1 q2))
structure DArc where
 fr:Int
 to:Int
theorem DArc.ext_iff {x y:DArc}:x=y↔(x.fr=y.fr∧x.to=y.to):=⟨fun h=>by rw [h];exact ⟨rfl,rfl⟩,fun h=>by obtain ⟨h0,h1⟩:=h;cases x;cases y;simp only at h0 h1;simp only [h0,h1]⟩
instance:DecidableEq DArc:=fun x y=>decidable_of_iff (x.fr=y.fr∧x.to=y.to) DArc.ext_iff.symm
instance:Rep DArc:=Rep.via fun x=>(x.fr,x.to)
instance:RepZ DArc:=⟨⟨(RepZ.zv:Int),(RepZ.zv:Int)⟩,RepZ.zc (Int×Int),fun w=>RepZ.zr (α:=Int×Int) w⟩
instance:Flat DArc:=⟨fun h=>Flat.flat (α:=Int×Int) h⟩
end Go.Proofs.YtcnglfeoglgebaaGreat
namespace Go.Proofs.YtcnglfeoglgebaaGreat
open Go Go.Sh Go.Proofs Go.Sort
open Rep (rep)
def hd0 (l:List Int):Int:=l.headD 0
end Go.Proofs.YtcnglfeoglgebaaGreat
namespace Go.Sh
open Rep (rep)
instance:Rep Nat where
 size:=1
 agg:=false
 rep F _ cs x:=F=[]∧cs=[.int .u64 (x:Int)]∧x<18446744073709551616
 pos:=by decide
 sz _:=rfl
 len:=by rintro _ _ _ _ ⟨_,rfl,_⟩;rfl
 one:=by rintro _ _ _ _ ⟨_,rfl,_⟩ v hv;simp at hv;subst hv;rfl
 keep:=by rintro _ _ _ _ _ h _;exact h
 lt:=by rintro _ _ _ _ ⟨rfl,_⟩ b hb;cases hb
instance:Flat Nat:=⟨fun h=>h.1⟩
instance:RepZ Nat:=⟨0,[.int .u64 0],fun _=>⟨rfl,rfl,by decide⟩⟩
section
variable {P:Program} {w w0:World} {K:Value→Prop} {t:TypeId} {x y:Operand}
end
end Go.Sh
namespace Go.Proofs.YtcnglfeoglgebaaGreat
open Go Go.Sh Go.Proofs
open Rep (rep)
def F7 (a0:Value) (w:World) (R:VW):Prop:=
 rN 22 3 a0 w fun x4=>
 rB .gtr 3 T0 U0 x4 (iV 1048576) w fun x5=>
 R x5 w
def cfg7:Cfg:=⟨extL,[],[],[],[],[],[]⟩
theorem F7_call {a0:Value} {w:World} {R:VW} (h:F7 a0 w R):cL 7 [a0] w R:=co (g:=cfg7) Tryz.func7 (by kernel_rfl) (by kernel_rfl) (by kernel_rfl) h
theorem zrK {w:World} {v0:Value} {W0:World} {bs:(List UInt8)}  (h0:Is W0 v0 bs) (e0:Ext W0 w)  :
   CALL Tryz.prog 7 [v0] w fun r w'=>Ext w w'∧(r=.bool (decide ((1048576:Int)<bs.length))):=by
 refine F7_call ?_
 unfold F7
 have hln4:=zan h0
 refine zaf u22 h0 ?_
 refine zdP ?_
 refine ⟨Ext.refl w,?_⟩
 rfl
def F19 (a0:Value) (w:World) (R:VW):Prop:=
 oP (Instr.alloc 53 true (.tuple #[])) w fun x2 w=>
 cL 41 [a0] w fun x4 w=>
 cL 60 [x4,(iV 3)] w fun x5 w=>
 oS 53 x2 x5 w fun w=>
 rD (zbG 53 x2) w fun r2=>R r2 w
def cfg19:Cfg:=⟨extL,[],[],[],[],[],[]⟩
theorem F19_call {a0:Value} {w:World} {R:VW} (h:F19 a0 w R):cL 19 [a0] w R:=co (g:=cfg19) Tryz.func19 (by kernel_rfl) (by kernel_rfl) (by kernel_rfl) h
def F4 (a0:Value) (w:World) (R:VW):Prop:=
 cL 7 [a0] w fun x21 w=>
 BR x21
 (R (Value.bool true) w)
 (cL 19 [a0] w fun x23 w=>
 oP (Instr.alloc 53 true (.tuple #[])) w fun x3 w=>
 oS 53 x3 x23 w fun w=>
 cL 20 [a0] w fun x25 w=>
 rD (Instr.build 56 #[(0,(iV 6)),(1,(Value.string (ByteArray.mk #[97])))]) w fun x26=>
 oP (Instr.alloc 56 true (.tuple #[])) w fun x5 w=>
 oS 56 x5 x26 w fun w=>
 rL 53 x3 w fun x27=>
 rD (Instr.build 56 #[(0,(iV 1)),(1,(Value.string (ByteArray.mk #[120]))),(2,x27)]) w fun x28=>
 oP (Instr.alloc 56 true (.tuple #[])) w fun x6 w=>
 oS 56 x6 x28 w fun w=>
 rD (Instr.build 56 #[(0,(iV 7)),(1,(Value.string (ByteArray.mk #[97])))]) w fun x29=>
 oP (Instr.alloc 56 true (.tuple #[])) w fun x7 w=>
 oS 56 x7 x29 w fun w=>
 oP (Instr.buildSlice 29 0 #[]) w fun x30 w=>
 LOOPI [8,9] [x30,(iV 0)] w fun u10 w next10=>
 rX 33 x25 (iV 0) w fun x33=>
 rL 3 x33 w fun x34=>
 rB .rem 3 T0 U0 x34 (iV 4) w fun x35=>
 rC (u10 9) x35 w fun x36=>
 BR x36
 (rD (Instr.build 56 #[(0,(iV 8))]) w fun x40=>
 oP (Instr.buildSlice 29 1 #[(0,x40)]) w fun x41 w=>
 oP (Builtin.append_ #[29,29] 29 [(u10 8),x41].toArray) w fun x42 w=>
 rA (u10 9) (iV 1) w fun x38=>
 next10 [x42,x38] w)
 ((fun w0=>PAR w0 [[(0,43)],[(1,44),(0,43)],[(2,45)],[(3,46),(1,44),(2,45)],[(4,47)],[(5,48)],[(6,49)],[(7,50),(4,47),(5,48),(6,49)]] (fun Q=>
 (∀ (u13:Env) (T:Nat→Nat×Nat) (w:World),Ext w0 w→zau [] w0.heap.size w.heap.size T→(True)→(fun w1=>rD (Instr.build 56 #[(0,(iV 5)),(1,(Value.string (ByteArray.mk #[112])))]) w fun x43=>
 Ext w1 w∧Q 0 (upd u13 43 x43) (za3 T 0 (w1.heap.size,w.heap.size)) w) w) ∧
 (∀ (u13:Env) (T:Nat→Nat×Nat) (w:World),Ext w0 w→zau [0] w0.heap.size w.heap.size T→(Q 0 u13 T w∧True)→(fun w1=>oP (Instr.buildSlice 29 1 #[(0,(u13 43))]) w fun x44 w=>
 Ext w1 w∧Q 1 (upd u13 44 x44) (za3 T 1 (w1.heap.size,w.heap.size)) w) w) ∧
 (∀ (u13:Env) (T:Nat→Nat×Nat) (w:World),Ext w0 w→zau [] w0.heap.size w.heap.size T→(True)→(fun w1=>Ext w1 w∧Q 2 (upd u13 45 (u10 8)) (za3 T 2 (w1.heap.size,w.heap.size)) w) w) ∧
 (∀ (u13:Env) (T:Nat→Nat×Nat) (w:World),Ext w0 w→zau [1,2] w0.heap.size w.heap.size T→(Q 1 u13 T w∧Q 2 u13 T w∧True)→(fun w1=>oP (Builtin.append_ #[29,29] 29 [(u13 44),(u13 45)].toArray) w fun x46 w=>
 Ext w1 w∧Q 3 (upd u13 46 x46) (za3 T 3 (w1.heap.size,w.heap.size)) w) w) ∧
 (∀ (u13:Env) (T:Nat→Nat×Nat) (w:World),Ext w0 w→zau [] w0.heap.size w.heap.size T→(True)→(fun w1=>rL 56 x5 w fun x47=>
 Ext w1 w∧Q 4 (upd u13 47 x47) (za3 T 4 (w1.heap.size,w.heap.size)) w) w) ∧
 (∀ (u13:Env) (T:Nat→Nat×Nat) (w:World),Ext w0 w→zau [] w0.heap.size w.heap.size T→(True)→(fun w1=>rL 56 x6 w fun x48=>
 Ext w1 w∧Q 5 (upd u13 48 x48) (za3 T 5 (w1.heap.size,w.heap.size)) w) w) ∧
 (∀ (u13:Env) (T:Nat→Nat×Nat) (w:World),Ext w0 w→zau [] w0.heap.size w.heap.size T→(True)→(fun w1=>rL 56 x7 w fun x49=>
 Ext w1 w∧Q 6 (upd u13 49 x49) (za3 T 6 (w1.heap.size,w.heap.size)) w) w) ∧
 (∀ (u13:Env) (T:Nat→Nat×Nat) (w:World),Ext w0 w→zau [4,5,6] w0.heap.size w.heap.size T→(Q 4 u13 T w∧Q 5 u13 T w∧Q 6 u13 T w∧True)→(fun w1=>oP (Instr.buildSlice 29 3 #[(0,(u13 47)),(1,(u13 48)),(2,(u13 49))]) w fun x50 w=>
 Ext w1 w∧Q 7 (upd u13 50 x50) (za3 T 7 (w1.heap.size,w.heap.size)) w) w) ∧
 True)
 (fun Q=>∀ (u13:Env) (T:Nat→Nat×Nat) (w:World),Ext w0 w→zau [0,1,2,3,4,5,6,7] w0.heap.size w.heap.size T→(Q 0 u13 T w∧Q 1 u13 T w∧Q 2 u13 T w∧Q 3 u13 T w∧Q 4 u13 T w∧Q 5 u13 T w∧Q 6 u13 T w∧Q 7 u13 T w∧True) →
 oP (Builtin.append_ #[29,29] 29 [(u13 46),(u13 50)].toArray) w fun x51 w=>
 (fun w0=>GPAR w0 [[(0,52)],[(1,53)],[(2,54)],[(3,55),(2,54)],[(4,56)],[(5,57)],[(6,58),(4,56),(5,57)],[(7,59)],[(8,60)],[(9,61)],[(10,62),(7,59),(8,60),(9,61)],[(11,63),(6,58),(10,62),(6,58)],[(12,64),(11,63)],[(13,65),(3,55),(12,64)],[(14,66),(0,52),(1,53),(13,65)],[(15,11)],[(15,11),(14,66),(11,63),(0,52),(1,53),(2,54),(3,55),(4,56),(5,57),(6,58),(7,59),(8,60),(9,61),(10,62),(11,63),(12,64),(13,65),(14,66),(15,11)]] (fun B R Q=>
 (∀ (u14:Env) (T:Nat→Nat×Nat) (w:World),B w→w0.heap.size≤w.heap.size→zau [] w0.heap.size w.heap.size T→(True)→(fun w1=>oP (Instr.buildSlice 24 4 #[(0,(Value.string (ByteArray.mk #[120]))),(1,(Value.string (ByteArray.mk #[121]))),(2,(Value.string (ByteArray.mk #[122]))),(3,(Value.string (ByteArray.mk #[117])))]) w fun x52 w=>
 R 0 w1 w∧Q 0 (upd u14 52 x52) (za3 T 0 (w1.heap.size,w.heap.size)) w) w) ∧
 (∀ (u14:Env) (T:Nat→Nat×Nat) (w:World),B w→w0.heap.size≤w.heap.size→zau [] w0.heap.size w.heap.size T→(True)→(fun w1=>oP (Instr.buildSlice 24 1 #[(0,(Value.string (ByteArray.mk #[97])))]) w fun x53 w=>
 R 1 w1 w∧Q 1 (upd u14 53 x53) (za3 T 1 (w1.heap.size,w.heap.size)) w) w) ∧
 (∀ (u14:Env) (T:Nat→Nat×Nat) (w:World),B w→w0.heap.size≤w.heap.size→zau [] w0.heap.size w.heap.size T→(True)→(fun w1=>R 2 w1 w∧Q 2 (upd u14 54 x51) (za3 T 2 (w1.heap.size,w.heap.size)) w) w) ∧
 (∀ (u14:Env) (T:Nat→Nat×Nat) (w:World),B w→w0.heap.size≤w.heap.size→zau [2] w0.heap.size w.heap.size T→(Q 2 u14 T w∧True)→(fun w1=>rD (Instr.build 32 #[(0,(Value.string (ByteArray.mk #[109,97,105,110]))),(1,(u14 54))]) w fun x55=>
 R 3 w1 w∧Q 3 (upd u14 55 x55) (za3 T 3 (w1.heap.size,w.heap.size)) w) w) ∧
 (∀ (u14:Env) (T:Nat→Nat×Nat) (w:World),B w→w0.heap.size≤w.heap.size→zau [] w0.heap.size w.heap.size T→(True)→(fun w1=>oP (Instr.buildSlice 29 0 #[]) w fun x56 w=>
 R 4 w1 w∧Q 4 (upd u14 56 x56) (za3 T 4 (w1.heap.size,w.heap.size)) w) w) ∧
 (∀ (u14:Env) (T:Nat→Nat×Nat) (w:World),B w→w0.heap.size≤w.heap.size→zau [] w0.heap.size w.heap.size T→(True)→(fun w1=>R 5 w1 w∧Q 5 (upd u14 57 (u10 8)) (za3 T 5 (w1.heap.size,w.heap.size)) w) w) ∧
 (∀ (u14:Env) (T:Nat→Nat×Nat) (w:World),B w→w0.heap.size≤w.heap.size→zau [4,5] w0.heap.size w.heap.size T→(Q 4 u14 T w∧Q 5 u14 T w∧True)→(fun w1=>oP (Builtin.append_ #[29,29] 29 [(u14 56),(u14 57)].toArray) w fun x58 w=>
 R 6 w1 w∧Q 6 (upd u14 58 x58) (za3 T 6 (w1.heap.size,w.heap.size)) w) w) ∧
 (∀ (u14:Env) (T:Nat→Nat×Nat) (w:World),B w→w0.heap.size≤w.heap.size→zau [] w0.heap.size w.heap.size T→(True)→(fun w1=>rL 56 x5 w fun x59=>
 R 7 w1 w∧Q 7 (upd u14 59 x59) (za3 T 7 (w1.heap.size,w.heap.size)) w) w) ∧
 (∀ (u14:Env) (T:Nat→Nat×Nat) (w:World),B w→w0.heap.size≤w.heap.size→zau [] w0.heap.size w.heap.size T→(True)→(fun w1=>rL 56 x6 w fun x60=>
 R 8 w1 w∧Q 8 (upd u14 60 x60) (za3 T 8 (w1.heap.size,w.heap.size)) w) w) ∧
 (∀ (u14:Env) (T:Nat→Nat×Nat) (w:World),B w→w0.heap.size≤w.heap.size→zau [] w0.heap.size w.heap.size T→(True)→(fun w1=>rL 56 x7 w fun x61=>
 R 9 w1 w∧Q 9 (upd u14 61 x61) (za3 T 9 (w1.heap.size,w.heap.size)) w) w) ∧
 (∀ (u14:Env) (T:Nat→Nat×Nat) (w:World),B w→w0.heap.size≤w.heap.size→zau [7,8,9] w0.heap.size w.heap.size T→(Q 7 u14 T w∧Q 8 u14 T w∧Q 9 u14 T w∧True)→(fun w1=>oP (Instr.buildSlice 29 3 #[(0,(u14 59)),(1,(u14 60)),(2,(u14 61))]) w fun x62 w=>
 R 10 w1 w∧Q 10 (upd u14 62 x62) (za3 T 10 (w1.heap.size,w.heap.size)) w) w) ∧
 (∀ (u14:Env) (T:Nat→Nat×Nat) (w:World),B w→w0.heap.size≤w.heap.size→zau [6,10,6] w0.heap.size w.heap.size T→(Q 6 u14 T w∧Q 10 u14 T w∧Q 6 u14 T w∧True)→(fun w1=>oP (Builtin.append_ #[29,29] 29 [(u14 58),(u14 62)].toArray) w fun x63 w=>
 R 11 w1 w∧Q 11 (upd u14 63 x63) (za3 T 11 (w1.heap.size,w.heap.size)) w) w) ∧
 (∀ (u14:Env) (T:Nat→Nat×Nat) (w:World),B w→w0.heap.size≤w.heap.size→zau [11] w0.heap.size w.heap.size T→(Q 11 u14 T w∧True)→(fun w1=>rD (Instr.build 32 #[(0,(Value.string (ByteArray.mk #[112]))),(1,(u14 63))]) w fun x64=>
 R 12 w1 w∧Q 12 (upd u14 64 x64) (za3 T 12 (w1.heap.size,w.heap.size)) w) w) ∧
 (∀ (u14:Env) (T:Nat→Nat×Nat) (w:World),B w→w0.heap.size≤w.heap.size→zau [3,12] w0.heap.size w.heap.size T→(Q 3 u14 T w∧Q 12 u14 T w∧True)→(fun w1=>oP (Instr.buildSlice 25 2 #[(0,(u14 55)),(1,(u14 64))]) w fun x65 w=>
 R 13 w1 w∧Q 13 (upd u14 65 x65) (za3 T 13 (w1.heap.size,w.heap.size)) w) w) ∧
 (∀ (u14:Env) (T:Nat→Nat×Nat) (w:World),B w→w0.heap.size≤w.heap.size→zau [0,1,13] w0.heap.size w.heap.size T→(Q 0 u14 T w∧Q 1 u14 T w∧Q 13 u14 T w∧True)→(fun w1=>rD (Instr.build 27 #[(0,(u14 52)),(1,(u14 53)),(2,(u14 65))]) w fun x66=>
 R 14 w1 w∧Q 14 (upd u14 66 x66) (za3 T 14 (w1.heap.size,w.heap.size)) w) w) ∧
 (∀ (u14:Env) (T:Nat→Nat×Nat) (w:World),B w→w0.heap.size≤w.heap.size→zau [] w0.heap.size w.heap.size T→(True)→(fun w1=>oP (Instr.alloc 27 true (.tuple #[])) w fun x11 w=>
 R 15 w1 w∧Q 15 (upd u14 11 x11) (za3 T 15 (w1.heap.size,w.heap.size)) w) w) ∧
 (∀ (u14:Env) (T:Nat→Nat×Nat) (w:World),B w→w0.heap.size≤w.heap.size→zau [15,14,11,0,1,2,3,4,5,6,7,8,9,10,11,12,13,14,15] w0.heap.size w.heap.size T→(Q 15 u14 T w∧Q 14 u14 T w∧Q 11 u14 T w∧Q 0 u14 T w∧Q 1 u14 T w∧Q 2 u14 T w∧Q 3 u14 T w∧Q 4 u14 T w∧Q 5 u14 T w∧Q 6 u14 T w∧Q 7 u14 T w∧Q 8 u14 T w∧Q 9 u14 T w∧Q 10 u14 T w∧Q 11 u14 T w∧Q 12 u14 T w∧Q 13 u14 T w∧Q 14 u14 T w∧Q 15 u14 T w∧True)→(fun w1=>oS 27 (u14 11) (u14 66) w fun w=>
 R 16 w1 w∧Q 16 u14 (za3 T 16 (w1.heap.size,w.heap.size)) w) w) ∧
 True)
 (fun B Q=>∀ (u14:Env) (T:Nat→Nat×Nat) (w:World),B w→w0.heap.size≤w.heap.size→zau [0,1,2,3,4,5,6,7,8,9,10,11,12,13,14,15,16] w0.heap.size w.heap.size T→(Q 0 u14 T w∧Q 1 u14 T w∧Q 2 u14 T w∧Q 3 u14 T w∧Q 4 u14 T w∧Q 5 u14 T w∧Q 6 u14 T w∧Q 7 u14 T w∧Q 8 u14 T w∧Q 9 u14 T w∧Q 10 u14 T w∧Q 11 u14 T w∧Q 12 u14 T w∧Q 13 u14 T w∧Q 14 u14 T w∧Q 15 u14 T w∧Q 16 u14 T w∧True) →
 (fun w0=>GPAR w0 [[(0,67)],[(1,68)],[(2,69)],[(3,70),(2,69)],[(4,71)],[(5,72)],[(6,73),(4,71),(5,72)],[(7,74)],[(8,75),(7,74)],[(9,76),(6,73),(8,75),(6,73)],[(10,77),(9,76)],[(11,78),(3,70),(10,77)],[(12,79),(0,67),(1,68),(11,78)],[(13,12)],[(13,12),(12,79),(9,76),(0,67),(1,68),(2,69),(3,70),(4,71),(5,72),(6,73),(7,74),(8,75),(9,76),(10,77),(11,78),(12,79),(13,12)]] (fun B R Q=>
 (∀ (u15:Env) (T:Nat→Nat×Nat) (w:World),B w→w0.heap.size≤w.heap.size→zau [] w0.heap.size w.heap.size T→(True)→(fun w1=>oP (Instr.buildSlice 24 4 #[(0,(Value.string (ByteArray.mk #[120]))),(1,(Value.string (ByteArray.mk #[121]))),(2,(Value.string (ByteArray.mk #[122]))),(3,(Value.string (ByteArray.mk #[117])))]) w fun x67 w=>
 R 0 w1 w∧Q 0 (upd u15 67 x67) (za3 T 0 (w1.heap.size,w.heap.size)) w) w) ∧
 (∀ (u15:Env) (T:Nat→Nat×Nat) (w:World),B w→w0.heap.size≤w.heap.size→zau [] w0.heap.size w.heap.size T→(True)→(fun w1=>oP (Instr.buildSlice 24 1 #[(0,(Value.string (ByteArray.mk #[97])))]) w fun x68 w=>
 R 1 w1 w∧Q 1 (upd u15 68 x68) (za3 T 1 (w1.heap.size,w.heap.size)) w) w) ∧
 (∀ (u15:Env) (T:Nat→Nat×Nat) (w:World),B w→w0.heap.size≤w.heap.size→zau [] w0.heap.size w.heap.size T→(True)→(fun w1=>R 2 w1 w∧Q 2 (upd u15 69 x51) (za3 T 2 (w1.heap.size,w.heap.size)) w) w) ∧
 (∀ (u15:Env) (T:Nat→Nat×Nat) (w:World),B w→w0.heap.size≤w.heap.size→zau [2] w0.heap.size w.heap.size T→(Q 2 u15 T w∧True)→(fun w1=>rD (Instr.build 32 #[(0,(Value.string (ByteArray.mk #[109,97,105,110]))),(1,(u15 69))]) w fun x70=>
 R 3 w1 w∧Q 3 (upd u15 70 x70) (za3 T 3 (w1.heap.size,w.heap.size)) w) w) ∧
 (∀ (u15:Env) (T:Nat→Nat×Nat) (w:World),B w→w0.heap.size≤w.heap.size→zau [] w0.heap.size w.heap.size T→(True)→(fun w1=>oP (Instr.buildSlice 29 0 #[]) w fun x71 w=>
 R 4 w1 w∧Q 4 (upd u15 71 x71) (za3 T 4 (w1.heap.size,w.heap.size)) w) w) ∧
 (∀ (u15:Env) (T:Nat→Nat×Nat) (w:World),B w→w0.heap.size≤w.heap.size→zau [] w0.heap.size w.heap.size T→(True)→(fun w1=>R 5 w1 w∧Q 5 (upd u15 72 (u10 8)) (za3 T 5 (w1.heap.size,w.heap.size)) w) w) ∧
 (∀ (u15:Env) (T:Nat→Nat×Nat) (w:World),B w→w0.heap.size≤w.heap.size→zau [4,5] w0.heap.size w.heap.size T→(Q 4 u15 T w∧Q 5 u15 T w∧True)→(fun w1=>oP (Builtin.append_ #[29,29] 29 [(u15 71),(u15 72)].toArray) w fun x73 w=>
 R 6 w1 w∧Q 6 (upd u15 73 x73) (za3 T 6 (w1.heap.size,w.heap.size)) w) w) ∧
 (∀ (u15:Env) (T:Nat→Nat×Nat) (w:World),B w→w0.heap.size≤w.heap.size→zau [] w0.heap.size w.heap.size T→(True)→(fun w1=>rL 56 x6 w fun x74=>
 R 7 w1 w∧Q 7 (upd u15 74 x74) (za3 T 7 (w1.heap.size,w.heap.size)) w) w) ∧
 (∀ (u15:Env) (T:Nat→Nat×Nat) (w:World),B w→w0.heap.size≤w.heap.size→zau [7] w0.heap.size w.heap.size T→(Q 7 u15 T w∧True)→(fun w1=>oP (Instr.buildSlice 29 1 #[(0,(u15 74))]) w fun x75 w=>
 R 8 w1 w∧Q 8 (upd u15 75 x75) (za3 T 8 (w1.heap.size,w.heap.size)) w) w) ∧
 (∀ (u15:Env) (T:Nat→Nat×Nat) (w:World),B w→w0.heap.size≤w.heap.size→zau [6,8,6] w0.heap.size w.heap.size T→(Q 6 u15 T w∧Q 8 u15 T w∧Q 6 u15 T w∧True)→(fun w1=>oP (Builtin.append_ #[29,29] 29 [(u15 73),(u15 75)].toArray) w fun x76 w=>
 R 9 w1 w∧Q 9 (upd u15 76 x76) (za3 T 9 (w1.heap.size,w.heap.size)) w) w) ∧
 (∀ (u15:Env) (T:Nat→Nat×Nat) (w:World),B w→w0.heap.size≤w.heap.size→zau [9] w0.heap.size w.heap.size T→(Q 9 u15 T w∧True)→(fun w1=>rD (Instr.build 32 #[(0,(Value.string (ByteArray.mk #[112]))),(1,(u15 76))]) w fun x77=>
 R 10 w1 w∧Q 10 (upd u15 77 x77) (za3 T 10 (w1.heap.size,w.heap.size)) w) w) ∧
 (∀ (u15:Env) (T:Nat→Nat×Nat) (w:World),B w→w0.heap.size≤w.heap.size→zau [3,10] w0.heap.size w.heap.size T→(Q 3 u15 T w∧Q 10 u15 T w∧True)→(fun w1=>oP (Instr.buildSlice 25 2 #[(0,(u15 70)),(1,(u15 77))]) w fun x78 w=>
 R 11 w1 w∧Q 11 (upd u15 78 x78) (za3 T 11 (w1.heap.size,w.heap.size)) w) w) ∧
 (∀ (u15:Env) (T:Nat→Nat×Nat) (w:World),B w→w0.heap.size≤w.heap.size→zau [0,1,11] w0.heap.size w.heap.size T→(Q 0 u15 T w∧Q 1 u15 T w∧Q 11 u15 T w∧True)→(fun w1=>rD (Instr.build 27 #[(0,(u15 67)),(1,(u15 68)),(2,(u15 78))]) w fun x79=>
 R 12 w1 w∧Q 12 (upd u15 79 x79) (za3 T 12 (w1.heap.size,w.heap.size)) w) w) ∧
 (∀ (u15:Env) (T:Nat→Nat×Nat) (w:World),B w→w0.heap.size≤w.heap.size→zau [] w0.heap.size w.heap.size T→(True)→(fun w1=>oP (Instr.alloc 27 true (.tuple #[])) w fun x12 w=>
 R 13 w1 w∧Q 13 (upd u15 12 x12) (za3 T 13 (w1.heap.size,w.heap.size)) w) w) ∧
 (∀ (u15:Env) (T:Nat→Nat×Nat) (w:World),B w→w0.heap.size≤w.heap.size→zau [13,12,9,0,1,2,3,4,5,6,7,8,9,10,11,12,13] w0.heap.size w.heap.size T→(Q 13 u15 T w∧Q 12 u15 T w∧Q 9 u15 T w∧Q 0 u15 T w∧Q 1 u15 T w∧Q 2 u15 T w∧Q 3 u15 T w∧Q 4 u15 T w∧Q 5 u15 T w∧Q 6 u15 T w∧Q 7 u15 T w∧Q 8 u15 T w∧Q 9 u15 T w∧Q 10 u15 T w∧Q 11 u15 T w∧Q 12 u15 T w∧Q 13 u15 T w∧True)→(fun w1=>oS 27 (u15 12) (u15 79) w fun w=>
 R 14 w1 w∧Q 14 u15 (za3 T 14 (w1.heap.size,w.heap.size)) w) w) ∧
 True)
 (fun B Q=>∀ (u15:Env) (T:Nat→Nat×Nat) (w:World),B w→w0.heap.size≤w.heap.size→zau [0,1,2,3,4,5,6,7,8,9,10,11,12,13,14] w0.heap.size w.heap.size T→(Q 0 u15 T w∧Q 1 u15 T w∧Q 2 u15 T w∧Q 3 u15 T w∧Q 4 u15 T w∧Q 5 u15 T w∧Q 6 u15 T w∧Q 7 u15 T w∧Q 8 u15 T w∧Q 9 u15 T w∧Q 10 u15 T w∧Q 11 u15 T w∧Q 12 u15 T w∧Q 13 u15 T w∧Q 14 u15 T w∧True) →
 rL 27 (u14 11) w fun x81=>
 cL 10 [x81] w fun x82 w=>
 rE x82 0 w fun x83=>
 rE x82 1 w fun x84=>
 oP (Instr.alloc 36 true (.tuple #[])) w fun x13 w=>
 oS 36 x13 x83 w fun w=>
 rL 27 (u15 12) w fun x86=>
 cL 10 [x86] w fun x87 w=>
 rE x87 0 w fun x88=>
 rE x87 1 w fun x89=>
 oP (Instr.alloc 36 true (.tuple #[])) w fun x15 w=>
 oS 36 x15 x88 w fun w=>
 rX 33 x25 (iV 0) w fun x91=>
 rL 3 x91 w fun x92=>
 rB .rem 3 T0 U0 x92 (iV 4) w fun x93=>
 rB .add 3 U0 T0 (iV 2) x93 w fun x94=>
 rA x94 (iV 3) w fun x97=>
 rX 33 x25 (iV 0) w fun x99=>
 rL 3 x99 w fun x100=>
 rB .rem 3 T0 U0 x100 (iV 4) w fun x101=>
 rB .add 3 T0 T0 x97 x101 w fun x102=>
 rD (Instr.build 58 #[(1,x94),(2,x102)]) w fun x103=>
 oP (Instr.alloc 58 true (.tuple #[])) w fun x18 w=>
 oS 58 x18 x103 w fun w=>
 rL 36 x15 w fun x104=>
 cL 11 [x104] w fun x105 w=>
 (fun w=>BR x84
 (BR x89
 (rL 36 x13 w fun x111=>
 cL 11 [x111] w fun x112 w=>
 rN 39 3 x112 w fun x113=>
 rB .eql 3 T0 U0 x113 (iV 0) w fun x114=>
 BR x114
 (rN 39 3 x105 w fun x118=>
 rB .eql 3 T0 U0 x118 (iV 1) w fun x119=>
 BR x119
 (rX 39 x105 (iV 0) w fun x123=>
 rL 58 x123 w fun x124=>
 rL 58 x18 w fun x125=>
 rB .eql 58 T0 T0 x124 x125 w fun x126=>
 R x126 w)
 (R (Value.bool false) w))
 (R (Value.bool false) w))
 (R (Value.bool false) w))
 (R (Value.bool false) w)) (World.drew1 w))) (World.drew1 w))) (World.drew1 w))) (World.drew1 w)))
def cfg4:Cfg:={ ext:=extL,joins:=[],loops:=[(10,8793945539328,[8,9])],draws:=[(21,[0,1,2,3,4,5,6,7,8,9,10,11,12,13,14,15,16,17,18,19,20,21,22],0)],pars:=[(13,4494803534349312,8)],gpars:=[(14,147569448990049044480),(15,1208778245662039498297344)] }
theorem F4_call {a0:Value} {w:World} {R:VW} (h:F4 a0 w R):cL 4 [a0] w R:=co (g:=cfg4) Tryz.func4 (by kernel_rfl) (by kernel_rfl) (by kernel_rfl) h
open Rep (rep)
theorem zof {P:Program} {w:World} {t ty e s by_ n cap c:Nat} {ag:Bool} {a x:Option Addr} {K:Value→World→Prop} (ht:P.underlying t=some (.slice e)) (he:tyI P e=some (s,by_,ag)) (hn:n≤cap) (k:K (.slice a n cap) w) :
   OP P (Builtin.append_ #[t,t] ty [.slice a n cap,.slice x 0 c].toArray) w K:=by
 refine ⟨_,w,?_,k⟩
 have hf:(Builtin.firstCells s 0 (.slice x 0 c)).run P w=.ok #[] w:=by
   cases x with
   | none=>rfl
   | some a=>simp [Builtin.firstCells,loadCells,loadCellsFrom]
 cases a with
 | none=>simp [Builtin.append_,run_underlying ht,zar he,Builtin.lenOf,hf,hn]
 | some a=>simp [Builtin.append_,run_underlying ht,zar he,Builtin.lenOf,hf,hn,storeCells]
def Sk8 (n0:Nat) (w:World) (v:Value) (s:Nat):Prop:=(s=0∧∃ a,v=.slice a 0 0)∨(0<s∧∃ b cap,n0≤b∧SlB 56 w b cap v s (skC s))
theorem Sk8.ext {n0 s:Nat} {w w':World} {v:Value} (h:Sk8 n0 w v s) (hx:Ext w w'):Sk8 n0 w' v s:=by
 rcases h with h | ⟨h,b,cap,hb,hB⟩
 · exact .inl h
 exact .inr ⟨h,b,cap,hb,hB.ext hx⟩
theorem Sk8.gr {n0 n1 s m jin jst j:Nat} {w w':World} {v:Value} (h:Sk8 n0 w v s) (hR:GR 56 27 n1 s m jin jst j w w'):Sk8 n0 w' v s:=by
 rcases h with h | ⟨h,b,cap,hb,hB⟩
 · exact .inl h
 exact .inr ⟨h,b,cap,hb,hR.head hB (by decide)⟩
theorem zct (s:Nat):(List.replicate s skR).length=s:=List.length_replicate
theorem zlD {n0 s m0:Nat} {w:World} {a:Addr} {v8:Value} {K:Value→World→Prop} (h8:Sk8 m0 w v8 s) (hs:s<4) (hn:n0≤w.heap.size) (k:∀ v' w',Ext w w'→Sk8 n0 w' v' s→K v' w') :
   OP Tryz.prog (Builtin.append_ #[29,29] 29 [.slice (some a) 0 0,v8].toArray) w K:=by
 rcases h8 with ⟨h0,x,rfl⟩ | ⟨h0,b,cap,_,hB⟩
 · exact zof u29 zc7 (Nat.le_refl _) (k _ _ (Ext.refl _) (.inl ⟨h0,_,rfl⟩))
 have hI:Is w v8 (List.replicate s skR):=SlB.raw hB (zct s) (zkF s)
 refine zfu (α:=Raw8) u29 zc7 zq5 hI (Ext.refl _) (by rw [zct,zak];omega) (by rw [zct];omega) fun v2 w2 hx2 hr2=>k v2 w2 hx2 (.inr ⟨h0,?_⟩)
 obtain ⟨G,hG,_,hGb⟩:=zdu.1 hr2
 rcases zg5 hG with ⟨hR,_⟩ | ⟨b,cap,hB,hb⟩
 · have:=congrArg List.length hR;rw [zct,List.length_nil] at this;omega
 rw [zct] at hB
 exact ⟨b,cap,by have:=hGb b hb;omega,hB⟩
theorem zog {W w:World} {s m b2 jin jst:Nat} {v u:Value} {ys:List Value} {K:Value→World→Prop} (hv:Sk8 W.heap.size w v s) (hu:u=.slice (some ⟨b2,0,none⟩) m m) (hB:Blk b2 56 w ys) (hm:0<m∧m≤10) (hyl:ys.length=m*8) (ho:∀ x∈ys,x.oneCell'=true)
   (hR:∃ R:List Raw8,fl8 R=ys∧R.length=m) (hs:s<4) (k:∀ v' w',GR 56 27 W.heap.size s m jin jst jin w w'→(∃ b cap,SlB 56 w' b cap v' (s+m) (skC s++ys))→K v' w') :
   OP Tryz.prog (Builtin.append_ #[29,29] 29 [v,u].toArray) w K:=by
 have hU:SlB 56 w b2 m u m ys:=by rw [hu];exact SlB.of_blk hB hyl (by omega)
 rcases hv with ⟨rfl,a,rfl⟩ | ⟨h0,b,cap,hb,hV⟩
 · obtain ⟨R,rfl,hRl⟩:=hR
   refine zfu (α:=Raw8) u29 zc7 zq5 (hU.raw hRl ho) (Ext.refl _) (by rw [hRl,zak];omega) (by rw [hRl];omega) fun v2 w2 hx2 hr2=>k v2 w2 (.ext hx2) ?_
   obtain ⟨G,hG,_,hGb⟩:=zdu.1 hr2
   rcases zg5 hG with ⟨hR0,_⟩ | ⟨b,cap,hB,hb⟩
   · have:=congrArg List.length hR0;rw [hRl,List.length_nil] at this;omega
   rw [hRl] at hB
   exact ⟨b,cap,by rw [Nat.zero_add];exact hB⟩
 refine zkD u29 zc7 zq5 hV hU hm.1 ho (by omega) (by omega) (fun hroom w' v' hc ⟨c,c',h1,h2,h3,h4,h5⟩ hB'=>k v' w' ?_ ⟨b,cap,hB'⟩) (fun w' v' b' cap' hx _ hB'=>k v' w' (.ext hx) ⟨b',cap',hB'⟩)
 refine ⟨hc.os,hc.tape,hc.output,hc.size,fun x hx=>?_⟩
 by_cases hxb:x=b
 · subst hxb
   exact .inr ⟨hb,.inl ⟨rfl,h0,c,c',h1,h2,h3,by rw [h4];omega,h5⟩⟩
 exact .inl (hc.block x hx (by simpa using hxb))
def lkC (cs:List Value):List Value:=stC 6 nA++(cs++stC 7 nA)
def zmm (a b c d:Value):List Value:=[.int .i64 1,.string nX,a,b,c,d,.slice none 0 0,.slice none 0 0]
def g3Q (n0 s:Nat) (v8:Value) (cs:List Value):ParQ:=fun i u T w=>match i with
 | 0=>u 43=.agg (stC 5 nP).toArray
 | 1=>∃ b,u 44=.slice (some ⟨b,0,none⟩) 1 1∧n0≤b∧Blk b 56 w (stC 5 nP)
 | 2=>u 45=v8
 | 3=>∃ b cap,n0≤b∧SlB 56 w b cap (u 46) (1+s) (stC 5 nP++skC s)
 | 4=>u 47=.agg (stC 6 nA).toArray
 | 5=>u 48=.agg cs.toArray
 | 6=>u 49=.agg (stC 7 nA).toArray
 | 7=>∃ b,u 50=.slice (some ⟨b,0,none⟩) 3 3∧Blk b 56 w (lkC cs)
 | _=>True
def zsw (n0 s:Nat) (v8 v51:Value) (cs:List Value):ParQ:=fun i u T w=>match i with
 | 0=>∃ b,u 52=.slice (some ⟨b,0,none⟩) 4 4∧Blk b 9 w (glb.map Value.string)
 | 1=>∃ b,u 53=.slice (some ⟨b,0,none⟩) 1 1∧Blk b 9 w [.string nA]
 | 2=>u 54=v51
 | 3=>u 55=.agg #[.string zbz,v51]
 | 4=>∃ a,u 56=.slice (some a) 0 0
 | 5=>u 57=v8
 | 6=>Sk8 n0 w (u 58) s
 | 7=>u 59=.agg (stC 6 nA).toArray
 | 8=>u 60=.agg cs.toArray
 | 9=>u 61=.agg (stC 7 nA).toArray
 | 10=>∃ b,u 62=.slice (some ⟨b,0,none⟩) 3 3∧Blk b 56 w (lkC cs)
 | 11=>∃ b cap,SlB 56 w b cap (u 63) (s+3) (skC s++(lkC cs))
 | 12=>u 64=.agg #[.string nP,u 63]
 | 13=>∃ b x,u 64=.agg #[.string nP,x]∧u 65=.slice (some ⟨b,0,none⟩) 2 2∧Blk b 32 w [.string zbz,v51,.string nP,x]
 | 14=>u 66=.agg #[u 52,u 53,u 65]
 | 15=>∃ b cs,u 11=.pointer (some ⟨b,0,none⟩)∧n0≤b∧Blk b 27 w cs∧cs.length=3
 | 16=>∃ b x y z,u 11=.pointer (some ⟨b,0,none⟩)∧u 66=.agg #[x,y,z]∧Blk b 27 w [x,y,z]
 | _=>True
def zsx (n0 s:Nat) (v8 v51:Value) (cs:List Value):ParQ:=fun i u T w=>match i with
 | 0=>∃ b,u 67=.slice (some ⟨b,0,none⟩) 4 4∧Blk b 9 w (glb.map Value.string)
 | 1=>∃ b,u 68=.slice (some ⟨b,0,none⟩) 1 1∧Blk b 9 w [.string nA]
 | 2=>u 69=v51
 | 3=>u 70=.agg #[.string zbz,v51]
 | 4=>∃ a,u 71=.slice (some a) 0 0
 | 5=>u 72=v8
 | 6=>Sk8 n0 w (u 73) s
 | 7=>u 74=.agg cs.toArray
 | 8=>∃ b,u 75=.slice (some ⟨b,0,none⟩) 1 1∧Blk b 56 w cs
 | 9=>∃ b cap,SlB 56 w b cap (u 76) (s+1) (skC s++cs)
 | 10=>u 77=.agg #[.string nP,u 76]
 | 11=>∃ b x,u 77=.agg #[.string nP,x]∧u 78=.slice (some ⟨b,0,none⟩) 2 2∧Blk b 32 w [.string zbz,v51,.string nP,x]
 | 12=>u 79=.agg #[u 67,u 68,u 78]
 | 13=>∃ b cs,u 12=.pointer (some ⟨b,0,none⟩)∧n0≤b∧Blk b 27 w cs∧cs.length=3
 | 14=>∃ b x y z,u 12=.pointer (some ⟨b,0,none⟩)∧u 79=.agg #[x,y,z]∧Blk b 27 w [x,y,z]
 | _=>True
theorem zoh (k:Int) (s:ByteArray):∀ x∈stC k s,x.oneCell'=true:=fun x h=>by
 simp only [stC,List.mem_cons,List.not_mem_nil,or_false] at h
 rcases h with h | h | h | h | h | h | h | h<;>(rw [h];rfl)
theorem zpn {W w:World} {n m b cap b2 cap2:Nat} {v u:Value} {xs ys:List Value} {K:Value→World→Prop} (hv:SlB 56 w b cap v n xs) (hu:SlB 56 w b2 cap2 u m ys) (hm:0<m) (ho:∀ x∈ys,x.oneCell'=true) (hn:n+m≤1000) (hW:Ext W w) (hb:W.heap.size≤b)
   (k:∀ w' v' b' cap',Ext W w'→SlB 56 w' b' cap' v' (n+m) (xs++ys)→K v' w'):OP Tryz.prog (Builtin.append_ #[29,29] 29 [v,u].toArray) w K:=
 zkD u29 zc7 zq5 hv hu hm ho hn (by omega) (fun _ w' v' hc _ hB=>k w' v' _ _ (Ext.chgL hW hc fun c hc=>by rcases List.mem_cons.1 hc with rfl | hc<;>simp at *;exact hb) hB) (fun w' v' b' cap' hx _ hB=>k w' v' _ _ (hW.trans hx) hB)
theorem zjD {w:World} {b:Nat} {ds:List Value} {a1 a2 a3:Value} {K:World→Prop} (hB:Blk b 27 w ds) (hl:ds.length=3) (h:a1.oneCell'=true∧a2.oneCell'=true∧a3.oneCell'=true)
   (k:∀ w',ChgI b (b+1) w w'→Blk b 27 w' [a1,a2,a3]→K w'):OPU Tryz.prog (Instr.storeAt 27 (.pointer (some ⟨b,0,none⟩)) (.agg #[a1,a2,a3])) w K:=by
 have r:∀ {v:Value},v.oneCell'=true→rep [] w [v] (⟨v⟩:Raw):=fun h=>⟨rfl,rfl,h⟩
 exact ze0 (α:=Raw×Raw×Raw) (x:=(⟨a1⟩,⟨a2⟩,⟨a3⟩)) (lo:=0) (hi:=0) zow rfl hB hl ⟨[],⟨⟨[a1,a2,a3],zaj (F:=[]) (r h.1) (zaj (F:=[]) (r h.2.1) (r h.2.2)),rfl⟩,List.nodup_nil,Wr.nil _⟩,by simp⟩ k
theorem zqT {w:World}:rep [] w (stC 8 nO) skR:=by
 have r:∀ {v:Value},v.oneCell'=true→rep [] w [v] (⟨v⟩:Raw):=fun h=>⟨rfl,rfl,h⟩
 exact zaj (F:=[]) (r rfl) (zaj (F:=[]) (r rfl) (zaj (F:=[]) (r rfl) (zaj (F:=[]) (r rfl) (zaj (F:=[]) (r rfl) (zaj (F:=[]) (r rfl) (zaj (F:=[]) (r rfl) (r rfl)))))))
theorem zjE {w W:World} {v:Value} {bs:List UInt8} (h:Is W v bs) (e:Ext W w) (hl:bs.length≤1048576) :
   CALL Tryz.prog 19 [v] w fun r w'=>Ext w w'∧OwnI w.heap.size w'.heap.size w' r (zam bs 3 (zhC bs)).1:=by
 refine F19_call ?_
 unfold F19
 refine zhW (α:=DTerm) zqb fun w1 hx1 hv1=>?_
 have hs1:=hx1.size
 have hg1:=hv1.lt
 refine (zjC h (e.trans hx1) hl).mono ?_
 rintro _ w2 ⟨hx2,g,rfl,hg,hC2⟩
 have hs2:=hx2.size
 have hg2:=hC2.lt
 refine (zhD 3 (by omega) hC2 rfl).mono ?_
 rintro v5 w3 ⟨hc3,-,o5⟩
 have hs3:=hc3.size
 have hv3:=(hv1.ext hx2).chg hc3 (by omega) (by omega)
 refine zdr zcn hv3 o5 (by omega) fun w4 hc4 hv4=>?_
 have hs4:=hc4.size
 refine zd7 zcn hv4 (Ext.refl _) fun v6 o6=>?_
 exact ⟨Ext.chgI (Ext.chgI (hx1.trans hx2) hc3 (by omega)) hc4 (by omega),o6.mono (by omega) (by omega)⟩
set_option maxRecDepth 20000 in
theorem zmn {w W:World} {v0:Value} {bs:List UInt8} (h0:Is W v0 bs) (e0:Ext W w):CALL Tryz.prog 4 [v0] w fun r w'=>Ext w w'∧(r=.bool true):=by
  refine F4_call ?_
  unfold F4
  refine (zrK h0 e0).mono ?_
  rintro _ w1 ⟨hx1,rfl⟩
  refine br (fun _=>⟨hx1,rfl⟩) (fun hb=>?_)
  have hlen:bs.length≤1048576:=by omega
  refine (zjE h0 (e0.trans hx1) hlen).mono ?_
  have htr:=zme bs (d:=3) (by omega) (zhC bs)
  generalize (zam bs 3 (zhC bs)).1=t at *
  rintro v23 w2 ⟨hx2,o23⟩
  have hs2:=hx2.size
  refine zhW (α:=DTerm) zqb fun w3 hx3 hv3=>?_
  refine zdr zcn hv3 (o23.ext hx3) (.inr (Nat.le_refl _)) fun w4 hc4 hv4=>?_
  have hx24:Ext w2 w4:=hx3.chgI hc4 (Nat.le_refl _)
  have hx14:Ext w1 w4:=hx2.trans hx24
  refine (ziz h0 (e0.trans (hx1.trans hx14)) hlen).mono ?_
  have hpl:(zg4 bs).length=12:=zfP bs 10000 12 _
  have hpi:∀ x∈zg4 bs,0≤x∧x<10000:=zg3 bs (by omega) 12 _
  generalize zg4 bs=ps at *
  rintro v25 w5 ⟨hx5,o25⟩
  have h25:=o25.is
  have hl0:0<ps.length:=by omega
  have hp0:=hpi _ (List.getElem_mem hl0)
  obtain ⟨s,hps,hs4⟩:∃ s:Nat,(ps[0]).tmod 4=(s:Int)∧s<4:=by
    rw [Int.tmod_eq_emod_of_nonneg hp0.1]
    exact ⟨(ps[0]%4).toNat,by omega,by omega⟩
  have place:∀ {w':World} {K:Value→Prop},Ext w5 w'→K (.int .i64 (s:Int))→RD Tryz.prog (Instr.indexAt 33 v25 (Value.int .i64 0)) w' fun x33=>RD Tryz.prog (Instr.loadAt 3 x33) w' fun x34=>RD Tryz.prog (bin .rem 3 (.tmp 0) (.const undef) x34 (Value.int .i64 4)) w' K:=fun {w' K} hx k=>by
    refine zad (i:=0) u33 ty3 h25 hl0 fun b o hA=>?_
    refine zac ty3 hA hx fun _=>?_
    refine zmA (by omega) ?_
    rw [hps];exact k
  refine zaz (cells:=(stC 6 nA).toArray) (by kernel_rfl) ?_
  refine zkE zoj rfl zc7 rfl (zoh _ _) fun w6 hx6 hL6=>?_
  refine zqf zcn hv4 (hx5.trans hx6) fun v27 o27=>?_
  obtain ⟨Ft,⟨⟨ct,hct,hvt⟩,_,_⟩,_⟩:=o27
  obtain ⟨ta,tb,tc,td,rfl⟩:∃ a b c d,ct=[a,b,c,d]:=by
    have:=Rep.len hct
    match ct,this with
    | [a,b,c,d],_=>exact ⟨a,b,c,d,rfl⟩
  have hto:=Rep.one hct
  have hrt6:=zaP hct (hx5.trans hx6)
  have hvt:v27=.agg #[ta,tb,tc,td]:=hvt
  subst hvt
  refine zaz (cells:=(zmm ta tb tc td).toArray) (by kernel_rfl) ?_
  obtain ⟨cs,hcsd⟩:∃ cs,cs=zmm ta tb tc td:=⟨_,rfl⟩
  have hcs:cs.length=8:=by rw [hcsd];rfl
  have hcso:∀ x∈cs,x.oneCell'=true:=by
    rw [hcsd]
    intro x hx
    simp only [zmm,List.mem_cons,List.not_mem_nil,or_false] at hx
    rcases hx with h | h | h | h | h | h | h | h<;>first | (rw [h];rfl) | (rw [h];exact hto _ (by simp))
  rw [←hcsd]
  refine zkE zoj rfl zc7 hcs hcso fun w7 hx7 hX7=>?_
  refine zaz (cells:=(stC 7 nA).toArray) (by kernel_rfl) ?_
  refine zkE zoj rfl zc7 rfl (zoh _ _) fun w8 hx8 hU8=>?_
  have hx58:=hx6.trans (hx7.trans hx8)
  have hL8:=hL6.ext (hx7.trans hx8)
  have hX8:=hX7.ext hx8
  have hrt8:=zaP hrt6 (hx7.trans hx8)
  have hone3:∀ x∈lkC cs,x.oneCell'=true:=fun x hx=>by
    rcases List.mem_append.1 hx with h | h
    · simp only [stC,List.mem_cons,List.not_mem_nil,or_false] at h
      rcases h with h | h | h | h | h | h | h | h<;>(rw [h];rfl)
    rcases List.mem_append.1 h with h | h
    · exact hcso x h
    simp only [stC,List.mem_cons,List.not_mem_nil,or_false] at h
    rcases h with h | h | h | h | h | h | h | h<;>(rw [h];rfl)
  have hR3:∃ R:List Raw8,fl8 R=lkC cs∧R.length=3:=by
    rw [hcsd]
    exact ⟨[(⟨.int .i64 6⟩,⟨.string nA⟩,⟨.int .i64 0⟩,⟨.int .i64 0⟩,⟨.string nO⟩,⟨.slice none 0 0⟩,⟨.slice none 0 0⟩,⟨.slice none 0 0⟩),(⟨.int .i64 1⟩,⟨.string nX⟩,⟨ta⟩,⟨tb⟩,⟨tc⟩,⟨td⟩,⟨.slice none 0 0⟩,⟨.slice none 0 0⟩),(⟨.int .i64 7⟩,⟨.string nA⟩,⟨.int .i64 0⟩,⟨.int .i64 0⟩,⟨.string nO⟩,⟨.slice none 0 0⟩,⟨.slice none 0 0⟩,⟨.slice none 0 0⟩)],rfl,rfl⟩
  have hR1:∃ R:List Raw8,fl8 R=cs∧R.length=1:=by
    rw [hcsd]
    exact ⟨[(⟨.int .i64 1⟩,⟨.string nX⟩,⟨ta⟩,⟨tb⟩,⟨tc⟩,⟨td⟩,⟨.slice none 0 0⟩,⟨.slice none 0 0⟩)],rfl,rfl⟩
  have hone1:=hcso
  refine zcx (α:=Raw8) u29 zc7 fun a30 w9 hx9 hr9=>?_
  obtain ⟨G0,hG0,hGn0,hGb0⟩:=zdu.1 hr9
  refine zaE s (fun k us w'=>∃ v G,us=[v,.int .i64 (k:Int)]∧k≤s∧Ext w8 w'∧RowG G 56 w' v (List.replicate k skR)∧G.Nodup∧(∀ c∈G,w8.heap.size≤c)∧(k=0→∃ a,v=.slice a 0 0)) 0 (Nat.zero_le _)
    ⟨_,G0,rfl,Nat.zero_le _,hx9,hG0,hGn0,fun c hc=>(by have:=(hGb0 c hc).1;have:=hx9.size;omega),fun _=>⟨_,rfl⟩⟩ ?_
  rintro k m u w10 hkm ⟨v8,G,hu,hkl,hx10,hG,hGn,hGb,hk0⟩
  obtain ⟨hu0,hu1⟩:=zey hu
  rw [hu0,hu1]
  have hx510:=hx58.trans hx10
  refine place hx510 ?_
  refine zal ?_
  refine br (fun hlt=>?_) (fun hge=>?_)
  · have hk:k<s:=by omega
    refine zaz (cells:=(stC 8 nO).toArray) (by kernel_rfl) ?_
    refine ze2 (β:=Raw8) (G:=G) (x:=skR) u29 zc7 z56 zq5 (by decide) hG hGn ⟨⟨stC 8 nO,zqT,rfl⟩,List.nodup_nil,Wr.nil _⟩ (by simp) (by rw [zak,zct];omega) (by rw [zct];omega) (fun w11 v11 w12 G' hx11 hc12 hR12 hN12 hs12=>?_) fun s' w' hx' h'=>h'
    refine zag (by omega) ?_
    refine ⟨m-1,by omega,k+1,by omega,v11,G',rfl,by omega,Ext.chgL (hx10.trans hx11) hc12 hGb,?_,hN12,fun c hc=>?_,fun h=>by omega⟩
    · rw [List.replicate_succ'];exact hR12
    rcases hs12 c hc with h | h | h
    · exact hGb c h
    · simp at h
    have:=hx10.size;omega
  have hk:k=s:=by omega
  subst hk
  have hsk10:Sk8 0 w10 v8 k:=by
    rcases Nat.eq_zero_or_pos k with h | h
    · exact .inl ⟨h,hk0 h⟩
    rcases zg5 hG with ⟨hR,_⟩ | ⟨b,cap,hB,_⟩
    · have:=congrArg List.length hR;rw [zct,List.length_nil] at this;omega
    rw [zct] at hB
    exact .inr ⟨h,b,cap,Nat.zero_le _,hB⟩
  clear hu0 hu1 hG hGn hGb hk0
  have hxd:=zao w10
  have hsk:=hsk10.ext hxd
  have hL:=hL8.ext (hx10.trans hxd)
  have hX:=hX8.ext (hx10.trans hxd)
  have hU:=hU8.ext (hx10.trans hxd)
  have hrt:=zaP hrt8 (hx10.trans hxd)
  have hx5W:=hx510.trans hxd
  generalize World.drew1 w10=W3 at *
  generalize hks:k=s at *
  refine PAR.mk (g3Q W3.heap.size s v8 cs) ?_ ?_ ?_
  · intro i u u' T T' wa wb hxa hxb hd hq
    match i,hd,hq with
    | 0,hd,hq=>exact (hd (0,43) (by decide)).1.trans hq
    | 1,hd,⟨b,q1,q2,q3⟩=>exact ⟨b,(hd (1,44) (by decide)).1.trans q1,q2,q3.ext hxb⟩
    | 2,hd,hq=>exact (hd (2,45) (by decide)).1.trans hq
    | 3,hd,⟨b,cap,q1,q2⟩=>exact ⟨b,cap,q1,by have e1:=(hd (3,46) (by decide)).1;simp only at e1;rw [e1];exact q2.ext hxb⟩
    | 4,hd,hq=>exact (hd (4,47) (by decide)).1.trans hq
    | 5,hd,hq=>exact (hd (5,48) (by decide)).1.trans hq
    | 6,hd,hq=>exact (hd (6,49) (by decide)).1.trans hq
    | 7,hd,⟨b,q1,q2⟩=>exact ⟨b,(hd (7,50) (by decide)).1.trans q1,q2.ext hxb⟩
    | n+8,_,_=>trivial
  · refine ⟨fun u T w' hx _ _=>?_,fun u T w' hx _ hp=>?_,fun u T w' hx _ _=>?_,fun u T w' hx _ hp=>?_,fun u T w' hx _ _=>?_,fun u T w' hx _ _=>?_,fun u T w' hx _ _=>?_,fun u T w' hx _ hp=>?_,trivial⟩
    · exact zaz (cells:=(stC 5 nP).toArray) (by kernel_rfl) ⟨Ext.refl _,rfl⟩
    · have q0:u 43=.agg (stC 5 nP).toArray:=hp.1
      rw [q0]
      exact zc2 (vs:=stC 5 nP) u29 zc7 zoj rfl (by decide) (by decide) (by kernel_rfl) fun w5 hx5 hB5=>⟨hx5,_,rfl,hx.size,hB5⟩
    · exact ⟨Ext.refl _,rfl⟩
    · obtain ⟨b,q0,q1,q2⟩:∃ b,u 44=.slice (some ⟨b,0,none⟩) 1 1∧W3.heap.size≤b∧Blk b 56 w' (stC 5 nP):=hp.1
      have q3:u 45=v8:=hp.2.1
      rw [q3]
      have hV:SlB 56 w' b 1 (u 44) 1 (stC 5 nP):=by rw [q0];exact SlB.of_blk q2 rfl (by omega)
      rcases hsk.ext hx with ⟨hz,a,hz2⟩ | ⟨hz,b8,c8,_,hB8⟩
      · rw [hz2,q0]
        refine zof u29 zc7 (Nat.le_refl _) ⟨Ext.refl _,b,1,q1,?_⟩
        rw [q0] at hV
        rw [hz];exact hV
      exact zkD u29 zc7 zq5 hV hB8 hz (zkF s) (by omega) (by omega) (fun h=>by omega) (fun w5 v5 b5 c5 hx5 hb5 hB5=>⟨hx5,b5,c5,by have:=hx.size;omega,hB5⟩)
    · exact zeD (hL.ext hx) zc7 ⟨Ext.refl _,rfl⟩
    · exact zeD (hX.ext hx) (by rw [hcs];exact zc7) ⟨Ext.refl _,rfl⟩
    · exact zeD (hU.ext hx) zc7 ⟨Ext.refl _,rfl⟩
    have q0:u 47=.agg (stC 6 nA).toArray:=hp.1
    have q1:u 48=.agg cs.toArray:=hp.2.1
    have q2:u 49=.agg (stC 7 nA).toArray:=hp.2.2.1
    rw [q0,q1,q2,hcsd]
    exact zc2 (vs:=lkC (zmm ta tb tc td)) u29 zc7 zoj rfl (by decide) (by decide) (by kernel_rfl) fun w5 hx5 hB5=>⟨hx5,_,rfl,by first | exact hB5 | (rw [hcsd];exact hB5)⟩
  rintro u3 T3 w11 hx11 hap3 ⟨-,-,-,⟨b46,c46,hb46,hB46⟩,-,-,-,⟨b50,q50,hB50⟩,-⟩
  have hB50':SlB 56 w11 b50 3 (u3 50) 3 (lkC cs):=by
    have q50:u3 50=_:=q50
    rw [q50];exact SlB.of_blk hB50 (by simp [lkC,stC,hcs]) (by omega)
  refine zpn hB46 hB50' (by omega) hone3 (by omega) hx11 hb46 fun w12 v51 b51 c51 hx12 h51=>?_
  have hv51:=h51.1
  have hxd4:=zao w12
  have hx34:=hx12.trans hxd4
  have hsk:=hsk.ext hx34
  have hL:=hL.ext hx34
  have hX:=hX.ext hx34
  have hU:=hU.ext hx34
  have hrt:=zaP hrt hx34
  have h51:=h51.ext hxd4
  have hx5W:=hx5W.trans hx34
  generalize World.drew1 w12=W4 at *
  have hxBA:=Ext.refl W4
  refine GPAR.mk (fun w=>Ext W4 w) (GR 56 27 W4.heap.size s 3 11 16) (zsw W4.heap.size s v8 v51 cs) (Ext.refl _) (fun j wa wb hB hR=>GR.out hB hR) (fun j wa wb hR=>hR.size) ?_ ?_ ?_
  · intro i j u u' T T' wa wb hij hBa hR hd hq
    match i,hij,hd,hq with
    | 0,hij,hd,⟨b,q1,q2⟩=>exact ⟨b,(hd (0,52) (by decide)).1.trans q1,hR.other q2 (by decide) (by decide)⟩
    | 1,hij,hd,⟨b,q1,q2⟩=>exact ⟨b,(hd (1,53) (by decide)).1.trans q1,hR.other q2 (by decide) (by decide)⟩
    | 2,hij,hd,hq=>exact (hd (2,54) (by decide)).1.trans hq
    | 3,hij,hd,hq=>exact (hd (3,55) (by decide)).1.trans hq
    | 4,hij,hd,⟨a,hq⟩=>exact ⟨a,(hd (4,56) (by decide)).1.trans hq⟩
    | 5,hij,hd,hq=>exact (hd (5,57) (by decide)).1.trans hq
    | 6,hij,hd,hq=>have e1:=(hd (6,58) (by decide)).1;show Sk8 _ _ (u' 58) _;simp only at e1;rw [e1];exact Sk8.gr hq hR
    | 7,hij,hd,hq=>exact (hd (7,59) (by decide)).1.trans hq
    | 8,hij,hd,hq=>exact (hd (8,60) (by decide)).1.trans hq
    | 9,hij,hd,hq=>exact (hd (9,61) (by decide)).1.trans hq
    | 10,hij,hd,⟨b,q1,q2⟩=>exact ⟨b,(hd (10,62) (by decide)).1.trans q1,hR.small q2 (by simp [lkC,stC,hcs]) (by decide)⟩
    | 11,hij,hd,⟨b,cap,q⟩=>exact ⟨b,cap,by have e1:=(hd (11,63) (by decide)).1;simp only at e1;rw [e1];exact hR.all q (fun e=>hij e.symm) (by decide)⟩
    | 12,hij,hd,hq=>have e1:=(hd (12,64) (by decide)).1;have e2:=(hd (11,63) (by decide)).1;simp only at e1 e2;show u' 64=.agg #[.string nP,u' 63];rw [e1,e2];exact hq
    | 13,hij,hd,⟨b,x,q1,q2,q3⟩=>exact ⟨b,x,(hd (12,64) (by decide)).1.trans q1,(hd (13,65) (by decide)).1.trans q2,hR.other q3 (by decide) (by decide)⟩
    | 14,hij,hd,hq=>have e1:=(hd (14,66) (by decide)).1;have e2:=(hd (0,52) (by decide)).1;have e3:=(hd (1,53) (by decide)).1;have e4:=(hd (13,65) (by decide)).1;simp only at e1 e2 e3 e4;show u' 66=.agg #[u' 52,u' 53,u' 65];rw [e1,e2,e3,e4];exact hq
    | 15,hij,hd,⟨b,cs,q1,q2,q3,q4⟩=>obtain ⟨ds,h1,h2⟩:=hR.var q3 (by decide);exact ⟨b,ds,(hd (15,11) (by decide)).1.trans q1,q2,h1,h2.trans q4⟩
    | 16,hij,hd,⟨b,x,y,z,q1,q2,q3⟩=>exact ⟨b,x,y,z,(hd (15,11) (by decide)).1.trans q1,(hd (14,66) (by decide)).1.trans q2,hR.prog q3 (fun e=>hij e.symm) (by decide)⟩
    | n+17,_,_,_=>trivial
  · refine ⟨?_,?_,?_,?_,?_,?_,?_,?_,?_,?_,?_,?_,?_,?_,?_,?_,?_,trivial⟩
    · exact fun u T w' hB hs _ _=>zc2 (vs:=glb.map Value.string) u24 ty9 zcO rfl (by decide) (by decide) (by kernel_rfl) fun w5 hx5 hB5=>⟨.ext hx5,_,rfl,hB5⟩
    · exact fun u T w' hB hs _ _=>zc2 (vs:=[.string nA]) u24 ty9 zcO rfl (by decide) (by decide) (by kernel_rfl) fun w5 hx5 hB5=>⟨.ext hx5,_,rfl,hB5⟩
    · exact fun u T w' hB hs _ _=>⟨.ext (Ext.refl _),rfl⟩
    · exact fun u T w' hB hs _ hp=>by
          have q0:u 54=v51:=hp.1
          rw [q0,hv51]
          refine zaz (cells:=#[.string zbz,.slice (some ⟨b51,0,none⟩) (1+s+3) c51]) (by kernel_rfl) ⟨.ext (Ext.refl _),rfl⟩
    · exact fun u T w' hB hs _ _=>zcx (α:=Raw8) u29 zc7 fun a5 w5 hx5 _=>⟨.ext hx5,a5,rfl⟩
    · exact fun u T w' hB hs _ _=>⟨.ext (Ext.refl _),rfl⟩
    · exact fun u T w' hB hs _ hp=>by
          obtain ⟨a,q0⟩:∃ a,u 56=.slice (some a) 0 0:=hp.1
          have q1:u 57=v8:=hp.2.1
          rw [q0,q1]
          exact zlD (hsk.ext hB) hs4 hs fun v5 w5 hx5 h5=>⟨.ext hx5,h5⟩
    · exact fun u T w' hB hs _ _=>zeD (hL.ext hB) (by first | exact zc7 | (rw [hcs];exact zc7)) ⟨.ext (Ext.refl _),rfl⟩
    · exact fun u T w' hB hs _ _=>zeD (hX.ext hB) (by first | exact zc7 | (rw [hcs];exact zc7)) ⟨.ext (Ext.refl _),rfl⟩
    · exact fun u T w' hB hs _ _=>zeD (hU.ext hB) (by first | exact zc7 | (rw [hcs];exact zc7)) ⟨.ext (Ext.refl _),rfl⟩
    · exact fun u T w' hB hs _ hp=>by
          have q0:u 59=.agg (stC 6 nA).toArray:=hp.1
          have q1:u 60=.agg cs.toArray:=hp.2.1
          have q2:u 61=.agg (stC 7 nA).toArray:=hp.2.2.1
          rw [q0,q1,q2,hcsd]
          exact zc2 (vs:=lkC (zmm ta tb tc td)) u29 zc7 zoj rfl (by decide) (by decide) (by kernel_rfl) fun w5 hx5 hB5=>⟨.ext hx5,_,rfl,by first | exact hB5 | (rw [hcsd];exact hB5)⟩
    · exact fun u T w' hB hs _ hp=>by
          have q0:Sk8 _ w' (u 58) s:=hp.1
          obtain ⟨b,q1,q2⟩:∃ b,u 62=.slice (some ⟨b,0,none⟩) 3 3∧Blk b 56 w' (lkC cs):=hp.2.1
          exact zog q0 q1 q2 (by decide) (by simp [lkC,stC,hcs]) hone3 hR3 hs4 fun v5 w5 hG5 h5=>⟨hG5,h5⟩
    · exact fun u T w' hB hs _ hp=>by
          obtain ⟨b,cap,q⟩:∃ b cap,SlB 56 w' b cap (u 63) (s+3) (skC s++(lkC cs)):=hp.1
          have qv:=q.1
          rw [qv]
          refine zaz (cells:=#[.string nP,.slice (some ⟨b,0,none⟩) (s+3) cap]) (by kernel_rfl) ⟨.ext (Ext.refl _),?_⟩
          show _=Value.agg #[.string nP,u 63]
          rw [qv];rfl
    · exact fun u T w' hB hs _ hp=>by
          have q0:u 55=.agg #[.string zbz,v51]:=hp.1
          have q1:u 64=.agg #[.string nP,u 63]:=hp.2.1
          rw [q0,q1]
          refine zc2 (vs:=[.string zbz,v51,.string nP,u 63]) u25 zkQ zq4 rfl (by decide) (by decide) (by kernel_rfl) fun w5 hx5 hB5=>⟨.ext hx5,_,u 63,q1,rfl,hB5⟩
    · exact fun u T w' hB hs _ hp=>by
          obtain ⟨b0,q0,_⟩:∃ b,u 52=.slice (some ⟨b,0,none⟩) 4 4∧Blk b 9 w' (glb.map Value.string):=hp.1
          obtain ⟨b1,q1,_⟩:∃ b,u 53=.slice (some ⟨b,0,none⟩) 1 1∧Blk b 9 w' [.string nA]:=hp.2.1
          obtain ⟨b2,x,_,q2,_⟩:∃ b x,u 64=.agg #[.string nP,x]∧u 65=.slice (some ⟨b,0,none⟩) 2 2∧Blk b 32 w' [.string zbz,v51,.string nP,x]:=hp.2.2.1
          rw [q0,q1,q2]
          refine zaz (cells:=#[.slice (some ⟨b0,0,none⟩) 4 4,.slice (some ⟨b1,0,none⟩) 1 1,.slice (some ⟨b2,0,none⟩) 2 2]) (by kernel_rfl) ⟨.ext (Ext.refl _),?_⟩
          show _=Value.agg #[u 52,u 53,u 65]
          rw [q0,q1,q2];rfl
    · exact fun u T w' hB hs _ _=>zcm zsc fun w5 hx5 hB5=>⟨.ext hx5,w'.heap.size,_,rfl,hs,hB5,rfl⟩
    exact fun u T w' hB hs _ hp=>by
        obtain ⟨b,ds,q0,q1,q2,q3⟩:∃ b cs,u 11=.pointer (some ⟨b,0,none⟩)∧W4.heap.size≤b∧Blk b 27 w' cs∧cs.length=3:=hp.1
        have e0:u 66=.agg #[u 52,u 53,u 65]:=hp.2.1
        rw [q0,e0]
        exact zjD q2 q3 (⟨by obtain ⟨_,q,_⟩:∃ b,u 52=.slice (some ⟨b,0,none⟩) 4 4∧Blk b 9 w' (glb.map Value.string):=hp.2.2.2.1;rw [q];rfl,by obtain ⟨_,q,_⟩:∃ b,u 53=.slice (some ⟨b,0,none⟩) 1 1∧Blk b 9 w' [.string nA]:=hp.2.2.2.2.1;rw [q];rfl,by obtain ⟨_,x,_,q,_⟩:∃ b x,u 64=.agg #[.string nP,x]∧u 65=.slice (some ⟨b,0,none⟩) 2 2∧Blk b 32 w' [.string zbz,v51,.string nP,x]:=hp.2.2.2.2.2.2.2.2.2.2.2.2.2.2.2.2.1;rw [q];rfl⟩) fun w5 hc5 hB5=>⟨⟨hc5.os,hc5.tape,hc5.output,hc5.size,fun x hx=>by
          by_cases hxb:x=b
          · subst hxb
            exact .inr ⟨q1,.inr ⟨rfl,_,_,q2,hB5,by simp [q3]⟩⟩
          exact .inl (hc5.block x hx (by omega))⟩,b,_,_,_,q0,e0,hB5⟩
  rintro uA TA w13 hxA hszA hapA ⟨⟨b0A,q0A,h0A⟩,⟨b1A,q1A,h1A⟩,-,-,-,-,-,-,-,-,-,⟨baA,caA,haA⟩,qppA,⟨blA,xlA,ql1A,ql2A,hlA⟩,qpgA,-,⟨gpA,x1A,x2A,x3A,qvA,qgA,hPA⟩,-⟩
  have hAtA:At w13 gpA 0 (zhc t s true):=by
    have qpp:uA 64=.agg #[.string nP,uA 63]:=qppA
    have qpg:uA 66=.agg #[uA 52,uA 53,uA 65]:=qpgA
    have e1:=qpg.symm.trans qgA
    simp only [Value.agg.injEq,Array.mk.injEq,List.cons.injEq,and_true] at e1
    have e2:=qpp.symm.trans ql1A
    simp only [Value.agg.injEq,Array.mk.injEq,List.cons.injEq,and_true,true_and] at e2
    rw [←e1.1,←e1.2.1,←e1.2.2,q0A,q1A,ql2A] at hPA
    rw [←e2] at hlA
    have hx:=hxA
    exact zlC hPA h0A h1A hlA (zaP hrt (hxBA.trans hx)) (by have:=h51.ext (hxBA.trans hx);rw [hcsd] at this;exact this) (by rw [hcsd] at haA;exact haA) rfl
  have qvA:uA 11=.pointer (some ⟨gpA,0,none⟩):=qvA
  simp only [qvA]
  have hxd5:=zao w13
  have hx45:Ext W4 (World.drew1 w13):=hxA.trans hxd5
  have hsk:=hsk.ext hx45
  have hL:=hL.ext hx45
  have hX:=hX.ext hx45
  have hU:=hU.ext hx45
  have hrt:=zaP hrt hx45
  have h51:=h51.ext hx45
  have hx5W:=hx5W.trans hx45
  have hAtA:=hAtA.ext hxd5
  generalize World.drew1 w13=W5 at *
  have hxBB:=Ext.refl W5
  refine GPAR.mk (fun w=>Ext W5 w) (GR 56 27 W5.heap.size s 1 9 14) (zsx W5.heap.size s v8 v51 cs) (Ext.refl _) (fun j wa wb hB hR=>GR.out hB hR) (fun j wa wb hR=>hR.size) ?_ ?_ ?_
  · intro i j u u' T T' wa wb hij hBa hR hd hq
    match i,hij,hd,hq with
    | 0,hij,hd,⟨b,q1,q2⟩=>exact ⟨b,(hd (0,67) (by decide)).1.trans q1,hR.other q2 (by decide) (by decide)⟩
    | 1,hij,hd,⟨b,q1,q2⟩=>exact ⟨b,(hd (1,68) (by decide)).1.trans q1,hR.other q2 (by decide) (by decide)⟩
    | 2,hij,hd,hq=>exact (hd (2,69) (by decide)).1.trans hq
    | 3,hij,hd,hq=>exact (hd (3,70) (by decide)).1.trans hq
    | 4,hij,hd,⟨a,hq⟩=>exact ⟨a,(hd (4,71) (by decide)).1.trans hq⟩
    | 5,hij,hd,hq=>exact (hd (5,72) (by decide)).1.trans hq
    | 6,hij,hd,hq=>have e1:=(hd (6,73) (by decide)).1;show Sk8 _ _ (u' 73) _;simp only at e1;rw [e1];exact Sk8.gr hq hR
    | 7,hij,hd,hq=>exact (hd (7,74) (by decide)).1.trans hq
    | 8,hij,hd,⟨b,q1,q2⟩=>exact ⟨b,(hd (8,75) (by decide)).1.trans q1,hR.small q2 (by omega) (by decide)⟩
    | 9,hij,hd,⟨b,cap,q⟩=>exact ⟨b,cap,by have e1:=(hd (9,76) (by decide)).1;simp only at e1;rw [e1];exact hR.all q (fun e=>hij e.symm) (by decide)⟩
    | 10,hij,hd,hq=>have e1:=(hd (10,77) (by decide)).1;have e2:=(hd (9,76) (by decide)).1;simp only at e1 e2;show u' 77=.agg #[.string nP,u' 76];rw [e1,e2];exact hq
    | 11,hij,hd,⟨b,x,q1,q2,q3⟩=>exact ⟨b,x,(hd (10,77) (by decide)).1.trans q1,(hd (11,78) (by decide)).1.trans q2,hR.other q3 (by decide) (by decide)⟩
    | 12,hij,hd,hq=>have e1:=(hd (12,79) (by decide)).1;have e2:=(hd (0,67) (by decide)).1;have e3:=(hd (1,68) (by decide)).1;have e4:=(hd (11,78) (by decide)).1;simp only at e1 e2 e3 e4;show u' 79=.agg #[u' 67,u' 68,u' 78];rw [e1,e2,e3,e4];exact hq
    | 13,hij,hd,⟨b,cs,q1,q2,q3,q4⟩=>obtain ⟨ds,h1,h2⟩:=hR.var q3 (by decide);exact ⟨b,ds,(hd (13,12) (by decide)).1.trans q1,q2,h1,h2.trans q4⟩
    | 14,hij,hd,⟨b,x,y,z,q1,q2,q3⟩=>exact ⟨b,x,y,z,(hd (13,12) (by decide)).1.trans q1,(hd (12,79) (by decide)).1.trans q2,hR.prog q3 (fun e=>hij e.symm) (by decide)⟩
    | n+15,_,_,_=>trivial
  · refine ⟨?_,?_,?_,?_,?_,?_,?_,?_,?_,?_,?_,?_,?_,?_,?_,trivial⟩
    · exact fun u T w' hB hs _ _=>zc2 (vs:=glb.map Value.string) u24 ty9 zcO rfl (by decide) (by decide) (by kernel_rfl) fun w5 hx5 hB5=>⟨.ext hx5,_,rfl,hB5⟩
    · exact fun u T w' hB hs _ _=>zc2 (vs:=[.string nA]) u24 ty9 zcO rfl (by decide) (by decide) (by kernel_rfl) fun w5 hx5 hB5=>⟨.ext hx5,_,rfl,hB5⟩
    · exact fun u T w' hB hs _ _=>⟨.ext (Ext.refl _),rfl⟩
    · exact fun u T w' hB hs _ hp=>by
          have q0:u 69=v51:=hp.1
          rw [q0,hv51]
          refine zaz (cells:=#[.string zbz,.slice (some ⟨b51,0,none⟩) (1+s+3) c51]) (by kernel_rfl) ⟨.ext (Ext.refl _),rfl⟩
    · exact fun u T w' hB hs _ _=>zcx (α:=Raw8) u29 zc7 fun a5 w5 hx5 _=>⟨.ext hx5,a5,rfl⟩
    · exact fun u T w' hB hs _ _=>⟨.ext (Ext.refl _),rfl⟩
    · exact fun u T w' hB hs _ hp=>by
          obtain ⟨a,q0⟩:∃ a,u 71=.slice (some a) 0 0:=hp.1
          have q1:u 72=v8:=hp.2.1
          rw [q0,q1]
          exact zlD (hsk.ext hB) hs4 hs fun v5 w5 hx5 h5=>⟨.ext hx5,h5⟩
    · exact fun u T w' hB hs _ _=>zeD (hX.ext hB) (by first | exact zc7 | (rw [hcs];exact zc7)) ⟨.ext (Ext.refl _),rfl⟩
    · exact fun u T w' hB hs _ hp=>by
          have q1:u 74=.agg cs.toArray:=hp.1
          rw [q1,hcsd]
          exact zc2 (vs:=zmm ta tb tc td) u29 zc7 zoj rfl (by decide) (by decide) (by kernel_rfl) fun w5 hx5 hB5=>⟨.ext hx5,_,rfl,by first | exact hB5 | (rw [hcsd];exact hB5)⟩
    · exact fun u T w' hB hs _ hp=>by
          have q0:Sk8 _ w' (u 73) s:=hp.1
          obtain ⟨b,q1,q2⟩:∃ b,u 75=.slice (some ⟨b,0,none⟩) 1 1∧Blk b 56 w' cs:=hp.2.1
          exact zog q0 q1 q2 (by decide) (by omega) hone1 hR1 hs4 fun v5 w5 hG5 h5=>⟨hG5,h5⟩
    · exact fun u T w' hB hs _ hp=>by
          obtain ⟨b,cap,q⟩:∃ b cap,SlB 56 w' b cap (u 76) (s+1) (skC s++cs):=hp.1
          have qv:=q.1
          rw [qv]
          refine zaz (cells:=#[.string nP,.slice (some ⟨b,0,none⟩) (s+1) cap]) (by kernel_rfl) ⟨.ext (Ext.refl _),?_⟩
          show _=Value.agg #[.string nP,u 76]
          rw [qv];rfl
    · exact fun u T w' hB hs _ hp=>by
          have q0:u 70=.agg #[.string zbz,v51]:=hp.1
          have q1:u 77=.agg #[.string nP,u 76]:=hp.2.1
          rw [q0,q1]
          refine zc2 (vs:=[.string zbz,v51,.string nP,u 76]) u25 zkQ zq4 rfl (by decide) (by decide) (by kernel_rfl) fun w5 hx5 hB5=>⟨.ext hx5,_,u 76,q1,rfl,hB5⟩
    · exact fun u T w' hB hs _ hp=>by
          obtain ⟨b0,q0,_⟩:∃ b,u 67=.slice (some ⟨b,0,none⟩) 4 4∧Blk b 9 w' (glb.map Value.string):=hp.1
          obtain ⟨b1,q1,_⟩:∃ b,u 68=.slice (some ⟨b,0,none⟩) 1 1∧Blk b 9 w' [.string nA]:=hp.2.1
          obtain ⟨b2,x,_,q2,_⟩:∃ b x,u 77=.agg #[.string nP,x]∧u 78=.slice (some ⟨b,0,none⟩) 2 2∧Blk b 32 w' [.string zbz,v51,.string nP,x]:=hp.2.2.1
          rw [q0,q1,q2]
          refine zaz (cells:=#[.slice (some ⟨b0,0,none⟩) 4 4,.slice (some ⟨b1,0,none⟩) 1 1,.slice (some ⟨b2,0,none⟩) 2 2]) (by kernel_rfl) ⟨.ext (Ext.refl _),?_⟩
          show _=Value.agg #[u 67,u 68,u 78]
          rw [q0,q1,q2];rfl
    · exact fun u T w' hB hs _ _=>zcm zsc fun w5 hx5 hB5=>⟨.ext hx5,w'.heap.size,_,rfl,hs,hB5,rfl⟩
    exact fun u T w' hB hs _ hp=>by
        obtain ⟨b,ds,q0,q1,q2,q3⟩:∃ b cs,u 12=.pointer (some ⟨b,0,none⟩)∧W5.heap.size≤b∧Blk b 27 w' cs∧cs.length=3:=hp.1
        have e0:u 79=.agg #[u 67,u 68,u 78]:=hp.2.1
        rw [q0,e0]
        exact zjD q2 q3 (⟨by obtain ⟨_,q,_⟩:∃ b,u 67=.slice (some ⟨b,0,none⟩) 4 4∧Blk b 9 w' (glb.map Value.string):=hp.2.2.2.1;rw [q];rfl,by obtain ⟨_,q,_⟩:∃ b,u 68=.slice (some ⟨b,0,none⟩) 1 1∧Blk b 9 w' [.string nA]:=hp.2.2.2.2.1;rw [q];rfl,by obtain ⟨_,x,_,q,_⟩:∃ b x,u 77=.agg #[.string nP,x]∧u 78=.slice (some ⟨b,0,none⟩) 2 2∧Blk b 32 w' [.string zbz,v51,.string nP,x]:=hp.2.2.2.2.2.2.2.2.2.2.2.2.2.2.1;rw [q];rfl⟩) fun w5 hc5 hB5=>⟨⟨hc5.os,hc5.tape,hc5.output,hc5.size,fun x hx=>by
          by_cases hxb:x=b
          · subst hxb
            exact .inr ⟨q1,.inr ⟨rfl,_,_,q2,hB5,by simp [q3]⟩⟩
          exact .inl (hc5.block x hx (by omega))⟩,b,_,_,_,q0,e0,hB5⟩
  rintro uB TB w14 hxB hszB hapB ⟨⟨b0B,q0B,h0B⟩,⟨b1B,q1B,h1B⟩,-,-,-,-,-,-,-,⟨baB,caB,haB⟩,qppB,⟨blB,xlB,ql1B,ql2B,hlB⟩,qpgB,-,⟨gpB,x1B,x2B,x3B,qvB,qgB,hPB⟩,-⟩
  have hAtB:At w14 gpB 0 (zhc t s false):=by
    have qpp:uB 77=.agg #[.string nP,uB 76]:=qppB
    have qpg:uB 79=.agg #[uB 67,uB 68,uB 78]:=qpgB
    have e1:=qpg.symm.trans qgB
    simp only [Value.agg.injEq,Array.mk.injEq,List.cons.injEq,and_true] at e1
    have e2:=qpp.symm.trans ql1B
    simp only [Value.agg.injEq,Array.mk.injEq,List.cons.injEq,and_true,true_and] at e2
    rw [←e1.1,←e1.2.1,←e1.2.2,q0B,q1B,ql2B] at hPB
    rw [←e2] at hlB
    have hx:=hxB
    exact zlC hPB h0B h1B hlB (zaP hrt (hxBB.trans hx)) (by have:=h51.ext (hxBB.trans hx);rw [hcsd] at this;exact this) (by rw [hcsd] at haB;exact haB) rfl
  have qvB:uB 12=.pointer (some ⟨gpB,0,none⟩):=qvB
  simp only [qvB]
  have hxB:Ext W5 w14:=hxB
  have hx514:=hx5W.trans hxB
  have hAtA:=hAtA.ext hxB
  have hpA:=zkC htr hs4 true
  have hpB:=zkC htr hs4 false
  have hgA:=zod htr hs4 true
  have hgB:=zod htr hs4 false
  refine zab zow hAtA (Ext.refl _) fun v81 h81=>?_
  refine (zfl h81 (Ext.refl _) hpA).mono ?_
  generalize zbu (zhc t s true)=cA at *
  rintro _ w15 ⟨hx15,v83,rfl,o83⟩
  refine zbl rfl ?_
  refine zbl rfl ?_
  refine zbB zrN rfl zfm rfl o83.is (Ext.refl _) fun w16 hx16 hA16 hV16=>?_
  refine zab zow hAtB (hx15.trans hx16) fun v86 h86=>?_
  refine (zfl h86 (hx15.trans hx16) hpB).mono ?_
  generalize zbu (zhc t s false)=cB at *
  rintro _ w17 ⟨hx17,v88,rfl,o88⟩
  refine zbl rfl ?_
  refine zbl rfl ?_
  refine zbB zrN rfl zfm rfl o88.is (Ext.refl _) fun w18 hx18 hA18 hV18=>?_
  have hx1618:=hx17.trans hx18
  have hx518:=hx514.trans (hx15.trans (hx16.trans hx1618))
  refine place hx518 ?_
  refine zeq (by unfold I64;omega) ?_
  refine zeq (by unfold I64;omega) ?_
  refine place hx518 ?_
  refine zeq (by unfold I64;omega) ?_
  refine zaz (cells:=#[.int .i64 0,.int .i64 (2+(s:Int)),.int .i64 (2+(s:Int)+3+(s:Int))]) (by kernel_rfl) ?_
  have hwant:Is w18 (.agg #[.int .i64 0,.int .i64 (2+(s:Int)),.int .i64 (2+(s:Int)+3+(s:Int))]) (⟨0,2+(s:Int),2+(s:Int)+3+(s:Int)⟩:DRace):=zgl.2 ⟨rfl,by show I64 (0:Int);unfold I64;omega,by show I64 (2+(s:Int));unfold I64;omega,by show I64 (2+(s:Int)+3+(s:Int));unfold I64;omega⟩
  refine zbB zrV rfl zfQ rfl hwant (Ext.refl _) fun w19 hx19 hA19 hV19=>?_
  refine zab zfm hA18 hx19 fun v104 h104=>?_
  refine (zet h104 hx19).mono ?_
  rintro v105 w20 ⟨hx20,o105⟩
  rw [hgB.one] at o105
  have hxd6:=zao w20
  refine zbQ (fun _=>?_) (fun h=>by cases h)
  refine zbQ (fun _=>?_) (fun h=>by cases h)
  refine zab zfm hA16 (hx1618.trans (hx19.trans (hx20.trans hxd6))) fun v111 h111=>?_
  refine (zet h111 (hx1618.trans (hx19.trans (hx20.trans hxd6)))).mono ?_
  rintro v112 w21 ⟨hx21,o112⟩
  rw [hgA.none] at o112
  refine zaf u39 o112.is ?_
  refine zai ?_
  refine br (fun _=>?_) (fun h=>absurd rfl h)
  refine zaf u39 o105.is ?_
  refine zai ?_
  refine br (fun _=>?_) (fun h=>absurd rfl h)
  have hx2021:=hxd6.trans hx21
  refine zad (i:=0) u39 zfQ o105.is (by simp) fun b123 o123 hA123=>?_
  refine zab zfQ hA123 hx2021 fun v124 h124=>?_
  refine zab zfQ hA19 (hx20.trans hx2021) fun v125 h125=>?_
  refine zgL h124 h125 ?_
  refine ⟨hx1.trans (hx14.trans (hx5.trans (hx518.trans (hx19.trans (hx20.trans hx2021))))),?_⟩
  rw [decide_eq_true]
  simp only [List.getElem_cons_zero,DRace.mk.injEq,true_and]
  omega
theorem zpo {P:Program} {t:TypeId} (ht:P.underlying t=some (.int .u8)) (n:Nat):ziM P t UInt8 n:=by
 intro H enc w spare held cs y h
 obtain ⟨m,rfl,_,hw⟩:=DataW.trod_int ht h
 have hm:0≤m∧m≤255:=by simpa [Lit.wf,IntKind.min,IntKind.max,IntKind.signed,IntKind.bits] using hw
 refine ⟨[],UInt8.ofNat m.toNat,rfl,?_⟩
 have:((UInt8.ofNat m.toNat).toNat:Int)=m:=by
   have:(UInt8.ofNat m.toNat).toNat=m.toNat:=by simp;omega
   omega
 rw [this]
theorem zqU:∀ n,ziM Tryz.prog 22 (List UInt8) n:=zgm u22 (by kernel_rfl) (zpo u5)
end Go.Proofs.YtcnglfeoglgebaaGreat
namespace Go.Proofs.YtcnglfeoglgebaaGreat
open Go
theorem za0 {a b:Bool} (h:a=true) (k:b=true):(a&&b)=true:=by rw [h,k];rfl
theorem zqV:laidOutB Tryz.prog=true:=by kernel_rfl
theorem zqW:mapsRowed Tryz.prog=true:=by kernel_rfl
theorem zpp:(Rows.fnSerialRow.plainKeys == Tryz.prog.plainKeys)=true:=by kernel_rfl
theorem zpq:Tryz.prog.stopsHeard=true:=by kernel_rfl
theorem zrL:Tryz.prog.mayEnter=true:=by kernel_rfl
theorem zqX:(Rows.fnSerialRow.lifted == Tryz.prog.liftsFinal)=true:=by kernel_rfl
theorem zqY:(Tryz.prog.make == some Rows.fnSerialRow.make)=true:=by kernel_rfl
end Go.Proofs.YtcnglfeoglgebaaGreat
namespace Go.Proofs.YtcnglfeoglgebaaGreat.fnGuarded
open Go.ChangeShapes Go.WideShapes Go.ChangeAt Go.RowKit Go.Sh
theorem own:ownKnob Tryz.prog.godebug=none:=by kernel_rfl
theorem zqZ:laidOutB Tryz.prog=true:=by kernel_rfl
set_option maxRecDepth 100000 in
theorem lifted (os:Os) (started:os.Started) (H:Type) (enc:TypeId×Value→H) :
    ReturnsInHanded {} Tryz.checked os 4 .any (Rows.fnGuardedSpec.pre6 enc Tryz.prog Tryz.f4 Rows.fnGuardedRow.domain false) (Rows.fnGuardedSpec.post enc Tryz.prog Tryz.f4 false true false false):=by
  refine returnsInHanded_of_change (C:=Tryz.checked) own started (by kernel_rfl) Tryz.func4
    (ChangeSpec.witness6 (enc:=enc) (C:=Tryz.checked) false ⟨#[],#[.slice none 0 0],[]⟩ 8 (by kernel_rfl) (by kernel_rfl) (by kernel_rfl) (by kernel_rfl)) ?_
  intro W base args ds gs before hval0 hW hcnd _
  have hval:∀ (j:Nat) t v,Tryz.f4.params[j]?=some t→args[j]?=some v→Value.okWide Tryz.prog W .any base t v:=hval0
  have hW':=hW
  obtain ⟨p,q,hA0,hV,rfl,hfz,hnd⟩:=hW
  have hA:DataW.TrodAll enc Tryz.prog W 0 (fun _=>true) true Tryz.f4.params.toList args.toList ds p:=hA0
  rw [Tryz.params4] at hA hval
  obtain ⟨v0,vs0,d0,ds0,p0,q0,hargs,rfl,rfl,h0,r0⟩:=trodAll_cons hA
  obtain ⟨rfl,rfl,rfl⟩:=trodAll_nil r0
  obtain rfl:args=#[v0]:=by cases args;simp_all
  obtain ⟨rfl,rfl⟩:=trodVars_none hV
  have lt0:∀ x∈p0,x.block<W.heap.size:=by obtain ⟨m,hm⟩:=h0;exact DataW.trod_lt m _ _ _ hm
  obtain ⟨x0,i0⟩:=zjV (α:=UInt8) u22 zqU (hval 0 22 v0 rfl rfl) h0
  clear hA0 hval0
  obtain ⟨hcall⟩:=zmn i0 (Ext.refl W)
  refine hcall.mono fun e W' ⟨v,he,bel,hv⟩=>?_
  subst he hv
  exact ⟨_,rfl,_,_,_,[],_,[],hW',trodAll_mk1 (shut_bool Tryz.underlying4 _),(trodAll_cons_mk (Below.trod zqZ (by kernel_rfl) (of_decide_eq_true (by kernel_rfl)) h0 bel lt0) trodAll_mk0),rfl,bel.frame _,fun h=>by cases h⟩
theorem zoi:(Rows.fnGuardedRow.inPlace == Tryz.prog.inPlace 4)=true:=by kernel_rfl
theorem zjF:(Rows.fnGuardedRow.unfollowed == Tryz.prog.unfollowed 4)=true:=by kernel_rfl
theorem zmo:(Rows.fnGuardedRow.recurses == Tryz.prog.recurses 4)=true:=by kernel_rfl
theorem zq0:(Rows.fnGuardedRow.named == Tryz.prog.varsNamed 4)=true:=by kernel_rfl
theorem closed:joinedFacts Tryz.prog 4 Tryz.f4 Rows.fnGuardedSpec Rows.fnGuardedRow=true:=by
 unfold joinedFacts
 exact (za0 (za0 (za0 (za0 (za0 (za0 (za0 (za0 (za0 (za0 (za0 (za0 (za0 (za0 (za0 (za0 (za0 (za0 (za0 (za0 (za0 (za0 (za0 (za0 (za0 (za0 (za0 (za0 (za0 (za0 (za0 (by kernel_rfl) zqV) zqW) (by kernel_rfl)) (by kernel_rfl)) (by kernel_rfl)) (by kernel_rfl)) (by kernel_rfl)) (by kernel_rfl)) zoi) zjF) zmo) zq0) (by kernel_rfl)) (by kernel_rfl)) (by kernel_rfl)) (by kernel_rfl)) (by kernel_rfl)) (by kernel_rfl)) (by kernel_rfl)) (by kernel_rfl)) (by kernel_rfl)) zpp) (by kernel_rfl)) zpq) zrL) zqX) zqY) (by kernel_rfl)) (by kernel_rfl)) (by kernel_rfl)) (by kernel_rfl))
theorem over:Rows.fnGuardedRow.holds Tryz.pinned (OpenSpec.ofChange Rows.fnGuardedSpec):=
 OpenClaim.holds_of_wide 4 Tryz.f4 rfl rfl rfl rfl rfl rfl rfl ⟨rfl,rfl,rfl,rfl,rfl⟩ rfl rfl rfl rfl rfl (by kernel_rfl) Tryz.func4 closed
   (of_decide_eq_true (by kernel_rfl)) (by unfold Func.isWrapper;first | (rw [if_pos (by decide +kernel)];kernel_rfl) | (rw [if_neg (by decide +kernel)];exact ⟨rfl,rfl⟩))
   (fun os started H enc _=>lifted os started H enc)
theorem proved:Rows.FnGuardedSaid:=over
end Go.Proofs.YtcnglfeoglgebaaGreat.fnGuarded
