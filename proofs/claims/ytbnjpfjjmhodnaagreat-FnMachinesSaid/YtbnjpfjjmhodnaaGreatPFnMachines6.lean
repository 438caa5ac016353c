/-
  The law FnMachines of the given program returns true for every input, and its arguments read afterwards as before: the given statement Rows.FnMachinesSaid.
-/
import Derived.Test.YtbnjpfjjmhodnaaGreatPFnMachines5
set_option linter.unusedVariables false
set_option linter.unusedSimpArgs false
set_option linter.unusedSectionVars false
namespace Go.Proofs.YtbnjpfjjmhodnaaGreat
open Go Go.Sh Go.Proofs
open Rep (rep)
abbrev Raw5:=Raw×Raw×Raw×Raw×Raw
theorem zjc {w:World} {lo hi:Nat} {a b c d e:Value} (ha:a.oneCell'=true) (hb:b.oneCell'=true) (hc:c.oneCell'=true) (hd:d.oneCell'=true) (he:e.oneCell'=true):OwnI lo hi w (.agg #[a,b,c,d,e]) ((⟨a⟩,⟨b⟩,⟨c⟩,⟨d⟩,⟨e⟩):Raw5):=by
 refine ⟨[],⟨⟨[a,b,c,d,e],?_,rfl⟩,List.nodup_nil,Wr.nil _⟩,by simp⟩
 have r:∀ {v:Value},v.oneCell'=true→rep [] w [v] (⟨v⟩:Raw):=fun h=>⟨rfl,rfl,h⟩
 exact zaw (F:=[]) (r ha) (zaw (F:=[]) (r hb) (zaw (F:=[]) (r hc) (zaw (F:=[]) (r hd) (r he))))
theorem zmE {w:World} {v:Value} {p:DProg} (h:Is w v p):∃ c0 c1 c2,v=.agg #[c0,c1,c2]∧c0.oneCell'=true∧c1.oneCell'=true∧c2.oneCell'=true:=by
 obtain ⟨F,cs,hr,rfl⟩:=h
 have hone:=Rep.one hr
 obtain ⟨F1,F2,x1,x2,rfl,rfl,h1,F3,F4,x3,x4,rfl,rfl,h2,h3⟩:=hr
 have e1:∃ a,x1=[a]:=by obtain ⟨a,cap,Fi,xs,rfl,_⟩:=h1;exact ⟨_,rfl⟩
 have e2:∃ a,x3=[a]:=by obtain ⟨a,cap,Fi,xs,rfl,_⟩:=h2;exact ⟨_,rfl⟩
 have e3:∃ a,x4=[a]:=by obtain ⟨a,cap,Fi,xs,rfl,_⟩:=h3;exact ⟨_,rfl⟩
 obtain ⟨a1,rfl⟩:=e1
 obtain ⟨a2,rfl⟩:=e2
 obtain ⟨a3,rfl⟩:=e3
 exact ⟨a1,a2,a3,rfl,hone a1 (by simp),hone a2 (by simp),hone a3 (by simp)⟩
theorem zmF {α:Type} [Rep α] (ha:Rep.agg α=false) {lo hi:Nat} {w:World} {v:Value} {x:α} (h:OwnI lo hi w v x):v.oneCell'=true:=by
 obtain ⟨F,⟨hm,_,_⟩,_⟩:=h
 exact Rep.one (za0 ha hm) v (by simp)
def cdQ (p:DProg) (g1:Nat) (w0:World):ParQ:=fun i u T w=>match i with
 | 0=>∃ a,u 11=.slice (some a) 0 0
 | 1=>u 12=.pointer (some ⟨g1,0+0,none⟩)
 | 2=>Is w0 (u 13) p.globals
 | 3=>OwnI (T 3).1 (T 3).2 w (u 14) p.globals
 | 4=>∃ a,u 15=.slice (some a) 0 0
 | 5=>u 16=.pointer (some ⟨g1,0+1,none⟩)
 | 6=>Is w0 (u 17) p.locks
 | 7=>OwnI (T 7).1 (T 7).2 w (u 18) p.locks
 | 8=>u 19=.agg #[u 14,u 18,.slice none 0 0,.slice none 0 0,.slice none 0 0]
 | 9=>∃ g,u 4=.pointer (some ⟨g,0,none⟩)∧(T 9).1≤g∧g<(T 9).2∧Blk g 28 w [.slice none 0 0,.slice none 0 0,.slice none 0 0,.slice none 0 0,.slice none 0 0]
 | _=>True
structure CdS (W:World) (p:DProg) (gk ge bs x2 l3 h3 l7 h7:Nat) (v14 v18 vp ve:Value) (N:List ByteArray) (E:List Int) (L:List DIns) (Fp Fe Fi:List Nat) (w:World):Prop where
 bk:Blk gk 28 w [v14,v18,vp,ve,.slice none 0 0]
 g:OwnI l3 h3 w v14 p.globals
 l:OwnI l7 h7 w v18 p.locks
 n:RowG Fp 9 w vp N
 e:RowG Fe 3 w ve E
 nn:Fp.Nodup
 en:Fe.Nodup
 em:EmF W ge p L Fi w
 x:Blk x2 28 w [.slice none 0 0,.slice none 0 0,.slice none 0 0,.slice none 0 0,.slice none 0 0]
 dpe:∀ c∈Fp,c∉Fe
 dpi:∀ c∈Fp,c∉Fi
 dei:∀ c∈Fe,c∉Fi
 bp:∀ c∈Fp,bs≤c
 be:∀ c∈Fe,bs≤c
 bi:∀ c∈Fi,bs≤c
section
variable {W:World} {p:DProg} {gk ge bs x2 l3 h3 l7 h7:Nat} {v14 v18 vp ve:Value} {N:List ByteArray} {E:List Int} {L:List DIns} {Fp Fe Fi:List Nat} {w w':World}
theorem zcM {α:Type} [Rep α] {lo hi:Nat} {v:Value} {x:α} {S:List Nat} (h:OwnI lo hi w v x) (hc:Chg S w w') (hd:∀ c∈S,c<lo∨hi≤c):OwnI lo hi w' v x:=by
 obtain ⟨F,hm,hF⟩:=h
 exact ⟨F,hm.keep fun c hcm=>hc.block c (hm.lt c hcm) fun hs=>by have:=hF c hcm;have:=hd c hs;omega,hF⟩
theorem CdS.ext (h:CdS W p gk ge bs x2 l3 h3 l7 h7 v14 v18 vp ve N E L Fp Fe Fi w) (hx:Ext w w'):CdS W p gk ge bs x2 l3 h3 l7 h7 v14 v18 vp ve N E L Fp Fe Fi w':=
 ⟨h.bk.ext hx,h.g.ext hx,h.l.ext hx,h.n.keep fun c hc=>hx.heap (h.n.lt c hc),h.e.keep fun c hc=>hx.heap (h.e.lt c hc),h.nn,h.en,h.em.ext hx,h.x.ext hx,h.dpe,h.dpi,h.dei,h.bp,h.be,h.bi⟩
variable (ho:gk<bs∧ge<bs∧gk≠ge∧x2<bs∧x2≠gk∧x2≠ge∧h3≤bs∧h7≤bs∧(gk<l3∨h3≤gk)∧(gk<l7∨h7≤gk)∧(ge<l3∨h3≤ge)∧(ge<l7∨h7≤ge)∧W.heap.size≤gk∧W.heap.size≤ge)
include ho
theorem CdS.names (h:CdS W p gk ge bs x2 l3 h3 l7 h7 v14 v18 vp ve N E L Fp Fe Fi w) {vp':Value} {N':List ByteArray} {Fp':List Nat} (hc:Chg (gk :: Fp) w w') (hB:Blk gk 28 w' [v14,v18,vp',ve,.slice none 0 0])
   (hR:RowG Fp' 9 w' vp' N') (hn:Fp'.Nodup) (hs:∀ c∈Fp',c∈Fp∨w.heap.size≤c) (hb:bs≤w.heap.size):CdS W p gk ge bs x2 l3 h3 l7 h7 v14 v18 vp' ve N' E L Fp' Fe Fi w':=by
 have hlt:=h.em.lt
 have hS:∀ c∈gk :: Fp,c=gk∨bs≤c:=fun c hc=>by
   rcases List.mem_cons.1 hc with e | hc
   · exact .inl e
   exact .inr (h.bp c hc)
 refine ⟨hB,zcM h.g hc fun c hcm=>by have:=hS c hcm;omega,zcM h.l hc fun c hcm=>by have:=hS c hcm;omega,hR,h.e.keep fun c hcm=>hc.block c (h.e.lt c hcm) fun hm=>?_,hn,h.en,h.em.keep (fun c hcm=>hc.block c ?_ fun hm=>?_) (h.em.old.chgL hc fun c hcm=>?_),h.x.chg hc fun hm=>?_,fun c hcm hce=>?_,fun c hcm hci=>?_,h.dei,fun c hcm=>?_,h.be,h.bi⟩
 · rcases List.mem_cons.1 hm with e | hm
   · have:=h.be c hcm;omega
   exact h.dpe c hm hcm
 · rcases List.mem_cons.1 hcm with rfl | hcm
   · exact hlt.1
   exact hlt.2.1 c hcm
 · rcases List.mem_cons.1 hcm with e1 | hcm
   · rcases List.mem_cons.1 hm with e | hm
     · omega
     have:=h.bp c hm;omega
   rcases List.mem_cons.1 hm with e | hm
   · have:=h.bi c hcm;omega
   exact h.dpi c hm hcm
 · rcases List.mem_cons.1 hcm with e | hcm
   · omega
   have:=h.bp c hcm;omega
 · have:=hS _ hm;omega
 · rcases hs c hcm with k | k
   · exact h.dpe c k hce
   have:=h.e.lt c hce;omega
 · rcases hs c hcm with k | k
   · exact h.dpi c k hci
   have:=hlt.2.1 c hci;omega
 rcases hs c hcm with k | k
 · exact h.bp c k
 omega
theorem CdS.ents (h:CdS W p gk ge bs x2 l3 h3 l7 h7 v14 v18 vp ve N E L Fp Fe Fi w) {ve':Value} {E':List Int} {Fe':List Nat} (hc:Chg (gk :: Fe) w w') (hB:Blk gk 28 w' [v14,v18,vp,ve',.slice none 0 0])
   (hR:RowG Fe' 3 w' ve' E') (hn:Fe'.Nodup) (hs:∀ c∈Fe',c∈Fe∨w.heap.size≤c) (hb:bs≤w.heap.size):CdS W p gk ge bs x2 l3 h3 l7 h7 v14 v18 vp ve' N E' L Fp Fe' Fi w':=by
 have hlt:=h.em.lt
 have hS:∀ c∈gk :: Fe,c=gk∨bs≤c:=fun c hc=>by
   rcases List.mem_cons.1 hc with e | hc
   · exact .inl e
   exact .inr (h.be c hc)
 refine ⟨hB,zcM h.g hc fun c hcm=>by have:=hS c hcm;omega,zcM h.l hc fun c hcm=>by have:=hS c hcm;omega,h.n.keep fun c hcm=>hc.block c (h.n.lt c hcm) fun hm=>?_,hR,h.nn,hn,h.em.keep (fun c hcm=>hc.block c ?_ fun hm=>?_) (h.em.old.chgL hc fun c hcm=>?_),h.x.chg hc fun hm=>?_,fun c hcm hce=>?_,h.dpi,fun c hcm hci=>?_,h.bp,fun c hcm=>?_,h.bi⟩
 · rcases List.mem_cons.1 hm with e | hm
   · have:=h.bp c hcm;omega
   exact h.dpe c hcm hm
 · rcases List.mem_cons.1 hcm with rfl | hcm
   · exact hlt.1
   exact hlt.2.1 c hcm
 · rcases List.mem_cons.1 hcm with e1 | hcm
   · rcases List.mem_cons.1 hm with e | hm
     · omega
     have:=h.be c hm;omega
   rcases List.mem_cons.1 hm with e | hm
   · have:=h.bi c hcm;omega
   exact h.dei c hm hcm
 · rcases List.mem_cons.1 hcm with e | hcm
   · omega
   have:=h.be c hcm;omega
 · have:=hS _ hm;omega
 · rcases hs c hce with k | k
   · exact h.dpe c hcm k
   have:=h.n.lt c hcm;omega
 · rcases hs c hcm with k | k
   · exact h.dei c k hci
   have:=hlt.2.1 c hci;omega
 rcases hs c hcm with k | k
 · exact h.be c k
 omega
theorem CdS.ems (h:CdS W p gk ge bs x2 l3 h3 l7 h7 v14 v18 vp ve N E L Fp Fe Fi w) {L':List DIns} {Fi':List Nat} (hc:Chg (ge :: Fi) w w') (hE:EmF W ge p L' Fi' w') (hs:∀ c∈Fi',c∈Fi∨w.heap.size≤c) (hb:bs≤w.heap.size) :
   CdS W p gk ge bs x2 l3 h3 l7 h7 v14 v18 vp ve N E L' Fp Fe Fi' w':=by
 have hS:∀ c∈ge :: Fi,c=ge∨bs≤c:=fun c hc=>by
   rcases List.mem_cons.1 hc with e | hc
   · exact .inl e
   exact .inr (h.bi c hc)
 refine ⟨h.bk.chg hc fun hm=>?_,zcM h.g hc fun c hcm=>by have:=hS c hcm;omega,zcM h.l hc fun c hcm=>by have:=hS c hcm;omega,h.n.keep fun c hcm=>hc.block c (h.n.lt c hcm) fun hm=>?_,h.e.keep fun c hcm=>hc.block c (h.e.lt c hcm) fun hm=>?_,h.nn,h.en,hE,h.x.chg hc fun hm=>?_,h.dpe,fun c hcm hci=>?_,fun c hcm hci=>?_,h.bp,h.be,fun c hcm=>?_⟩
 · have:=hS _ hm;omega
 · rcases List.mem_cons.1 hm with e | hm
   · have:=h.bp c hcm;omega
   exact h.dpi c hcm hm
 · rcases List.mem_cons.1 hm with e | hm
   · have:=h.be c hcm;omega
   exact h.dei c hcm hm
 · have:=hS _ hm;omega
 · rcases hs c hci with k | k
   · exact h.dpi c hcm k
   have:=h.n.lt c hcm;omega
 · rcases hs c hci with k | k
   · exact h.dei c hcm k
   have:=h.e.lt c hcm;omega
 rcases hs c hcm with k | k
 · exact h.bi c k
 omega
end
theorem zns {G L P:List ByteArray} {l:List DProc} {k:Nat} (hk:k<l.length) (a:Nat):emP G L P (l.drop k) a=emL G L P l[k].body a++(zog :: emP G L P (l.drop (k+1)) (a+(emL G L P l[k].body a).length+1)):=by
 rw [List.drop_eq_getElem_cons hk,emP]
theorem zmG {G L P:List ByteArray} {l:List DProc} {k:Nat} (hk:k<l.length) (a:Nat):zi1 G L P (l.drop k) a=(a:Int) :: zi1 G L P (l.drop (k+1)) (a+(emL G L P l[k].body a).length+1):=by
 rw [List.drop_eq_getElem_cons hk,zi1]
theorem zg4 {α:Type} [Rep α] {e:TypeId} {F:List Nat} {w:World} {v:Value} {l:List α} (h:RowG F e w v l) (hn:F.Nodup):Mine F w v l:=⟨h.own,hn,h.wr⟩
def F96 (a0:Value) (w:World) (R:VW):Prop:=
 oP (Instr.box 112 a0) w fun x1 w=>
 oP (Instr.alloc 28 true (.tuple #[])) w fun x2 w=>
 rL 112 x1 w fun x7=>
 cL 158 [x7] w fun x8 w=>
 rB .neq 3 T0 U0 x8 (iV 0) w fun x9=>
 BR x9
 (rD (Instr.build 28 #[]) w fun x10=>
 oS 28 x2 x10 w fun w=>
 rD (zaz 28 x2) w fun r2=>R (Value.tuple #[r2,(Value.bool false)]) w)
 ((fun w0=>PAR w0 [[(0,11)],[(1,12)],[(2,13),(1,12)],[(3,14),(0,11),(2,13)],[(4,15)],[(5,16)],[(6,17),(5,16)],[(7,18),(4,15),(6,17),(3,14)],[(8,19),(3,14),(7,18)],[(9,4)]] (fun Q=>
 (∀ (u3:Env) (T:Nat→Nat×Nat) (w:World),Ext w0 w→zbv [] w0.heap.size w.heap.size T→(True)→(fun w1=>oP (Instr.buildSlice 24 0 #[]) w fun x11 w=>
 Ext w1 w∧Q 0 (upd u3 11 x11) (zcy T 0 (w1.heap.size,w.heap.size)) w) w) ∧
 (∀ (u3:Env) (T:Nat→Nat×Nat) (w:World),Ext w0 w→zbv [] w0.heap.size w.heap.size T→(True)→(fun w1=>rF 112 x1 0 w fun x12=>
 Ext w1 w∧Q 1 (upd u3 12 x12) (zcy T 1 (w1.heap.size,w.heap.size)) w) w) ∧
 (∀ (u3:Env) (T:Nat→Nat×Nat) (w:World),Ext w0 w→zbv [1] w0.heap.size w.heap.size T→(Q 1 u3 T w∧True)→(fun w1=>rL 24 (u3 12) w fun x13=>
 Ext w1 w∧Q 2 (upd u3 13 x13) (zcy T 2 (w1.heap.size,w.heap.size)) w) w) ∧
 (∀ (u3:Env) (T:Nat→Nat×Nat) (w:World),Ext w0 w→zbv [0,2] w0.heap.size w.heap.size T→(Q 0 u3 T w∧Q 2 u3 T w∧True)→(fun w1=>oP (Builtin.append_ #[24,24] 24 [(u3 11),(u3 13)].toArray) w fun x14 w=>
 Ext w1 w∧Q 3 (upd u3 14 x14) (zcy T 3 (w1.heap.size,w.heap.size)) w) w) ∧
 (∀ (u3:Env) (T:Nat→Nat×Nat) (w:World),Ext w0 w→zbv [] w0.heap.size w.heap.size T→(True)→(fun w1=>oP (Instr.buildSlice 24 0 #[]) w fun x15 w=>
 Ext w1 w∧Q 4 (upd u3 15 x15) (zcy T 4 (w1.heap.size,w.heap.size)) w) w) ∧
 (∀ (u3:Env) (T:Nat→Nat×Nat) (w:World),Ext w0 w→zbv [] w0.heap.size w.heap.size T→(True)→(fun w1=>rF 112 x1 1 w fun x16=>
 Ext w1 w∧Q 5 (upd u3 16 x16) (zcy T 5 (w1.heap.size,w.heap.size)) w) w) ∧
 (∀ (u3:Env) (T:Nat→Nat×Nat) (w:World),Ext w0 w→zbv [5] w0.heap.size w.heap.size T→(Q 5 u3 T w∧True)→(fun w1=>rL 24 (u3 16) w fun x17=>
 Ext w1 w∧Q 6 (upd u3 17 x17) (zcy T 6 (w1.heap.size,w.heap.size)) w) w) ∧
 (∀ (u3:Env) (T:Nat→Nat×Nat) (w:World),Ext w0 w→zbv [4,6,3] w0.heap.size w.heap.size T→(Q 4 u3 T w∧Q 6 u3 T w∧Q 3 u3 T w∧True)→(fun w1=>oP (Builtin.append_ #[24,24] 24 [(u3 15),(u3 17)].toArray) w fun x18 w=>
 Ext w1 w∧Q 7 (upd u3 18 x18) (zcy T 7 (w1.heap.size,w.heap.size)) w) w) ∧
 (∀ (u3:Env) (T:Nat→Nat×Nat) (w:World),Ext w0 w→zbv [3,7] w0.heap.size w.heap.size T→(Q 3 u3 T w∧Q 7 u3 T w∧True)→(fun w1=>rD (Instr.build 28 #[(0,(u3 14)),(1,(u3 18))]) w fun x19=>
 Ext w1 w∧Q 8 (upd u3 19 x19) (zcy T 8 (w1.heap.size,w.heap.size)) w) w) ∧
 (∀ (u3:Env) (T:Nat→Nat×Nat) (w:World),Ext w0 w→zbv [] w0.heap.size w.heap.size T→(True)→(fun w1=>oP (Instr.alloc 28 true (.tuple #[])) w fun x4 w=>
 Ext w1 w∧Q 9 (upd u3 4 x4) (zcy T 9 (w1.heap.size,w.heap.size)) w) w) ∧
 True)
 (fun Q=>∀ (u3:Env) (T:Nat→Nat×Nat) (w:World),Ext w0 w→zbv [0,1,2,3,4,5,6,7,8,9] w0.heap.size w.heap.size T→(Q 0 u3 T w∧Q 1 u3 T w∧Q 2 u3 T w∧Q 3 u3 T w∧Q 4 u3 T w∧Q 5 u3 T w∧Q 6 u3 T w∧Q 7 u3 T w∧Q 8 u3 T w∧Q 9 u3 T w∧True) →
 oS 28 (u3 4) (u3 19) w fun w=>
 rL 112 x1 w fun x20=>
 rD (Instr.build 169 #[(0,x20)]) w fun x21=>
 oP (Instr.box 169 x21) w fun x22 w=>
 LOOPI [6] [(iV 0)] w fun u6 w next6=>
 rF 112 x1 2 w fun x24=>
 rL 110 x24 w fun x25=>
 rN 110 3 x25 w fun x26=>
 rC (u6 6) x26 w fun x27=>
 BR x27
 ((fun w=>rF 28 (u3 4) 2 w fun x30=>
 rL 24 x30 w fun x31=>
 rF 112 x1 2 w fun x32=>
 rL 110 x32 w fun x33=>
 rX 110 x33 (u6 6) w fun x35=>
 rF 164 x35 0 w fun x36=>
 rL 9 x36 w fun x37=>
 (fun w_=>oP (Instr.buildSlice 24 1 #[(0,x37)]) w_ fun x38 w=>
 Ext w_ w ∧
 (oP (Builtin.append_ #[24,24] 24 [x31,x38].toArray) w fun x39 w=>
 rF 28 (u3 4) 2 w fun x40=>
 oS 24 x40 x39 w fun w=>
 (fun w=>rF 28 (u3 4) 3 w fun x41=>
 rL 25 x41 w fun x42=>
 NIL x22 <|
 rF 169 x22 1 w fun x45=>
 rL 26 x45 w fun x46=>
 rN 26 3 x46 w fun x47=>
 (fun w_=>oP (Instr.buildSlice 25 1 #[(0,x47)]) w_ fun x48 w=>
 Ext w_ w ∧
 (oP (Builtin.append_ #[25,25] 25 [x42,x48].toArray) w fun x49 w=>
 rF 28 (u3 4) 3 w fun x50=>
 oS 25 x50 x49 w fun w=>
 rF 112 x1 2 w fun x52=>
 rL 110 x52 w fun x53=>
 rX 110 x53 (u6 6) w fun x55=>
 rF 164 x55 1 w fun x56=>
 rL 162 x56 w fun x57=>
 cL 159 [x22,x57] w fun x58 w=>
 rD (Instr.build 77 #[(0,(iV 9))]) w fun x60=>
 cL 160 [x22,x60] w fun x61 w=>
 rA (u6 6) (iV 1) w fun x29=>
 next6 [x29] w)) w) (World.drew1 w))) w) (World.drew1 w))
 (NIL x22 <|
 rF 169 x22 1 w fun x64=>
 rL 26 x64 w fun x65=>
 rF 28 (u3 4) 4 w fun x66=>
 oS 26 x66 x65 w fun w=>
 rL 28 (u3 4) w fun x67=>
 oS 28 x2 x67 w fun w=>
 rD (zaz 28 x2) w fun r2=>R (Value.tuple #[r2,(Value.bool true)]) w))) (World.drew1 w))
def cfg96:Cfg:=⟨extL,[],[(6,4611686018418999360,[6])],[(8,[0,1,2,3,4,5,6,7,8,9,10,11],256),(9,[0,1,2,3,4,5,6,7,8,9,10],128)],[(3,1046544,10)],[],[]⟩
theorem F96_call {a0:Value} {w:World} {R:VW} (h:F96 a0 w R):cL 96 [a0] w R:=co (g:=cfg96) Tryz.func96 (by kernel_rfl) (by kernel_rfl) (by kernel_rfl) h
open Rep (rep)
theorem zim {w W:World} {v:Value} {p:DProg} (h:Is W v p) (e:Ext W w) (hp:ProgR p) :
   CALL Tryz.prog 96 [v] w fun r w'=>Ext w w'∧∃ a,r=.tuple #[a,.bool true]∧OwnI w.heap.size w'.heap.size w' a (zbN p):=by
 have hcl:=(zhw hp).2
 obtain ⟨f1,f2,f3,f4⟩:=hp.facts
 refine F96_call ?_
 unfold F96
 refine zdf h e fun w1 hx1 hA=>?_
 have hs1:=hx1.size
 refine zbm zn3 fun w2 hx2 hB2=>?_
 have hs2:=hx2.size
 have hg2:=hB2.lt
 refine zab zdV hA hx2 fun v7 h7=>?_
 refine (zi6 h7 hx2 hp).mono ?_
 rintro _ w3 ⟨hx3,rfl⟩
 have hs3:=hx3.size
 refine zaQ ?_
 refine br (fun hc=>absurd rfl hc) (fun _=>?_)
 have hx13:=hx2.trans hx3
 have hx4:=zaj w3
 have hs4:=hx4.size
 generalize World.drew1 w3=w4 at *
 have hx14:=hx13.trans hx4
 have hg1:w.heap.size<w1.heap.size:=by
   obtain ⟨F,cs,hr,hr2⟩:=hA
   exact zfr hr2 (by rw [Rep.len hr];decide)
 refine PAR.mk (cdQ p w.heap.size w4) ?_ ?_ ?_
 · intro i u u' T T' wa wb hxa hxb hd hq
   match i,hd,hq with
   | 0,hd,⟨a,hq⟩=>exact ⟨a,(hd (0,11) (by decide)).1.trans hq⟩
   | 1,hd,hq=>exact (hd (1,12) (by decide)).1.trans hq
   | 2,hd,hq=>have:=(hd (2,13) (by decide)).1;show Is _ (u' 13) _;simp only [this];exact hq
   | 3,hd,hq=>
     obtain ⟨e1,e2⟩:=hd (3,14) (by decide)
     simp only at e1 e2
     show OwnI (T' 3).1 (T' 3).2 wb (u' 14) p.globals
     rw [e1,e2];exact OwnI.ext hq hxb
   | 4,hd,⟨a,hq⟩=>exact ⟨a,(hd (4,15) (by decide)).1.trans hq⟩
   | 5,hd,hq=>exact (hd (5,16) (by decide)).1.trans hq
   | 6,hd,hq=>have:=(hd (6,17) (by decide)).1;show Is _ (u' 17) _;simp only [this];exact hq
   | 7,hd,hq=>
     obtain ⟨e1,e2⟩:=hd (7,18) (by decide)
     simp only at e1 e2
     show OwnI (T' 7).1 (T' 7).2 wb (u' 18) p.locks
     rw [e1,e2];exact OwnI.ext hq hxb
   | 8,hd,hq=>
     have e1:=(hd (8,19) (by decide)).1
     have e2:=(hd (3,14) (by decide)).1
     have e3:=(hd (7,18) (by decide)).1
     simp only at e1 e2 e3
     show u' 19=.agg #[u' 14,u' 18,.slice none 0 0,.slice none 0 0,.slice none 0 0]
     rw [e1,e2,e3];exact hq
   | 9,hd,⟨g,q1,q2,q3,q4⟩=>
     obtain ⟨e1,e2⟩:=hd (9,4) (by decide)
     simp only at e1 e2
     exact ⟨g,e1.trans q1,by rw [e2];exact q2,by rw [e2];exact q3,q4.ext hxb⟩
   | n+10,_,_=>trivial
 · refine ⟨fun u T w' hx _ _=>?_,fun u T w' hx _ _=>?_,fun u T w' hx _ hp'=>?_,fun u T w' hx _ hp'=>?_,fun u T w' hx _ _=>?_,fun u T w' hx _ _=>?_,fun u T w' hx _ hp'=>?_,fun u T w' hx _ hp'=>?_,fun u T w' hx _ hp'=>?_,fun u T w' hx _ _=>?_,trivial⟩
   · exact zbQ (α:=ByteArray) u24 ty9 fun a w5 hx5 _=>⟨hx5,a,rfl⟩
   · exact zaa zfu ⟨Ext.refl _,rfl⟩
   · have q0:u 12=_:=hp'.1
     rw [q0]
     exact zab zcv (zdi hA) (hx14.trans hx) fun v6 h6=>⟨Ext.refl _,h6.ext hx14⟩
   · obtain ⟨a,q0⟩:∃ a,u 11=.slice (some a) 0 0:=hp'.1
     have q1:Is _ (u 13) p.globals:=hp'.2.1
     rw [q0]
     exact zfO (α:=ByteArray) u24 ty9 zc9 q1 hx (by rw [hp.g,zap];decide) (by rw [hp.g];decide) fun v5 w5 hx5 r5=>⟨hx5,r5.own⟩
   · exact zbQ (α:=ByteArray) u24 ty9 fun a w5 hx5 _=>⟨hx5,a,rfl⟩
   · exact zaa zgA ⟨Ext.refl _,rfl⟩
   · have q0:u 16=_:=hp'.1
     rw [q0]
     exact zab zcv (zec hA) (hx14.trans hx) fun v6 h6=>⟨Ext.refl _,h6.ext hx14⟩
   · obtain ⟨a,q0⟩:∃ a,u 15=.slice (some a) 0 0:=hp'.1
     have q1:Is _ (u 17) p.locks:=hp'.2.1
     rw [q0]
     exact zfO (α:=ByteArray) u24 ty9 zc9 q1 hx (by rw [hp.l,zap];decide) (by rw [hp.l];decide) fun v5 w5 hx5 r5=>⟨hx5,r5.own⟩
   · have o1:OwnI _ _ _ (u 14) p.globals:=hp'.1
     have o2:OwnI _ _ _ (u 18) p.locks:=hp'.2.1
     obtain ⟨a,n,cap,q1⟩:=zfe o1
     obtain ⟨a',n',cap',q1'⟩:=zfe o2
     rw [q1,q1']
     refine zaP (cells:=#[.slice a n cap,.slice a' n' cap',.slice none 0 0,.slice none 0 0,.slice none 0 0]) (by kernel_rfl) ⟨Ext.refl _,?_⟩
     show _=Value.agg #[u 14,u 18,.slice none 0 0,.slice none 0 0,.slice none 0 0]
     rw [q1,q1'];rfl
   exact zbm zn3 fun w5 hx5 hB=>⟨hx5,w'.heap.size,rfl,Nat.le_refl _,hB.lt,hB⟩
 rintro u T w5 hx5 hap ⟨-,-,-,o14,-,-,-,o18,q19,⟨gk,q4,hgk0,hgk1,hB5⟩,-⟩
 have o14:OwnI (T 3).1 (T 3).2 w5 (u 14) p.globals:=o14
 have o18:OwnI (T 7).1 (T 7).2 w5 (u 18) p.locks:=o18
 have q19:u 19=.agg #[u 14,u 18,.slice none 0 0,.slice none 0 0,.slice none 0 0]:=q19
 have t3:=hap.1 3 (by decide)
 have t7:=hap.1 7 (by decide)
 have t9:=hap.1 9 (by decide)
 have d37:=hap.2 3 (by decide) 7 (by decide) (by decide)
 have d39:=hap.2 3 (by decide) 9 (by decide) (by decide)
 have d79:=hap.2 7 (by decide) 9 (by decide) (by decide)
 have hs5:=hx5.size
 obtain ⟨l3,hl3⟩:∃ x,(T 3).1=x:=⟨_,rfl⟩
 obtain ⟨h3,hh3⟩:∃ x,(T 3).2=x:=⟨_,rfl⟩
 obtain ⟨l7,hl7⟩:∃ x,(T 7).1=x:=⟨_,rfl⟩
 obtain ⟨h7,hh7⟩:∃ x,(T 7).2=x:=⟨_,rfl⟩
 rw [hl3,hh3] at o14 t3 d37 d39
 rw [hl7,hh7] at o18 t7 d37 d79
 generalize u 14=v14 at *
 generalize u 18=v18 at *
 rw [q19,q4]
 have one14:=zmF rfl o14
 have one18:=zmF rfl o18
 refine zbo (α:=Raw5) (x:=(⟨v14⟩,⟨v18⟩,⟨.slice none 0 0⟩,⟨.slice none 0 0⟩,⟨.slice none 0 0⟩)) (lo:=0) (hi:=0) zcD rfl hB5 rfl (zjc one14 one18 rfl rfl rfl) fun w6 hc6 hB6=>?_
 have hs6:=hc6.size
 have hx16:Ext w1 w6:=Ext.chgI (hx14.trans hx5) hc6 (by omega)
 refine zab zdV hA hx16 fun v20 h20=>?_
 obtain ⟨c0,c1,c2,rfl,one0,one1,one2⟩:=zmE h20
 refine zaP (cells:=#[c0,c1,c2,.slice none 0 0]) (by kernel_rfl) ?_
 refine zme fun w7 hx7 hB7=>?_
 have hs7:=hx7.size
 have hg7:=hB7.lt
 have hE7:EmF w1 w6.heap.size p [] [] w7:=by
   refine ⟨c0,c1,c2,.slice none 0 0,h20,⟨[c0,c1,c2,.slice none 0 0],?_,hB7.range,List.nodup_nil,Wr.nil _,by simp,_,_,hB7⟩,hx16.trans hx7,by omega,by simp⟩
   have r:∀ {v:Value},v.oneCell'=true→rep [] w7 [v] (⟨v⟩:Raw):=fun h=>⟨rfl,rfl,h⟩
   exact zaw (F:=[]) (r one0) (zaw (F:=[]) (r one1) (zaw (F:=[]) (r one2) (show rep [] w7 [Value.slice none 0 0] (⟨.slice none 0 0,[]⟩:RIns) from ⟨rfl,.inl ⟨none,rfl,rfl,rfl⟩⟩)))
 have hord:gk<w7.heap.size∧w6.heap.size<w7.heap.size∧gk≠w6.heap.size∧w1.heap.size<w7.heap.size∧w1.heap.size≠gk∧w1.heap.size≠w6.heap.size∧h3≤w7.heap.size∧h7≤w7.heap.size∧(gk<l3∨h3≤gk)∧(gk<l7∨h7≤gk) ∧
     (w6.heap.size<l3∨h3≤w6.heap.size)∧(w6.heap.size<l7∨h7≤w6.heap.size)∧w1.heap.size≤gk∧w1.heap.size≤w6.heap.size:=by omega
 have hS7:CdS w1 p gk w6.heap.size w7.heap.size w1.heap.size l3 h3 l7 h7 v14 v18 (.slice none 0 0) (.slice none 0 0) [] [] [] [] [] [] w7:=
   ⟨hB6.ext hx7,(o14.chg hc6 (by omega)).ext hx7,(o18.chg hc6 (by omega)).ext hx7,.inl ⟨none,rfl,rfl,rfl⟩,.inl ⟨none,rfl,rfl,rfl⟩,List.nodup_nil,List.nodup_nil,hE7,((((hB2.ext hx3).ext hx4).ext hx5).chgI hc6 (by omega)).ext hx7,by simp,by simp,by simp,by simp,by simp,by simp⟩
 generalize hge:w6.heap.size=ge at *
 generalize hbs:w7.heap.size=bs at *
 obtain ⟨G,hG⟩:∃ G,G=p.globals:=⟨_,rfl⟩
 obtain ⟨Lk,hLk⟩:∃ G,G=p.locks:=⟨_,rfl⟩
 obtain ⟨Pn,hPn⟩:∃ G,G=p.procs.map DProc.name:=⟨_,rfl⟩
 have hcd:zbN p=⟨G,Lk,Pn,zi1 G Lk Pn p.procs 0,emP G Lk Pn p.procs 0⟩:=by rw [hG,hLk,hPn];rfl
 refine zaI p.procs.length (fun k us w'=>us=[.int .i64 (k:Int)]∧∃ vp ve E L Fp Fe Fi,k≤p.procs.length∧E.length=k∧CdS w1 p gk ge bs w1.heap.size l3 h3 l7 h7 v14 v18 vp ve ((p.procs.take k).map DProc.name) E L Fp Fe Fi w'∧bs≤w'.heap.size ∧
     zi1 G Lk Pn p.procs 0=E++zi1 G Lk Pn (p.procs.drop k) L.length∧emP G Lk Pn p.procs 0=L++emP G Lk Pn (p.procs.drop k) L.length) 0 (Nat.zero_le _)
     ⟨rfl,_,_,[],[],[],[],[],Nat.zero_le _,rfl,by simpa using hS7,by omega,by simp,by simp⟩ ?_
 rintro k m uu w8 hkm ⟨hu,vp,ve,E,L,Fp,Fe,Fi,hkl,hEl,hS8,hb8,hent,hem⟩
 simp only [List.map_cons,List.map_nil,List.cons.injEq,and_true] at hu
 rw [hu]
 have hx18:=hS8.em.old
 refine zaa zb4 ?_
 refine zab zex (za7 hA) hx18 fun v25 h25=>?_
 refine zad zkm h25 ?_
 refine zai ?_
 have hLl:L.length≤436:=by
   have h1:=congrArg List.length hem
   have h2:(zbN p).ins.length=(emP G Lk Pn p.procs 0).length:=by rw [hcd]
   rw [List.length_append] at h1
   omega
 refine br (fun hlt=>?_) (fun hge'=>?_)
 · have hk:k<p.procs.length:=by omega
   have hbody:=hp.b _ (List.getElem_mem hk)
   rw [zmG hk] at hent
   rw [zns hk] at hem
   have hx9:=zaj w8
   have hS9:=hS8.ext hx9
   have hs9:=hx9.size
   generalize World.drew1 w8=w9 at *
   have hx19:=hx18.trans hx9
   refine zaa zcQ ?_
   refine zci zcv hS9.bk rfl ?_
   refine zaa zb4 ?_
   refine zab zex (za7 hA) hx19 fun v33 h33=>?_
   refine zaf zkm ziI h33 hk fun b35 o35 hA35=>?_
   refine zaa zhT ?_
   refine zam ty9 (zeb hA35) hx19 fun hS37=>?_
   have hnl:((p.procs.take k).map DProc.name).length=k:=by rw [List.length_map,List.length_take];omega
   refine ze9 (β:=ByteArray) (G:=Fp) u24 ty9 z9 zc9 (by decide) hS9.n hS9.nn (zkA hS37) (by simp) (by rw [zap,hnl];omega) (by rw [hnl];omega) (fun w10 v39 w11 Fp' hx10 hc11 hR11 hN11 hs11=>?_) fun s' w' hx' h'=>⟨hx',h'⟩
   have hs10:=hx10.size
   have hs11':=hc11.size
   have hgkF:gk∉Fp:=fun hm=>by have:=hS9.bp _ hm;omega
   have hB11:=(hS9.bk.ext hx10).chg hc11 hgkF
   refine zaa zcQ ?_
   refine zcI (α:=Raw) (lo:=0) (hi:=0) zcv rfl rfl hB11 (by simp) (zil hR11.one) fun w12 hc12 hB12=>?_
   have hs12:=hc12.size
   have hgkF':gk∉Fp':=fun hm=>by
     rcases hs11 _ hm with h | h | h
     · exact hgkF h
     · simp at h
     omega
   have hS12:=hS9.names hord (vp':=v39) (N':=(p.procs.take (k+1)).map DProc.name) (Fp':=Fp') (w':=w12) ((((hx10.chg Fp).trans hc11).mono (by simp +contextual)).trans (hc12.toC.mono (by simp))) hB12
     (by rw [List.take_succ_eq_append_getElem hk,List.map_append];exact hR11.keep fun c hc=>hc12.block c (hR11.lt c hc) (by have:c≠gk:=fun e=>hgkF' (e▸hc);omega)) hN11 (fun c hc=>by
       rcases hs11 c hc with h | h | h
       · exact .inl h
       · simp at h
       exact .inr h) (by omega)
   have hx13:=zaj w12
   have hS13:=hS12.ext hx13
   have hs13:=hx13.size
   generalize World.drew1 w12=w13 at *
   have hx113:=hS13.em.old
   refine zaa za1 ?_
   refine zci zba hS13.bk rfl ?_
   refine NIL.mk rfl ?_
   obtain ⟨d0,d1,d2,rv,hd1,hd2,hd3,hd4,hd5⟩:=hS13.em
   refine zaa zey ?_
   refine zab (α:=RIns) zdT (zif hd2.at) (Ext.refl _) fun v46 k46=>?_
   obtain ⟨q46,h46⟩:=zjP k46
   have q46:v46=rv:=q46
   have h46:Is w13 rv L:=h46
   rw [q46]
   refine zad u26 h46 ?_
   refine ze9 (β:=Int) (G:=Fe) (x:=(L.length:Int)) u25 ty3 z3 zc3 (by decide) hS13.e hS13.en (zcp (by unfold I64;omega)) (by simp) (by rw [zap,hEl];omega) (by rw [hEl];omega) (fun w14 v49 w15 Fe' hx14' hc15 hR15 hN15 hs15=>?_) fun s' w' hx' h'=>⟨hx',h'⟩
   have hs14:=hx14'.size
   have hs15':=hc15.size
   have hgkE:gk∉Fe:=fun hm=>by have:=hS13.be _ hm;omega
   have hB15:=(hS13.bk.ext hx14').chg hc15 hgkE
   refine zaa za1 ?_
   refine zcI (α:=Raw) (lo:=0) (hi:=0) zba rfl rfl hB15 (by simp) (zil hR15.one) fun w16 hc16 hB16=>?_
   have hs16:=hc16.size
   have hgkE':gk∉Fe':=fun hm=>by
     rcases hs15 _ hm with h | h | h
     · exact hgkE h
     · simp at h
     omega
   have hS16:=hS13.ents hord (ve':=v49) (E':=E++[(L.length:Int)]) (Fe':=Fe') (w':=w16) ((((hx14'.chg Fe).trans hc15).mono (by simp +contextual)).trans (hc16.toC.mono (by simp))) hB16
     (hR15.keep fun c hc=>hc16.block c (hR15.lt c hc) (by have:c≠gk:=fun e=>hgkE' (e▸hc);omega)) hN15 (fun c hc=>by
       rcases hs15 c hc with h | h | h
       · exact .inl h
       · simp at h
       exact .inr h) (by omega)
   have hx116:=hS16.em.old
   refine zaa zb4 ?_
   refine zab zex (za7 hA) hx116 fun v53 h53=>?_
   refine zaf zkm ziI h53 hk fun b55 o55 hA55=>?_
   refine zaa zjz ?_
   refine zab zce (zft hA55) hx116 fun v57 h57=>?_
   have hbl:=zfQ G Lk Pn (p.procs[k]).body L.length
   refine (zgZ _ 2 _ hS16.em h57 hbody.1 (by have:=hbody.2;omega)).mono ?_
   rintro r58 w17 ⟨hc17,Fi',hE17,hF17⟩
   have hs17:=hc17.size
   rw [←hG,←hLk,←hPn] at hE17
   have hS17:=hS16.ems hord hc17 hE17 hF17 (by omega)
   obtain ⟨z1,z2,z3,z4,z5⟩:=hE17.lt
   refine zgY (lo:=w17.heap.size) (hi:=w17.heap.size) (by unfold I64;omega) fun v60 o60=>?_
   refine (zfh hE17 o60 z1 z2 (Nat.le_refl _) (by have:=hbody.2;rw [List.length_append];omega)).mono ?_
   rintro r61 w18 ⟨-,hc18,Fi'',hE18,hF18⟩
   have hs18:=hc18.size
   have hS18:=hS17.ems hord hc18 hE18 hF18 (by omega)
   refine zak (by omega) ?_
   refine ⟨m-1,by omega,k+1,by omega,rfl,_,_,_,_,_,_,_,by omega,by simp [hEl],hS18,by omega,?_,?_⟩
   · rw [hent];simp [Nat.add_assoc]
   rw [hem];simp [Nat.add_assoc,zog]
 have hk:k=p.procs.length:=by omega
 subst hk
 rw [List.drop_length,zi1,List.append_nil] at hent
 rw [List.drop_length,emP,List.append_nil] at hem
 rw [List.take_length] at hS8
 refine NIL.mk rfl ?_
 obtain ⟨d0,d1,d2,rv,hd1,hd2,hd3,hd4,hd5⟩:=hS8.em
 refine zaa zey ?_
 refine zab (α:=RIns) zdT (zif hd2.at) (Ext.refl _) fun v65 k65=>?_
 obtain ⟨q65,-⟩:=zjP k65
 have q65:v65=rv:=q65
 rw [q65]
 obtain ⟨Gi,hLi⟩:=zfP (Lens.var hd2)
 obtain ⟨cs1,⟨rfl,hrow⟩,hr1,hnG,_,hg1,_⟩:=hLi.here
 have hrow:RowG Gi 77 w8 rv L:=hrow
 have hGi:∀ c∈Gi,c∈Fi:=fun c hc=>by
   rcases List.mem_cons.1 (hLi.sub c (by simp [hc])) with e | h
   · exact absurd (e▸hc) hg1
   exact h
 refine zaa zbk ?_
 refine zcI (α:=Raw) (lo:=0) (hi:=0) zdT rfl rfl hS8.bk (by simp) (zil hrow.one) fun w9 hc9 hB9=>?_
 have hs9:=hc9.size
 refine zfG hB9 zcD ?_
 have hx9:=hS8.x.chgI hc9 (by omega)
 refine zbo (α:=Raw5) (x:=(⟨v14⟩,⟨v18⟩,⟨vp⟩,⟨ve⟩,⟨rv⟩)) (lo:=0) (hi:=0) zcD rfl hx9 rfl (zjc one14 one18 hS8.n.one hS8.e.one hrow.one) fun w10 hc10 hB10=>?_
 have hs10:=hc10.size
 refine zdb hB10 zcD ?_
 have hxf:Ext w w10:=Ext.chgI (Ext.chgI (hx1.trans hx18) hc9 (by omega)) hc10 (by omega)
 refine ⟨hxf,_,rfl,?_⟩
 obtain ⟨F3,M3,B3⟩:=(hS8.g.chg hc9 (by omega)).chg hc10 (by omega)
 obtain ⟨F7,M7,B7⟩:=(hS8.l.chg hc9 (by omega)).chg hc10 (by omega)
 have keep:∀ c,bs≤c→c<w8.heap.size→w10.heap[c]?=w8.heap[c]?:=fun c h1 h2=>(hc10.block c (by omega) (by omega)).trans (hc9.block c h2 (by omega))
 have Mp:=zg4 (hS8.n.keep fun c hc=>keep c (hS8.bp c hc) (hS8.n.lt c hc)) hS8.nn
 have Me:=zg4 (hS8.e.keep fun c hc=>keep c (hS8.be c hc) (hS8.e.lt c hc)) hS8.en
 have Mi:=zg4 (hrow.keep fun c hc=>keep c (hS8.bi c (hGi c hc)) (hrow.lt c hc)) hnG
 rw [hcd,hent,hem,hG,hLk,hPn]
 refine ⟨F3++(F7++(Fp++(Fe++Gi))),⟨⟨[v14,v18,vp,ve,rv],zaw (za0 rfl M3.own) (zaw (za0 rfl M7.own) (zaw (za0 rfl Mp.own) (zaw (za0 rfl Me.own) (za0 rfl Mi.own)))),rfl⟩,?_,M3.wr.append (M7.wr.append (Mp.wr.append (Me.wr.append Mi.wr)))⟩,fun c hc=>?_⟩
 · simp only [List.nodup_append,List.mem_append]
   refine ⟨M3.nodup,⟨M7.nodup,⟨hS8.nn,⟨hS8.en,hnG,fun a ha b hb e=>?_⟩,fun a ha b hb e=>?_⟩,fun a ha b hb e=>?_⟩,fun a ha b hb e=>?_⟩
   · exact hS8.dei a ha (hGi a (e▸hb))
   · subst e
     rcases hb with h | h
     · exact hS8.dpe a ha h
     exact hS8.dpi a ha (hGi a h)
   · subst e
     have:=B7 a ha
     rcases hb with h | h | h
     · have:=hS8.bp a h;omega
     · have:=hS8.be a h;omega
     have:=hS8.bi a (hGi a h);omega
   subst e
   have:=B3 a ha
   rcases hb with h | h | h | h
   · have:=B7 a h;omega
   · have:=hS8.bp a h;omega
   · have:=hS8.be a h;omega
   have:=hS8.bi a (hGi a h);omega
 simp only [List.mem_append] at hc
 rcases hc with h | h | h | h | h
 · have:=B3 c h;omega
 · have:=B7 c h;omega
 · have:=hS8.bp c h;have:=hS8.n.lt c h;omega
 · have:=hS8.be c h;have:=hS8.e.lt c h;omega
 have:=hS8.bi c (hGi c h);have:=hrow.lt c h;omega
def F69 (a0:Value) (w:World) (R:VW):Prop:=
 rN 22 3 a0 w fun x6=>
 rB .add 3 U0 T0 (iV 94701) x6 w fun x7=>
 LOOPI [3,4] [x7,(iV 0)] w fun u3 w next3=>
 rN 22 3 a0 w fun x10=>
 rC (u3 4) x10 w fun x11=>
 BR x11
 (rB .lss 3 T0 U0 (u3 4) (iV 4000) w fun x14=>
 BR x14
 (rB .mul 3 T0 U0 (u3 3) (iV 131) w fun x19=>
 rX 22 a0 (u3 4) w fun x22=>
 rL 5 x22 w fun x23=>
 rD (convert 5 3 x23) w fun x24=>
 rB .add 3 T0 T0 x19 x24 w fun x25=>
 rA x25 (iV 7) w fun x26=>
 rB .and 3 T0 U0 x26 (iV 1073741823) w fun x27=>
 rA (u3 4) (iV 1) w fun x17=>
 next3 [x27,x17] w)
 (rD (Instr.build 144 #[(0,a0),(2,(u3 3))]) w fun x30=>
 oP (Instr.box 144 x30) w fun x31 w=>
 R x31 w))
 (rD (Instr.build 144 #[(0,a0),(2,(u3 3))]) w fun x30=>
 oP (Instr.box 144 x30) w fun x31 w=>
 R x31 w)
def cfg69:Cfg:=⟨extL,[],[(3,268435224,[3,4])],[],[],[],[]⟩
theorem F69_call {a0:Value} {w:World} {R:VW} (h:F69 a0 w R):cL 69 [a0] w R:=co (g:=cfg69) Tryz.func69 (by kernel_rfl) (by kernel_rfl) (by kernel_rfl) h
def F68 (a0:Value) (w:World) (R:VW):Prop:=
 oP (Instr.alloc 28 true (.tuple #[])) w fun x2 w=>
 cL 129 [a0] w fun x9 w=>
 cL 96 [x9] w fun x10 w=>
 rE x10 0 w fun x11=>
 rE x10 1 w fun x12=>
 oP (Instr.alloc 28 true (.tuple #[])) w fun x3 w=>
 oS 28 x3 x11 w fun w=>
 rD (Op.unary .not x12) w fun x14=>
 BR x14
 (cL 94 [(Value.string (ByteArray.mk #[103,108,111,98,97,108,115,32,120,59,32,108,111,99,107,115,32,97,59,32,112,114,111,99,32,109,97,105,110,32,123,32,108,111,99,107,32,97,59,32,120,32,61,32,49,59,32,117,110,108,111,99,107,32,97,59,32,115,112,97,119,110,32,112,59,32,125,32,112,114,111,99,32,112,32,123,32,120,32,61,32,50,59,32,125]))] w fun x16 w=>
 rE x16 0 w fun x17=>
 rE x16 1 w fun x18=>
 oP (Instr.alloc 112 true (.tuple #[])) w fun x5 w=>
 oP (Instr.alloc 114 true (.tuple #[])) w fun x6 w=>
 oS 112 x5 x17 w fun w=>
 oS 114 x6 x18 w fun w=>
 rL 112 x5 w fun x20=>
 cL 96 [x20] w fun x21 w=>
 rE x21 0 w fun x22=>
 rE x21 1 w fun x23=>
 oS 28 x3 x22 w fun w=>
 rL 28 x3 w fun x24=>
 oS 28 x2 x24 w fun w=>
 rD (zaz 28 x2) w fun r2=>R r2 w)
 (rL 28 x3 w fun x24=>
 oS 28 x2 x24 w fun w=>
 rD (zaz 28 x2) w fun r2=>R r2 w)
def cfg68:Cfg:=⟨extL,[],[],[],[],[],[]⟩
theorem F68_call {a0:Value} {w:World} {R:VW} (h:F68 a0 w R):cL 68 [a0] w R:=co (g:=cfg68) Tryz.func68 (by kernel_rfl) (by kernel_rfl) (by kernel_rfl) h
def F10 (a0:Value) (w:World) (R:VW):Prop:=
 oP (Instr.alloc 28 true (.tuple #[])) w fun x2 w=>
 cL 69 [a0] w fun x4 w=>
 cL 68 [x4] w fun x5 w=>
 oS 28 x2 x5 w fun w=>
 rD (zaz 28 x2) w fun r2=>R r2 w
def cfg10:Cfg:=⟨extL,[],[],[],[],[],[]⟩
theorem F10_call {a0:Value} {w:World} {R:VW} (h:F10 a0 w R):cL 10 [a0] w R:=co (g:=cfg10) Tryz.func10 (by kernel_rfl) (by kernel_rfl) (by kernel_rfl) h
def F11 (a0:Value) (w:World) (R:VW):Prop:=
 cL 69 [a0] w fun x7 w=>
 cL 70 [x7] w fun x9 w=>
 oP (Instr.buildSlice 25 0 #[]) w fun x10 w=>
 LOOPI [4,5] [x10,(iV 0)] w fun u5 w next5=>
 rB .lss 3 T0 U0 (u5 5) (iV 70) w fun x12=>
 BR x12
 (cL 71 [x7,(iV 12)] w fun x17 w=>
 oP (Instr.buildSlice 25 1 #[(0,x17)]) w fun x18 w=>
 oP (Builtin.append_ #[25,25] 25 [(u5 4),x18].toArray) w fun x19 w=>
 rA (u5 5) (iV 1) w fun x14=>
 next5 [x19,x14] w)
 (R (u5 4) w)
def cfg11:Cfg:=⟨extL,[],[(5,1046576,[4,5])],[],[],[],[]⟩
theorem F11_call {a0:Value} {w:World} {R:VW} (h:F11 a0 w R):cL 11 [a0] w R:=co (g:=cfg11) Tryz.func11 (by kernel_rfl) (by kernel_rfl) (by kernel_rfl) h
open Rep (rep)
theorem zmH {bs:List UInt8} {k:Nat} (hk:k<(bs.take 4000).length) (h:Int):((bs.take 4000).take (k+1)).foldl (fun h (b:UInt8)=>zkX (h*131+(b.toNat:Int)+7) 1073741823) h =
   zkX (((bs.take 4000).take k).foldl (fun h (b:UInt8)=>zkX (h*131+(b.toNat:Int)+7) 1073741823) h*131+(((bs.take 4000)[k]).toNat:Int)+7) 1073741823:=by
 rw [List.take_succ_eq_append_getElem hk,List.foldl_append];rfl
set_option maxRecDepth 100000 in
theorem zjd {w W:World} {v:Value} {bs:List UInt8} (h:Is W v bs) (e:Ext W w) (hl:bs.length≤1048576) :
    CALL Tryz.prog 69 [v] w fun r w'=>Ext w w'∧∃ g,r=.pointer (some ⟨g,0,none⟩)∧w.heap.size≤g∧CurAt w g bs (ze7 bs) w':=by
  have fin:∀ {w1:World} {hh:Int},Ext w w1→hh=zpp bs→I64 hh→RD Tryz.prog (Instr.build 144 #[(0,v),(2,.int .i64 hh)]) w1 fun x30=>OP Tryz.prog (Instr.box 144 x30) w1 fun x31 w2=>
      Ext w w2∧∃ g,x31=.pointer (some ⟨g,0,none⟩)∧w.heap.size≤g∧CurAt w g bs (ze7 bs) w2:=by
    intro w1 hh hx1 hh1 hI
    obtain ⟨a,cap,Fi,xs,rfl,_⟩:=zb1 h
    refine zaP (cells:=#[.slice a bs.length cap,.int .i64 0,.int .i64 hh]) (by kernel_rfl) ?_
    refine zme fun w2 hx2 hB2=>?_
    refine ⟨hx1.trans hx2,_,rfl,hx1.size,.slice a bs.length cap,h.ext e,hx1.trans hx2,hx1.size,?_,Nat.zero_le _,hl⟩
    rw [hh1] at hB2
    exact hB2
  refine F69_call ?_
  unfold F69
  refine zad u22 h ?_
  refine zb6 (by unfold I64;omega) ?_
  refine zaI (bs.take 4000).length (fun k us w'=>∃ hh:Int,us=[.int .i64 hh,.int .i64 (k:Int)]∧Ext w w'∧k≤(bs.take 4000).length∧0≤hh∧hh≤1073741823∧hh=((bs.take 4000).take k).foldl (fun h (b:UInt8)=>zkX (h*131+(b.toNat:Int)+7) 1073741823) (94701+(bs.length:Int))) 0 (Nat.zero_le _)
    ⟨_,rfl,Ext.refl w,Nat.zero_le _,by omega,by omega,by simp⟩ ?_
  rintro k m u w1 hkm ⟨hh,hu,hx1,hkl,h0,h1,hf⟩
  obtain ⟨hu0,hu1⟩:=zjy hu
  rw [hu0,hu1]
  have htl:(bs.take 4000).length=min 4000 bs.length:=List.length_take
  have hdone:(bs.take 4000).length≤k→hh=zpp bs:=fun hk=>by
    rw [hf,List.take_of_length_le hk];rfl
  have hIh:I64 hh:=by unfold I64;omega
  refine zad u22 h ?_
  refine zai ?_
  refine br (fun hlt=>?_) (fun hge=>fin hx1 (hdone (by omega)) hIh)
  refine zai ?_
  refine br (fun hlt2=>?_) (fun hge=>fin hx1 (hdone (by omega)) hIh)
  have hk:k<(bs.take 4000).length:=by omega
  have hkb:k<bs.length:=by omega
  refine ziw (by unfold I64;omega) ?_
  refine zaf u22 ty5 (i:=k) h hkb fun b o hA=>?_
  refine zkC ty5 hA (e.trans hx1) ?_
  have h256:=UInt8.toNat_lt (bs[k])
  refine zlU (by kernel_rfl) u3 (by omega) ?_
  refine zb6 (by unfold I64;omega) ?_
  refine zb6 (by unfold I64;omega) ?_
  refine zjx ?_
  refine zak (by omega) ?_
  have hb:=zhQ (hh*131+((bs[k]).toNat:Int)+7) (n:=1073741823) (by omega)
  refine ⟨m-1,by omega,k+1,by omega,_,rfl,hx1,by omega,hb.1,hb.2,?_⟩
  rw [zmH hk,←hf,List.getElem_take]
def zbZ (bs:List UInt8):DCode:=zbN (zbS bs (ze7 bs)).1
theorem zhD (bs:List UInt8):CodeR (zbZ bs)∧(zbZ bs).ins.length≤436:=zhw (zfF bs _)
set_option maxRecDepth 20000 in
theorem zlp {W w:World} {g:Nat} {bs:List UInt8} {s:Cur} (hC:CurAt W g bs s w) :
    CALL Tryz.prog 68 [.pointer (some ⟨g,0,none⟩)] w fun r w'=>ChgI g (g+1) w w'∧OwnI w.heap.size w'.heap.size w' r (zbN (zbS bs s).1)∧CurAt W g bs (zbS bs s).2 w':=by
  have hgl:=hC.lt
  refine F68_call ?_
  unfold F68
  refine zbm zn3 fun w1 hx1 hB1=>?_
  have hs1:=hx1.size
  have hg1:=hB1.lt
  refine (zlh (hC.ext hx1)).mono ?_
  rintro v9 w2 ⟨hc2,hC2,o9⟩
  have hs2:=hc2.size
  refine (zim o9.is (Ext.refl _) (zfF bs s)).mono ?_
  rintro _ w3 ⟨hx3,a,rfl,o10⟩
  have hs3:=hx3.size
  refine zea rfl ?_
  refine zea rfl ?_
  refine zbm zn3 fun w4 hx4 hB4=>?_
  have hs4:=hx4.size
  have hg4:=hB4.lt
  have o10:=o10.ext hx4
  have hform:∃ us:Array Value,a=.agg us:=by
    obtain ⟨F,⟨⟨cs,hr,hv⟩,_⟩,_⟩:=o10
    exact ⟨cs.toArray,by simpa [mkv,Rep.agg] using hv⟩
  obtain ⟨us,rfl⟩:=hform
  have hB1':Blk w.heap.size 28 w4 _:=((hB1.chgI hc2 (by omega)).ext hx3).ext hx4
  have hul:us.toList.length=5:=by
    obtain ⟨F,⟨⟨cs,hr,hv⟩,_⟩,_⟩:=o10
    have:us=cs.toArray:=by simpa [mkv,Rep.agg] using hv
    rw [this];exact Rep.len hr
  refine zbo zcD rfl hB4 rfl o10 fun w5 hc5 hB5=>?_
  have hs5:=hc5.size
  have o10:=o10.chg hc5 (by omega)
  refine zbB ?_
  refine zdM (fun hc=>by simp at hc) (fun _=>?_)
  refine zfG hB5 (by rw [hul];exact zcD) ?_
  have hB15:=hB1'.chgI hc5 (by omega)
  refine zbo zcD rfl hB15 rfl o10 fun w6 hc6 hB6=>?_
  have hs6:=hc6.size
  refine zdb hB6 (by rw [hul];exact zcD) ?_
  refine ⟨?_,(o10.chg hc6 (by omega)).mono (by omega) (by omega),?_⟩
  · exact ChgI.out (ChgI.out (((hx1.toI.trans hc2).trans hx3.toI).trans hx4.toI) hc5 (by omega)) hc6 (by omega)
  exact (((hC2.ext hx3).ext hx4).chg hc5 (by omega) (by omega)).chg hc6 (by omega) (by omega)
theorem zj7 {w W:World} {v:Value} {bs:List UInt8} (h:Is W v bs) (e:Ext W w) (hl:bs.length≤1048576) :
   CALL Tryz.prog 10 [v] w fun r w'=>Ext w w'∧Own w.heap.size w' r (zbZ bs):=by
 refine F10_call ?_
 unfold F10
 refine zbm zn3 fun w1 hx1 hB1=>?_
 have hs1:=hx1.size
 have hg1:=hB1.lt
 refine (zjd h (e.trans hx1) hl).mono ?_
 rintro _ w2 ⟨hx2,g,rfl,hg,hC2⟩
 have hs2:=hx2.size
 have hg2:=hC2.lt
 refine (zlp hC2).mono ?_
 rintro v5 w3 ⟨hc3,o5,-⟩
 have hs3:=hc3.size
 have hform:∃ us:Array Value,v5=.agg us:=by
   obtain ⟨F,⟨⟨cs,hr,hv⟩,_⟩,_⟩:=o5
   exact ⟨cs.toArray,by simpa [mkv,Rep.agg] using hv⟩
 obtain ⟨us,rfl⟩:=hform
 have hul:us.toList.length=5:=by
   obtain ⟨F,⟨⟨cs,hr,hv⟩,_⟩,_⟩:=o5
   have:us=cs.toArray:=by simpa [mkv,Rep.agg] using hv
   rw [this];exact Rep.len hr
 have hB3:=(hB1.ext hx2).chgI hc3 (by omega)
 refine zbo zcD rfl hB3 rfl o5 fun w4 hc4 hB4=>?_
 refine zdb hB4 (by rw [hul];exact zcD) ?_
 exact ⟨Ext.chgI (Ext.chgI (hx1.trans hx2) hc3 (by omega)) hc4 (by omega),(o5.chg hc4 (by omega)).own.mono (by omega)⟩
def zcr (bs:List UInt8) (m:Int):Nat→Cur→List Int
 | 0,_=>[]
 | n+1,s=>zaV bs m s :: zcr bs m n (zah bs m s)
theorem zf7 (bs:List UInt8) (m:Int):∀ (n:Nat) (s:Cur),(zcr bs m n s).length=n
 | 0,_=>rfl
 | n+1,s=>by rw [zcr,List.length_cons,zf7 bs m n]
theorem zg5 (bs:List UInt8) {m:Int} (hm:0<m):∀ (n:Nat) (s:Cur),∀ x∈zcr bs m n s,0≤x∧x<m
 | 0,_,x,h=>by rw [zcr] at h;cases h
 | n+1,s,x,h=>by
   rw [zcr] at h
   rcases List.mem_cons.1 h with rfl | h
   · exact zbs bs hm s
   exact zg5 bs hm n _ x h
def zje (bs:List UInt8):List Int:=zcr bs 12 70 (zcg bs (ze7 bs))
theorem zjf {w W:World} {v:Value} {bs:List UInt8} (h:Is W v bs) (e:Ext W w) (hl:bs.length≤1048576) :
   CALL Tryz.prog 11 [v] w fun r w'=>Ext w w'∧Own w.heap.size w' r (zje bs):=by
 refine F11_call ?_
 unfold F11
 refine (zjd h e hl).mono ?_
 rintro _ w1 ⟨hx1,g,rfl,hg,hC1⟩
 have hs1:=hx1.size
 have hgl:=hC1.lt
 refine (zcK hC1).mono ?_
 rintro _ w2 ⟨hc2,hC2,rfl⟩
 have hs2:=hc2.size
 refine zbQ (α:=Int) u25 ty3 fun v10 w3 hx3 r10=>?_
 have hs3:=hx3.size
 refine zaI 70 (fun k us w'=>∃ v hi l s1,us=[v,.int .i64 (k:Int)]∧k≤70∧ChgI g (g+1) w2 w'∧CurAt w g bs s1 w'∧RowI w3.heap.size hi 3 w' v l∧w3.heap.size≤hi∧hi≤w'.heap.size∧l.length=k∧zje bs=l++zcr bs 12 (70-k) s1) 0 (Nat.zero_le _)
   ⟨_,w3.heap.size,[],_,rfl,by omega,hx3.toI,hC2.ext hx3,r10,Nat.le_refl _,Nat.le_refl _,rfl,rfl⟩ ?_
 rintro k m u w4 hkm ⟨v4,hi,l,s1,hu,hkl,hc4,hC4,r4,hlo,hhi,hll,heq⟩
 obtain ⟨hu0,hu1⟩:=zjy hu
 rw [hu0,hu1]
 refine zai ?_
 refine br (fun hlt=>?_) (fun hge=>?_)
 · have hk:k<70:=by omega
   refine (zbA hC4 (by omega)).mono ?_
   rintro _ w5 ⟨hc5,hC5,rfl⟩
   have hs5:=hc5.size
   have hb:=zbs bs (n:=12) (by omega) s1
   refine zeA (α:=Int) (lo2:=w5.heap.size) (hi2:=w5.heap.size) u25 ty3 z3 zc3 (by decide) (r4.chg hc5 (by omega)) (by omega) (Go.Sh.ownI_int (by unfold I64;omega)) (by omega) (by omega) (by rw [zap];omega) (by omega) fun v19 w6 hc6 r6=>?_
   have hs6:=hc6.size
   refine zak (by omega) ?_
   refine ⟨m-1,by omega,k+1,by omega,v19,w6.heap.size,_,_,rfl,by omega,ChgI.out (hc4.trans hc5) hc6 (by omega),hC5.chg hc6 (by omega) (by omega),r6,by omega,Nat.le_refl _,by simp [hll],?_⟩
   rw [heq,show 70-k=(70-(k+1))+1 by omega,zcr];simp
 have hk:k=70:=by omega
 subst hk
 rw [Nat.sub_self,zcr,List.append_nil] at heq
 rw [heq]
 exact ⟨Ext.chgI (Ext.chgI hx1 hc2 hg) hc4 hg,r4.own.own.mono (by omega)⟩
theorem zpB {G L P:List ByteArray} {pr:List ByteArray} (hG:G=glb) (hL:L=lks) (hP:∀ x∈pr,x∈P):∀ (l:List DProc) (a:Nat),(∀ x∈l,zk8 pr x.body)→∀ y∈emP G L P l a,wT y.term≤24
 | [],_,_,y,h=>by rw [emP] at h;cases h
 | x :: l,a,hb,y,h=>by
   have w0:wT term0≤24:=by decide
   rw [emP] at h
   rcases List.mem_append.1 h with h | h
   · have:=((zps hG hL hP 2).2 x.body a (hb x (by simp)).1).1 y h
     obtain ⟨_,_,_,q4,_⟩:=this
     split at q4
     · exact q4.2.2
     rw [q4];exact w0
   rcases List.mem_cons.1 h with rfl | h
   · exact w0
   exact zpB hG hL hP l _ (fun z hz=>hb z (by simp [hz])) y h
theorem znO {α:Type} {f:α→Nat} {b:Nat}:∀ {l:List α},(∀ x∈l,f x≤b)→sm f l≤l.length*b
 | [],_=>by simp [sm]
 | x :: l,h=>by
   have h1:=znO (l:=l) fun y hy=>h y (List.mem_cons_of_mem _ hy)
   have h2:=h x List.mem_cons_self
   simp only [sm,List.map_cons,List.sum_cons,List.length_cons,Nat.add_mul] at h1 ⊢
   omega
theorem zlq (bs:List UInt8):zl3 (zbZ bs)≤1048576:=by
 have hp:=zfF bs (ze7 bs)
 have hl:=(zhD bs).2
 obtain ⟨f1,f2,f3,f4⟩:=hp.facts
 obtain ⟨k,hk,hn⟩:=hp.n
 have h1:zmM (zbZ bs).globals≤100:=by
   show zmM (zbS bs (ze7 bs)).1.globals≤100
   rw [hp.g];decide
 have h2:zmM (zbZ bs).locks≤100:=by
   show zmM (zbS bs (ze7 bs)).1.locks≤100
   rw [hp.l];decide
 have h3:zmM (zbZ bs).procs≤100:=by
   show zmM ((zbS bs (ze7 bs)).1.procs.map DProc.name)≤100
   rw [hn]
   match k,hk with
   | 0,_=>decide
   | 1,_=>decide
   | 2,_=>decide
 have h4:(zbZ bs).entry.length≤4:=by
   have:(zbZ bs).entry.length=(zbS bs (ze7 bs)).1.procs.length:=zgn _ _ _ _ _
   omega
 have h5:zpn (zbZ bs).ins≤20000:=by
   have:=znO (f:=fun i:DIns=>wT i.term) (b:=24) (l:=(zbZ bs).ins) (zpB hp.g hp.l (fun x hx=>List.mem_of_mem_drop hx) _ _ hp.b)
   unfold zpn
   omega
 unfold zl3
 omega
section
variable {P:Program} {w:World} {K:Value→World→Prop}
end
def i3 (a b c:Int):Array Value:=#[.int .i64 a,.int .i64 b,.int .i64 c]
def ltR (x y:DRace):Prop:=x.g<y.g∨(x.g=y.g∧(x.a<y.a∨(x.a=y.a∧x.b<y.b)))
end Go.Proofs.YtbnjpfjjmhodnaaGreat
namespace Go.Proofs.YtbnjpfjjmhodnaaGreat
open Go Go.Sh Go.Proofs Go.Sort
open Rep (rep)
structure DOrder where
 fr:Int
 to:Int
 at_:Int
theorem DOrder.ext_iff {x y:DOrder}:x=y↔(x.fr=y.fr∧x.to=y.to∧x.at_=y.at_):=⟨fun h=>by rw [h];exact ⟨rfl,rfl,rfl⟩,fun h=>by obtain ⟨h0,h1,h2⟩:=h;cases x;cases y;simp only at h0 h1 h2;simp only [h0,h1,h2]⟩
instance:DecidableEq DOrder:=fun x y=>decidable_of_iff (x.fr=y.fr∧x.to=y.to∧x.at_=y.at_) DOrder.ext_iff.symm
instance:Rep DOrder:=Rep.via fun x=>(x.fr,x.to,x.at_)
instance:RepZ DOrder:=⟨⟨(RepZ.zv:Int),(RepZ.zv:Int),(RepZ.zv:Int)⟩,RepZ.zc (Int×Int×Int),fun w=>RepZ.zr (α:=Int×Int×Int) w⟩
instance:Flat DOrder:=⟨fun h=>Flat.flat (α:=Int×Int×Int) h⟩
def ltO (x y:DOrder):Prop:=x.fr<y.fr∨(x.fr=y.fr∧(x.to<y.to∨(x.to=y.to∧x.at_<y.at_)))
instance (x y:DOrder):Decidable (ltO x y):=by unfold ltO;infer_instance
instance:Inhabited DOrder:=⟨⟨0,0,0⟩⟩
def zmI (a b:DTouch):Prop:=a.global=b.global∧(a.write=true∨b.write=true)∧(0≤a.held∧a.held≤63)∧(0≤b.held∧b.held≤63)∧a.held.toNat &&& b.held.toNat=0
instance (a b:DTouch):Decidable (zmI a b):=by unfold zmI;infer_instance
def zo7 (a b:DTouch):DRace:=⟨a.global,min a.at_ b.at_,max a.at_ b.at_⟩
instance (x y:DRace):Decidable (ltR x y):=by unfold ltR;infer_instance
end Go.Proofs.YtbnjpfjjmhodnaaGreat
namespace Go.Proofs.YtbnjpfjjmhodnaaGreat
open Go Go.Sh Go.Proofs Go.Sort
open Rep (rep)
instance:Inhabited DRace:=⟨⟨0,0,0⟩⟩
def clR (a b:DTouch):List DRace:=if zmI a b then [zo7 a b] else []
def gB (a:DTouch) (bs:List DTouch):List DRace:=bs.flatMap (clR a)
def hA (bs xs:List DTouch):List DRace:=xs.flatMap fun a=>gB a bs
def hU (T:Nat→List DTouch) (xs:List DTouch) (t:Nat):List DRace:=(List.range t).flatMap fun u=>hA (T u) xs
def hT (T:Nat→List DTouch) (n:Nat):List DRace:=(List.range n).flatMap fun t=>hU T (T t) t
structure DArc where
 fr:Int
 to:Int
theorem DArc.ext_iff {x y:DArc}:x=y↔(x.fr=y.fr∧x.to=y.to):=⟨fun h=>by rw [h];exact ⟨rfl,rfl⟩,fun h=>by obtain ⟨h0,h1⟩:=h;cases x;cases y;simp only at h0 h1;simp only [h0,h1]⟩
instance:DecidableEq DArc:=fun x y=>decidable_of_iff (x.fr=y.fr∧x.to=y.to) DArc.ext_iff.symm
instance:Rep DArc:=Rep.via fun x=>(x.fr,x.to)
instance:RepZ DArc:=⟨⟨(RepZ.zv:Int),(RepZ.zv:Int)⟩,RepZ.zc (Int×Int),fun w=>RepZ.zr (α:=Int×Int) w⟩
instance:Flat DArc:=⟨fun h=>Flat.flat (α:=Int×Int) h⟩
end Go.Proofs.YtbnjpfjjmhodnaaGreat
namespace Go.Proofs.YtbnjpfjjmhodnaaGreat
open Go Go.Sh Go.Proofs Go.Sort
open Rep (rep)
def hd0 (l:List Int):Int:=l.headD 0
end Go.Proofs.YtbnjpfjjmhodnaaGreat
namespace Go.Sh
open Rep (rep)
instance:Rep Nat where
 size:=1
 agg:=false
 rep F _ cs x:=F=[]∧cs=[.int .u64 (x:Int)]∧x<18446744073709551616
 pos:=by decide
 sz _:=rfl
 len:=by rintro _ _ _ _ ⟨_,rfl,_⟩;rfl
 one:=by rintro _ _ _ _ ⟨_,rfl,_⟩ v hv;simp at hv;subst hv;rfl
 keep:=by rintro _ _ _ _ _ h _;exact h
 lt:=by rintro _ _ _ _ ⟨rfl,_⟩ b hb;cases hb
instance:Flat Nat:=⟨fun h=>h.1⟩
instance:RepZ Nat:=⟨0,[.int .u64 0],fun _=>⟨rfl,rfl,by decide⟩⟩
section
variable {P:Program} {w w0:World} {K:Value→Prop} {t:TypeId} {x y:Operand}
end
end Go.Sh
namespace Go.Proofs.YtbnjpfjjmhodnaaGreat
open Go Go.Sh Go.Proofs
open Rep (rep)
def F9 (a0:Value) (w:World) (R:VW):Prop:=
 rN 22 3 a0 w fun x4=>
 rB .gtr 3 T0 U0 x4 (iV 1048576) w fun x5=>
 R x5 w
def cfg9:Cfg:=⟨extL,[],[],[],[],[],[]⟩
theorem F9_call {a0:Value} {w:World} {R:VW} (h:F9 a0 w R):cL 9 [a0] w R:=co (g:=cfg9) Tryz.func9 (by kernel_rfl) (by kernel_rfl) (by kernel_rfl) h
theorem zo8 {w:World} {v0:Value} {W0:World} {bs:(List UInt8)}  (h0:Is W0 v0 bs) (e0:Ext W0 w)  :
   CALL Tryz.prog 9 [v0] w fun r w'=>Ext w w'∧(r=.bool (decide ((1048576:Int)<bs.length))):=by
 refine F9_call ?_
 unfold F9
 have hln4:=zae h0
 refine zad u22 h0 ?_
 refine zb5 ?_
 refine ⟨Ext.refl w,?_⟩
 rfl
def F15 (a0 a1:Value) (w:World) (R:VW):Prop:=
 rN 25 3 a0 w fun x7=>
 rN 25 3 a1 w fun x9=>
 rB .neq 3 T0 T0 x7 x9 w fun x10=>
 BR x10
 (R (Value.bool false) w)
 (LOOPI [5] [(iV 0)] w fun u4 w next4=>
 rN 25 3 a0 w fun x13=>
 rC (u4 5) x13 w fun x14=>
 BR x14
 ((fun w=>rX 25 a0 (u4 5) w fun x19=>
 rL 3 x19 w fun x20=>
 rX 25 a1 (u4 5) w fun x23=>
 rL 3 x23 w fun x24=>
 rB .neq 3 T0 T0 x20 x24 w fun x25=>
 BR x25
 (R (Value.bool false) w)
 (rA (u4 5) (iV 1) w fun x16=>
 next4 [x16] w)) (World.drew1 w))
 (R (Value.bool true) w))
def cfg15:Cfg:=⟨extL,[],[(4,67106864,[5])],[(6,[0,1,2,3,4,5,6,7,8],0)],[],[],[]⟩
theorem F15_call {a0 a1:Value} {w:World} {R:VW} (h:F15 a0 a1 w R):cL 15 [a0,a1] w R:=co (g:=cfg15) Tryz.func15 (by kernel_rfl) (by kernel_rfl) (by kernel_rfl) h
theorem zf8 {w:World} {v0:Value} {W0:World} {l1:(List Int)} {v1:Value} {W1:World} {l2:(List Int)}  (h0:Is W0 v0 l1) (e0:Ext W0 w) (h1:Is W1 v1 l2) (e1:Ext W1 w)  :
   CALL Tryz.prog 15 [v0,v1] w fun r w'=>Ext w w'∧(r=.bool (decide (l1=l2))):=by
 refine F15_call ?_
 unfold F15
 have hl1:=zae h0
 have hln7:=zae h0
 refine zad u25 h0 ?_
 have hln9:=zae h1
 refine zad u25 h1 ?_
 refine zaQ ?_
 refine br (fun c1=>?_) (fun c1=>?_)
 · refine ⟨Ext.refl w,?_⟩
   have:l1≠l2:=fun e=>c1 (by rw [e])
   simp [this]
 refine zaI (l1.length) (fun k us w'=>us=[.int .i64 (k:Int)]∧Ext w w'∧(l1.take k=l2.take k)) (0) (by omega) ⟨by simp,Ext.refl w,by simp⟩ ?_
 rintro k m4 uu4 w1_ hk4 ⟨hu,hx1_,hinv⟩
 simp only [List.map_cons,List.map_nil,List.cons.injEq,and_true] at hu
 try rw [hu]
 try clear hu
 have hln13:=zae h0
 refine zad u25 h0 ?_
 refine zai ?_
 refine br (fun c2=>?_) (fun c2=>?_)
 · have hx2_:=zaj w1_
   refine zaf u25 ty3 h0 (by omega) fun b19 o19 h19=>?_
   refine zac ty3 h19 (e0.trans (hx1_.trans hx2_)) fun hI20=>?_
   refine zaf u25 ty3 h1 (by omega) fun b23 o23 h23=>?_
   refine zac ty3 h23 (e1.trans (hx1_.trans hx2_)) fun hI24=>?_
   refine zaQ ?_
   refine br (fun c3=>?_) (fun c3=>?_)
   · refine ⟨(hx1_.trans hx2_),?_⟩
     have:l1≠l2:=fun e=>c3 (by subst e;rfl)
     simp [this]
   refine zak (by omega) ?_
   refine ⟨m4-1,by omega,k+1,by omega,by simp,(hx1_.trans hx2_),?_⟩
   rw [List.take_succ_eq_append_getElem (by omega),List.take_succ_eq_append_getElem (by omega),hinv,Decidable.not_not.1 c3]
 refine ⟨hx1_,?_⟩
 rw [List.take_of_length_le (by omega),List.take_of_length_le (by omega)] at hinv
 simp [hinv]
def zb9 (l:List Int) (t:Int):Nat→Nat
 | 0=>0
 | k+1=>if k<6∧l[k]?=some t then zb9 l t k ||| 2^k else zb9 l t k
theorem zmJ (l:List Int) (t:Int) (k:Nat):zb9 l t k<64:=by
 induction k with
 | zero=>simp [zb9]
 | succ k ih=>
   unfold zb9
   split
   · rename_i h
     have h1:2^k<2^6:=Nat.pow_lt_pow_right (by omega) h.1
     exact Nat.or_lt_two_pow (n:=6) ih h1
   exact ih
def zfl (s:DState) (t:Int):Nat:=if t<0 then 0 else zb9 s.owner t s.owner.length
def F21 (a0 a1:Value) (w:World) (R:VW):Prop:=
 oP (Instr.box 33 a0) w fun x2 w=>
 rB .lss 3 T0 U0 a1 (iV 0) w fun x9=>
 BR x9
 (R (iV 0) w)
 (rF 33 x2 1 w fun x10=>
 rL 25 x10 w fun x11=>
 rN 25 3 x11 w fun x12=>
 LOOPI [5,13] [(iV 0),(iV 0)] w fun u5 w next5=>
 rC (u5 13) x12 w fun x14=>
 BR x14
 (rX 25 x11 (u5 13) w fun x16=>
 rL 3 x16 w fun x17=>
 rB .lss 3 T0 U0 (u5 13) (iV 6) w fun x19=>
 BR x19
 (rB .eql 3 T0 T0 x17 a1 w fun x23=>
 BR x23
 (rD (convert 3 97 (u5 13)) w fun x27=>
 rB .shl 3 U0 T0 (iV 1) x27 w fun x28=>
 rB .or 3 T0 T0 (u5 5) x28 w fun x29=>
 rA (u5 13) (iV 1) w fun x30=>
 next5 [x29,x30] w)
 (rA (u5 13) (iV 1) w fun x30=>
 next5 [(u5 5),x30] w))
 (rA (u5 13) (iV 1) w fun x30=>
 next5 [(u5 5),x30] w))
 (R (u5 5) w))
def cfg21:Cfg:=⟨extL,[],[(5,2147475680,[5,13])],[],[],[],[]⟩
theorem F21_call {a0 a1:Value} {w:World} {R:VW} (h:F21 a0 a1 w R):cL 21 [a0,a1] w R:=co (g:=cfg21) Tryz.func21 (by kernel_rfl) (by kernel_rfl) (by kernel_rfl) h
theorem zfm {w:World} {v0:Value} {W0:World} {s:DState} {t:Int}  (h0:Is W0 v0 s) (e0:Ext W0 w)  :
   CALL Tryz.prog 21 [v0,.int .i64 t] w fun r w'=>Ext w w'∧(r=.int .i64 (zfl s t:Int)):=by
 refine F21_call ?_
 unfold F21
 refine zan zcj rfl h0 e0 fun w1_ hx1_ hA2 hV2=>?_
 refine zai ?_
 refine br (fun c1=>?_) (fun c1=>?_)
 · refine ⟨hx1_,?_⟩
   unfold zfl
   rw [if_pos c1];rfl
 refine zaa zcR ?_
 refine zab zba (zbi hA2) (Ext.refl w1_) fun v11 h11=>?_
 have hln12:=zae h11
 refine zad u25 h11 ?_
 refine zaI (s.owner.length) (fun k us w'=>us=[.int .i64 (zb9 s.owner t k:Int),.int .i64 (k:Int)]∧Ext w1_ w'∧(True)) (0) (by omega) ⟨by simp [zb9],Ext.refl w1_,trivial⟩ ?_
 rintro k m5 uu5 w2_ hk5 ⟨hu,hx2_,hinv⟩
 obtain ⟨hu0,hu1⟩:=zjy hu
 try rw [hu0]
 try rw [hu1]
 try clear hu0 hu1
 have hlt:=zmJ s.owner t k
 refine zai ?_
 refine br (fun c2=>?_) (fun c2=>?_)
 · refine zaf u25 ty3 h11 (by omega) fun b16 o16 h16=>?_
   refine zac ty3 h16 hx2_ fun hI17=>?_
   refine zai ?_
   refine br (fun c3=>?_) (fun c3=>?_)
   · refine zag ?_
     refine br (fun c4=>?_) (fun c4=>?_)
     · refine znX (by kernel_rfl) u97 (by omega) ?_
       refine znW (by omega) ?_
       refine zph (by omega) (by have:2^k<2^6:=Nat.pow_lt_pow_right (by omega) (by omega);omega) ?_
       refine zak (by omega) ?_
       refine ⟨m5-1,by omega,k+1,by omega,by rw [zb9,if_pos ⟨by omega,by rw [List.getElem?_eq_getElem (by omega),c4]⟩],hx2_,?_⟩
       trivial
     refine zak (by omega) ?_
     refine ⟨m5-1,by omega,k+1,by omega,by rw [zb9,if_neg (by rw [List.getElem?_eq_getElem (by omega)];simp only [Option.some.injEq];exact fun h=>c4 h.2)],hx2_,?_⟩
     trivial
   refine zak (by omega) ?_
   refine ⟨m5-1,by omega,k+1,by omega,by rw [zb9,if_neg (by omega)],hx2_,?_⟩
   trivial
 refine ⟨(hx1_.trans hx2_),?_⟩
 unfold zfl
 rw [if_neg (by omega),show k=s.owner.length by omega]
theorem zf9 {l m:List Int} {u:Int} (h:∀ i:Nat,l[i]?=some u↔m[i]?=some u):∀ k,zb9 l u k=zb9 m u k
 | 0=>rfl
 | k+1=>by
   rw [zb9,zb9,zf9 h k]
   by_cases hk:k<6∧l[k]?=some u
   · rw [if_pos hk,if_pos ⟨hk.1,(h k).1 hk.2⟩]
   rw [if_neg hk,if_neg fun h'=>hk ⟨h'.1,(h k).2 h'.2⟩]
theorem znt {l:List Int} {a:Nat} {v u:Int} (hv:v≠u) (ha:l[a]?≠some u) (k:Nat):zb9 (l.set a v) u k=zb9 l u k:=by
 refine zf9 (fun i=>?_) k
 rw [List.getElem?_set]
 by_cases h:a=i
 · subst h
   rw [if_pos rfl]
   by_cases hl:a<l.length
   · rw [if_pos hl]
     exact ⟨fun h=>absurd (Option.some.inj h) hv,fun h=>absurd h ha⟩
   rw [if_neg hl,List.getElem?_eq_none (by omega)]
 rw [if_neg h]
theorem zjg {c:DCode} {s:DState} {t u:Int} (hgo:GoR c s t) (hu:0≤u) (hne:u≠t):zfl (zbc c s t) u=zfl s u:=by
 have key:∀ (a:Nat) (v:Int),v≠u→s.owner[a]?≠some u→zb9 (s.owner.set a v) u (s.owner.set a v).length=zb9 s.owner u s.owner.length:=fun a v h1 h2=>by
   rw [List.length_set];exact znt h1 h2 _
 have e:∀ s':DState,zfl s' u=zb9 s'.owner u s'.owner.length:=fun s'=>by unfold zfl;rw [if_neg (by omega)]
 rw [e,e]
 unfold zbc
 split
 · rfl
 split
 · split<;>rfl
 split
 · rename_i h6
   refine key _ _ (fun e=>hne e.symm) fun e=>?_
   have:=hgo.2.1 h6
   unfold ow at this
   rw [List.getD_eq_getElem?_getD,e] at this
   simp at this
   omega
 split
 · split
   · rename_i h7 h8
     refine key _ _ (by omega) fun e=>?_
     unfold ow at h8
     rw [List.getD_eq_getElem?_getD,e] at h8
     simp at h8
     exact hne h8
   rfl
 rfl
theorem zin (c:DCode) (s:DState) (t:Int):s.stacks.length≤(zbc c s t).stacks.length∧∀ u:Nat,u<s.stacks.length→(zbc c s t).stacks[u]?=s.stacks[u]?:=by
 unfold zbc
 split
 · exact ⟨Nat.le_refl _,fun _ _=>rfl⟩
 split
 · split
   · exact ⟨by simp,fun u hu=>by rw [List.getElem?_append_left hu]⟩
   exact ⟨Nat.le_refl _,fun _ _=>rfl⟩
 split
 · exact ⟨Nat.le_refl _,fun _ _=>rfl⟩
 split
 · split
   · exact ⟨Nat.le_refl _,fun _ _=>rfl⟩
   exact ⟨Nat.le_refl _,fun _ _=>rfl⟩
 exact ⟨Nat.le_refl _,fun _ _=>rfl⟩
theorem zg6 {α:Type} {l:List α} {t:Int} {x:α} {u:Nat} (ht:0≤t) (hne:(u:Int)≠t):(l.set t.toNat x)[u]?=l[u]?:=by
 rw [List.getElem?_set,if_neg (by omega)]
theorem zg7 {c:DCode} {s:DState} {t:Int} (ht:0≤t):s.stacks.length≤(zdw c s t).stacks.length∧∀ u:Nat,(u:Int)≠t→u<s.stacks.length→(zdw c s t).stacks[u]?=s.stacks[u]?:=by
 have hr:=zin c s t
 unfold zdw
 split
 · exact ⟨by simp,fun u hne _=>zg6 ht hne⟩
 split
 · exact ⟨by simp,fun u hne _=>zg6 ht hne⟩
 exact ⟨by simpa using hr.1,fun u hne hu=>by rw [zg6 ht hne];exact hr.2 u hu⟩
theorem zmK {c:DCode} {s:DState} {t u:Int} (hgo:GoR c s t) (hu:0≤u) (hne:u≠t):zfl (zdw c s t) u=zfl s u:=by
 have hr:=zjg hgo hu hne
 unfold zdw
 split
 · rfl
 split
 · rfl
 exact hr
theorem zor {c:DCode} {s:DState} {t:Int} {u:Nat} (ht:0≤t) (hu:u<s.stacks.length) (hne:(u:Int)≠t):zc7 (zdw c s t) u=zc7 s u:=by
 obtain ⟨h1,h2⟩:=zg7 (c:=c) (s:=s) ht
 have h3:=h2 u hne hu
 unfold zc7
 rw [dif_pos ⟨by omega,by rw [Int.toNat_natCast];omega⟩,dif_pos ⟨by omega,by rw [Int.toNat_natCast];omega⟩]
 simp only [Int.toNat_natCast]
 rw [List.getElem?_eq_getElem hu,List.getElem?_eq_getElem (by omega)] at h3
 rw [Option.some.inj h3]
theorem zeL {c:DCode} {s:DState} {t:Int}:∀ {k:Nat},t∈zbO c s k→0≤t∧t<k
 | 0,h=>by simp [zbO] at h
 | k+1,h=>by
   rw [zbO] at h
   split at h
   · rcases List.mem_append.1 h with h | h
     · have:=zeL h;omega
     simp only [List.mem_cons,List.not_mem_nil,or_false] at h
     omega
   have:=zeL h;omega
theorem zg8 {c:DCode} {s:DState} {t:Int}:∀ {k:Nat},t∈zbO c s k→GoR c s t
 | 0,h=>by simp [zbO] at h
 | k+1,h=>by
   rw [zbO] at h
   split at h
   · rcases List.mem_append.1 h with h | h
     · exact zg8 h
     simp only [List.mem_cons,List.not_mem_nil,or_false] at h
     subst h;assumption
   exact zg8 h
theorem zfn {w W:World} {v:Value} {s:DState} (h:Is W v s) (e:Ext W w) (hsz:zpc s) :
   CALL Tryz.prog 79 [v] w fun r w'=>Ext w w'∧Own w.heap.size w' r s:=
 (zf4 h e hsz).mono fun r w' ⟨hx,z,ho,hz⟩=>⟨hx,hz▸(zop ho).own⟩
def zhE (c:DCode) (s:DState) (t:Int):DState:=if (CodeR c∧zaB c s)∧GoR c s t then zdw c s t else s
def F19 (a0 a1 a2:Value) (w:World) (R:VW):Prop:=
 oP (Instr.box 28 a0) w fun x3 w=>
 oP (Instr.box 33 a1) w fun x4 w=>
 oP (Instr.alloc 33 true (.tuple #[])) w fun x6 w=>
 rL 28 x3 w fun x8=>
 rL 33 x4 w fun x9=>
 cL 14 [x8,x9] w fun x10 w=>
 rD (Op.unary .not x10) w fun x11=>
 BR x11
 (rL 33 x4 w fun x19=>
 cL 79 [x19] w fun x20 w=>
 oS 33 x6 x20 w fun w=>
 rD (zaz 33 x6) w fun r6=>R (Value.tuple #[r6,(Value.bool false)]) w)
 (rL 28 x3 w fun x13=>
 rL 33 x4 w fun x14=>
 cL 78 [x13,x14,a2] w fun x16 w=>
 rD (Op.unary .not x16) w fun x17=>
 BR x17
 (rL 33 x4 w fun x19=>
 cL 79 [x19] w fun x20 w=>
 oS 33 x6 x20 w fun w=>
 rD (zaz 33 x6) w fun r6=>R (Value.tuple #[r6,(Value.bool false)]) w)
 (rL 28 x3 w fun x21=>
 rL 33 x4 w fun x22=>
 cL 80 [x21,x22,a2] w fun x24 w=>
 oS 33 x6 x24 w fun w=>
 rD (zaz 33 x6) w fun r6=>R (Value.tuple #[r6,(Value.bool true)]) w))
def cfg19:Cfg:=⟨extL,[],[],[],[],[],[]⟩
theorem F19_call {a0 a1 a2:Value} {w:World} {R:VW} (h:F19 a0 a1 a2 w R):cL 19 [a0,a1,a2] w R:=co (g:=cfg19) Tryz.func19 (by kernel_rfl) (by kernel_rfl) (by kernel_rfl) h
theorem zio {w:World} {v0:Value} {W0:World} {c:DCode} {v1:Value} {W1:World} {s:DState} {t:Int}  (h0:Is W0 v0 c) (e0:Ext W0 w) (h1:Is W1 v1 s) (e1:Ext W1 w) (hz:zpc s) :
   CALL Tryz.prog 19 [v0,v1,.int .i64 t] w fun r w'=>Ext w w'∧(∃ a,r=.tuple #[a,.bool (decide ((CodeR c∧zaB c s)∧GoR c s t))]∧Own w.heap.size w' a (zhE c s t)):=by
 refine F19_call ?_
 unfold F19
 have hs_e0:=e0.size
 have hs_e1:=e1.size
 refine zan zcD rfl h0 e0 fun w1_ hx1_ hA3 hV3=>?_
 have hs_hx1_:=hx1_.size
 refine zan zcj rfl h1 (e1.trans hx1_) fun w2_ hx2_ hA4 hV4=>?_
 have hs_hx2_:=hx2_.size
 refine zeu (α:=DState) zpG fun w3_ hx3_ hv6=>?_
 have hg6:=hv6.lt
 have hs_hx3_:=hx3_.size
 refine zar hV3 (hx2_.trans hx3_) ?_
 refine zar hV4 hx3_ ?_
 refine (zbX h0 (e0.trans (hx1_.trans (hx2_.trans hx3_))) h1 (e1.trans (hx1_.trans (hx2_.trans hx3_)))).mono ?_
 rintro _ w4_ ⟨hx4_,rfl⟩
 have hs_hx4_:=hx4_.size
 refine zas ?_
 refine br (fun c1=>?_) (fun c1=>?_)
 · refine zar hV4 (hx3_.trans hx4_) ?_
   refine (zfn h1 (e1.trans (hx1_.trans (hx2_.trans (hx3_.trans hx4_)))) (by assumption)).mono ?_
   rintro r20 w5_ ⟨hx5_,o20⟩
   have o20:=o20.toI
   have hs_hx5_:=hx5_.size
   refine zaT zcj (hv6.ext (hx4_.trans hx5_)) (o20.ext (Ext.refl w5_)) (by omega) fun w6_ hc6_ hv6_s6=>?_
   have hs_hc6_:=hc6_.size
   have o20_c6:=(o20.ext (Ext.refl w5_)).chg hc6_ (by omega)
   refine zbn zcj hv6_s6 (Ext.refl w6_) fun r6 hr6=>?_
   replace hr6:=hr6.ext (Ext.refl w6_)
   refine ⟨(Ext.chgI ((((hx1_.trans hx2_).trans hx3_).trans hx4_).trans hx5_) hc6_ (by omega)),?_⟩
   rw [decide_eq_false fun h=>c1 h.1,show zhE c s t=s from if_neg fun h=>c1 h.1]
   exact ⟨_,rfl,hr6.own.mono (by omega)⟩
 have hcs:=Decidable.not_not.1 c1
 have hc:=hcs.1
 have hs:=hcs.2
 refine zar hV3 (hx2_.trans (hx3_.trans hx4_)) ?_
 refine zar hV4 (hx3_.trans hx4_) ?_
 refine (zj1 h0 (e0.trans (hx1_.trans (hx2_.trans (hx3_.trans hx4_)))) h1 (e1.trans (hx1_.trans (hx2_.trans (hx3_.trans hx4_)))) (by assumption) (by assumption)).mono ?_
 rintro _ w7_ ⟨hx7_,rfl⟩
 have hs_hx7_:=hx7_.size
 refine zas ?_
 refine br (fun c2=>?_) (fun c2=>?_)
 · refine zar hV4 (hx3_.trans (hx4_.trans hx7_)) ?_
   refine (zfn h1 (e1.trans (hx1_.trans (hx2_.trans (hx3_.trans (hx4_.trans hx7_))))) (by assumption)).mono ?_
   rintro r20 w8_ ⟨hx8_,o20⟩
   have o20:=o20.toI
   have hs_hx8_:=hx8_.size
   refine zaT zcj (hv6.ext (hx4_.trans (hx7_.trans hx8_))) (o20.ext (Ext.refl w8_)) (by omega) fun w9_ hc9_ hv6_s9=>?_
   have hs_hc9_:=hc9_.size
   have o20_c9:=(o20.ext (Ext.refl w8_)).chg hc9_ (by omega)
   refine zbn zcj hv6_s9 (Ext.refl w9_) fun r6 hr6=>?_
   replace hr6:=hr6.ext (Ext.refl w9_)
   refine ⟨(Ext.chgI (((((hx1_.trans hx2_).trans hx3_).trans hx4_).trans hx7_).trans hx8_) hc9_ (by omega)),?_⟩
   rw [decide_eq_false fun h=>c2 h.2,show zhE c s t=s from if_neg fun h=>c2 h.2]
   exact ⟨_,rfl,hr6.own.mono (by omega)⟩
 have hgo:=Decidable.not_not.1 c2
 refine zar hV3 (hx2_.trans (hx3_.trans (hx4_.trans hx7_))) ?_
 refine zar hV4 (hx3_.trans (hx4_.trans hx7_)) ?_
 refine (zlj h0 (e0.trans (hx1_.trans (hx2_.trans (hx3_.trans (hx4_.trans hx7_))))) h1 (e1.trans (hx1_.trans (hx2_.trans (hx3_.trans (hx4_.trans hx7_))))) (by assumption) (by assumption) (by assumption)).mono ?_
 rintro r24 w10_ ⟨hx10_,o24⟩
 have o24:=o24.toI
 have hs_hx10_:=hx10_.size
 refine zaT zcj (hv6.ext (hx4_.trans (hx7_.trans hx10_))) (o24.ext (Ext.refl w10_)) (by omega) fun w11_ hc11_ hv6_s11=>?_
 have hs_hc11_:=hc11_.size
 have o24_c11:=(o24.ext (Ext.refl w10_)).chg hc11_ (by omega)
 refine zbn zcj hv6_s11 (Ext.refl w11_) fun r6 hr6=>?_
 replace hr6:=hr6.ext (Ext.refl w11_)
 refine ⟨(Ext.chgI (((((hx1_.trans hx2_).trans hx3_).trans hx4_).trans hx7_).trans hx10_) hc11_ (by omega)),?_⟩
 rw [decide_eq_true ⟨hcs,hgo⟩,show zhE c s t=zdw c s t from if_pos ⟨hcs,hgo⟩]
 exact ⟨_,rfl,hr6.own.mono (by omega)⟩
def F3 (a0:Value) (w:World) (R:VW):Prop:=
 cL 9 [a0] w fun x14 w=>
 BR x14
 (R (Value.bool true) w)
 (cL 10 [a0] w fun x16 w=>
 oP (Instr.alloc 28 true (.tuple #[])) w fun x3 w=>
 oS 28 x3 x16 w fun w=>
 cL 10 [a0] w fun x18 w=>
 oP (Instr.alloc 28 true (.tuple #[])) w fun x4 w=>
 oS 28 x4 x18 w fun w=>
 cL 11 [a0] w fun x20 w=>
 rL 28 x3 w fun x21=>
 cL 12 [x21] w fun x22 w=>
 oP (Instr.alloc 33 true (.tuple #[])) w fun x6 w=>
 oS 33 x6 x22 w fun w=>
 LOOPI [7] [(iV 0)] w fun u8 w next8=>
 rN 25 3 x20 w fun x25=>
 rC (u8 7) x25 w fun x26=>
 BR x26
 (rB .lss 3 T0 U0 (u8 7) (iV 40) w fun x29=>
 BR x29
 (rL 28 x4 w fun x33=>
 rL 33 x6 w fun x34=>
 cL 13 [x33,x34] w fun x35 w=>
 rL 28 x3 w fun x36=>
 rL 33 x6 w fun x37=>
 cL 14 [x36,x37] w fun x38 w=>
 rD (Op.unary .not x38) w fun x39=>
 BR x39
 (R (Value.bool false) w)
 (rL 28 x3 w fun x41=>
 rL 33 x6 w fun x42=>
 cL 16 [x41,x42] w fun x43 w=>
 cL 15 [x43,x35] w fun x45 w=>
 rD (Op.unary .not x45) w fun x46=>
 BR x46
 (R (Value.bool false) w)
 (rN 25 3 x35 w fun x49=>
 rB .eql 3 T0 U0 x49 (iV 0) w fun x50=>
 BR x50
 ((fun w=>rL 33 x6 w fun x51=>
 rL 28 x3 w fun x53=>
 rL 33 x6 w fun x54=>
 (fun w_=>cL 17 [x51] w_ fun x52 w=>
 Ext w_ w ∧
 cL 18 [x53,x54] w fun x55 w=>
 rB .neq 4 T0 T0 x52 x55 w fun x56=>
 R x56 w) w) (World.drew1 w))
 (rX 25 x20 (u8 7) w fun x60=>
 rL 3 x60 w fun x61=>
 rN 25 3 x35 w fun x63=>
 rB .rem 3 T0 T0 x61 x63 w fun x64=>
 rX 25 x35 x64 w fun x65=>
 rL 3 x65 w fun x66=>
 rL 28 x3 w fun x68=>
 rL 33 x6 w fun x69=>
 cL 19 [x68,x69,x66] w fun x71 w=>
 rE x71 0 w fun x72=>
 rE x71 1 w fun x73=>
 oP (Instr.alloc 33 true (.tuple #[])) w fun x10 w=>
 oS 33 x10 x72 w fun w=>
 rD (Op.unary .not x73) w fun x75=>
 BR x75
 (R (Value.bool false) w)
 (rL 28 x3 w fun x77=>
 rL 33 x6 w fun x78=>
 cL 20 [x77,x78,x66] w fun x80 w=>
 rD (Op.unary .not x80) w fun x81=>
 BR x81
 (R (Value.bool false) w)
 (rF 33 x10 2 w fun x84=>
 rL 31 x84 w fun x85=>
 rN 31 3 x85 w fun x86=>
 rF 33 x6 2 w fun x87=>
 rL 31 x87 w fun x88=>
 rN 31 3 x88 w fun x89=>
 rC x86 x89 w fun x90=>
 BR x90
 (R (Value.bool false) w)
 (LOOPI [12] [(iV 0)] w fun u20 w next20=>
 rF 33 x6 2 w fun x93=>
 rL 31 x93 w fun x94=>
 rN 31 3 x94 w fun x95=>
 rC (u20 12) x95 w fun x96=>
 BR x96
 ((fun w=>rB .neq 3 T0 T0 (u20 12) x66 w fun x101=>
 BR x101
 (rF 33 x10 2 w fun x103=>
 rL 31 x103 w fun x104=>
 rX 31 x104 (u20 12) w fun x106=>
 rL 25 x106 w fun x107=>
 rF 33 x6 2 w fun x108=>
 rL 31 x108 w fun x109=>
 rX 31 x109 (u20 12) w fun x111=>
 rL 25 x111 w fun x112=>
 cL 15 [x107,x112] w fun x113 w=>
 rD (Op.unary .not x113) w fun x114=>
 GBR x114
 (R (Value.bool false) w)
 (rL 33 x10 w fun x116=>
 rL 33 x6 w fun x119=>
 (fun w_=>cL 21 [x116,(u20 12)] w_ fun x118 w=>
 Ext w_ w ∧
 cL 21 [x119,(u20 12)] w fun x121 w=>
 rB .neq 3 T0 T0 x118 x121 w fun x122=>
 GBR x122
 (R (Value.bool false) w)
 (rL 33 x10 w fun x125=>
 rL 33 x6 w fun x128=>
 (fun w_=>cL 22 [x125,(u20 12)] w_ fun x127 w=>
 Ext w_ w ∧
 cL 22 [x128,(u20 12)] w fun x130 w=>
 rB .neq 3 T0 T0 x127 x130 w fun x131=>
 BR x131
 (R (Value.bool false) w)
 (rA (u20 12) (iV 1) w fun x98=>
 next20 [x98] w)) w)
 (BR undef
 (R (Value.bool false) w)
 (BR undef
 (R (Value.bool false) w)
 (rA (u20 12) (iV 1) w fun x98=>
 next20 [x98] w)))) w)
 (BR undef
 (R (Value.bool false) w)
 (BR undef
 (R (Value.bool false) w)
 (BR undef
 (R (Value.bool false) w)
 (rA (u20 12) (iV 1) w fun x98=>
 next20 [x98] w)))))
 (rA (u20 12) (iV 1) w fun x98=>
 next20 [x98] w)) (World.drew1 w))
 (rL 33 x10 w fun x134=>
 oS 33 x6 x134 w fun w=>
 rA (u8 7) (iV 1) w fun x32=>
 next8 [x32] w))))))))
 (R (Value.bool true) w))
 (R (Value.bool true) w))
def cfg3:Cfg:=⟨extL,[],[(8,43556142965880123323311949751266322685828,[7]),(20,21778071482935109901498833354533569040388,[12])],[(14,[0,2,3,1,4,5,6],2),(22,[0,1,2,3,4,5,6,7,8,9,10,11,12,13,14,15,16,17,18,20,21,19,22,23,24,25,26,27,29,30,28,31,32,33,34],268959744)],[],[],[]⟩
theorem F3_call {a0:Value} {w:World} {R:VW} (h:F3 a0 w R):cL 3 [a0] w R:=co (g:=cfg3) Tryz.func3 (by kernel_rfl) (by kernel_rfl) (by kernel_rfl) h
theorem znu {a b:Prop} [Decidable a] [Decidable b] (h:b↔¬a):(decide a != decide b)=true:=by
 by_cases ha:a
 · have hb:¬b:=fun hb=>h.1 hb ha
   simp [ha,hb]
 have hb:b:=h.2 ha
 simp [ha,hb]
set_option maxRecDepth 20000 in
theorem zj8 {w W:World} {v0:Value} {bs:List UInt8} (h0:Is W v0 bs) (e0:Ext W w):CALL Tryz.prog 3 [v0] w fun r w'=>Ext w w'∧(r=.bool true):=by
  refine F3_call ?_
  unfold F3
  refine (zo8 h0 e0).mono ?_
  rintro _ w1 ⟨hx1,rfl⟩
  refine br (fun _=>⟨hx1,rfl⟩) (fun hb=>?_)
  have hlen:bs.length≤1048576:=by omega
  have hc:=(zhD bs).1
  have hw:=zlq bs
  have hd:=fun {w2:World} (hx:Ext w w2)=>zj7 h0 (e0.trans hx) hlen
  generalize zbZ bs=c at *
  have hpl:(zje bs).length=70:=zf7 bs 12 70 _
  have hpin:∀ x∈zje bs,0≤x∧x<12:=zg5 bs (by omega) 70 _
  have hdp:=fun {w2:World} (hx:Ext w w2)=>zjf h0 (e0.trans hx) hlen
  generalize zje bs=ps at *
  refine (hd hx1).mono ?_
  rintro v16 w2 ⟨hx2,o16⟩
  refine zeo zn3 rfl zcD rfl o16.is (Ext.refl _) fun w3 hx3 hA3 hV3=>?_
  have hx13:=hx1.trans (hx2.trans hx3)
  refine (hd hx13).mono ?_
  rintro v18 w4 ⟨hx4,o18⟩
  refine zeo zn3 rfl zcD rfl o18.is (Ext.refl _) fun w5 hx5 hA4 hV4=>?_
  have hx35:=hx4.trans hx5
  refine (hdp (hx13.trans hx35)).mono ?_
  rintro v20 w6 ⟨hx6,o20⟩
  refine zab zcD hA3 (hx35.trans hx6) fun v21 h21=>?_
  refine (zhf h21 (hx35.trans hx6) hw).mono ?_
  rintro v22 w7 ⟨hx7,o22⟩
  have hse:zg3 c=zd6 c:=by unfold zg3;rw [if_pos hc]
  have hsr:=zj3 hc
  rw [hse] at o22
  generalize zd6 c=s0 at *
  refine zeu (α:=DState) zlZ fun w8 hx8 hv8=>?_
  refine zaT zcj hv8 (o22.toI.ext hx8) (.inr (Nat.le_refl _)) fun w9 hc9 hv9=>?_
  have hx79:Ext w7 w9:=hx8.chgI hc9 (Nat.le_refl _)
  have hx17:=hx13.trans (hx35.trans (hx6.trans hx7))
  refine zaI 70 (fun k us w'=>us=[.int .i64 (k:Int)]∧k≤70∧Ext w7 w'∧∃ s lo hi,VarI lo hi w' w7.heap.size s∧zaB c s) 0 (Nat.zero_le _) ⟨rfl,Nat.zero_le _,hx79,s0,_,_,hv9,hsr⟩ ?_
  rintro k m u w10 hkm ⟨hu,hk70,hx10,s,lo,hi,hv,hs⟩
  have hg6:=hv.lt
  simp only [List.map_cons,List.map_nil,List.cons.injEq,and_true] at hu
  rw [hu]
  refine zad u25 o20.is ?_
  refine zai ?_
  refine br (fun hlt=>?_) (fun _=>⟨hx17.trans hx10,rfl⟩)
  refine zai ?_
  refine br (fun h40=>?_) (fun _=>⟨hx17.trans hx10,rfl⟩)
  have hk:k<ps.length:=by omega
  have hx510:Ext w5 w10:=hx6.trans (hx7.trans hx10)
  have hx310:=hx35.trans hx510
  have hri:zd5 c s=zc4 c s:=by unfold zd5;rw [if_pos ⟨hc,hs⟩]
  refine zab zcD hA4 hx510 fun v33 h33=>?_
  refine zb2 zcj hv (Ext.refl _) fun v34 h34=>?_
  refine (zhd h33 hx510 h34.is (Ext.refl _)).mono ?_
  rintro v35 w11 ⟨hx11,o35⟩
  rw [hri] at o35
  refine zab zcD hA3 (hx310.trans hx11) fun v36 h36=>?_
  refine zb2 zcj hv hx11 fun v37 h37=>?_
  refine (zbX h36 (hx310.trans hx11) h37.is hx11).mono ?_
  rintro _ w12 ⟨hx12,rfl⟩
  refine zas ?_
  refine br (fun h=>absurd ⟨hc,hs⟩ h) (fun _=>?_)
  have hx1012:=hx11.trans hx12
  refine zab zcD hA3 (hx310.trans hx1012) fun v41 h41=>?_
  refine zb2 zcj hv hx1012 fun v42 h42=>?_
  refine (zhe h41 (hx310.trans hx1012) h42.is hx1012).mono ?_
  rintro v43 w13 ⟨hx13',o43⟩
  rw [hri] at o43
  refine (zf8 o43.is (Ext.refl _) o35.is (hx12.trans hx13')).mono ?_
  rintro _ w14 ⟨hx14,rfl⟩
  refine zas ?_
  refine br (fun h=>absurd rfl h) (fun _=>?_)
  have hx1114:=hx12.trans (hx13'.trans hx14)
  have hx1014:=hx11.trans hx1114
  refine zad u25 o35.is ?_
  refine zag ?_
  refine br (fun hz=>?_) (fun hnz=>?_)
  · have hnil:zc4 c s=[]:=List.eq_nil_of_length_eq_zero (by omega)
    have hx15:=zaj w14
    have hx1015:=hx1014.trans hx15
    refine zb2 zcj hv hx1015 fun v51 h51=>?_
    refine zab zcD hA3 (hx310.trans hx1015) fun v53 h53=>?_
    refine zb2 zcj hv hx1015 fun v54 h54=>?_
    refine (zfj h51.is hx1015).mono ?_
    rintro _ w16 ⟨hx16,rfl⟩
    refine ⟨hx16,?_⟩
    refine (zgd h53 (hx310.trans (hx1015.trans hx16)) h54.is (hx1015.trans hx16)).mono ?_
    rintro _ w17 ⟨hx17',rfl⟩
    refine zlY u4 ?_
    refine ⟨hx17.trans (hx10.trans (hx1015.trans (hx16.trans hx17'))),?_⟩
    have hiff:zdu c s↔¬zhz s:=⟨fun h=>h.2.1,fun h=>⟨⟨hc,hs⟩,h,hnil⟩⟩
    have:=znu hiff
    simpa using this
  have hs14:=hx1014.size
  refine zaf u25 ty3 o20.is hk fun b60 o60 hA60=>?_
  refine zac ty3 hA60 (hx7.trans (hx10.trans hx1014)) fun hI61=>?_
  refine zad u25 o35.is ?_
  refine zix (by omega) ?_
  obtain ⟨hp0,hp12⟩:=hpin _ (List.getElem_mem hk)
  obtain ⟨j,hj,hjl⟩:∃ j:Nat,(ps[k]).tmod ((zc4 c s).length:Int)=j∧j<(zc4 c s).length:=by
    have e1:(ps[k]).tmod ((zc4 c s).length:Int)=ps[k]%((zc4 c s).length:Int):=Int.tmod_eq_emod_of_nonneg hp0
    have e2:=Int.emod_nonneg ps[k] (b:=((zc4 c s).length:Int)) (by omega)
    have e3:=Int.emod_lt_of_pos ps[k] (b:=((zc4 c s).length:Int)) (by omega)
    exact ⟨(ps[k]%((zc4 c s).length:Int)).toNat,by omega,by omega⟩
  rw [hj]
  refine zaf u25 ty3 o35.is hjl fun b65 o65 hA65=>?_
  refine zac ty3 hA65 hx1114 fun hI66=>?_
  have hmem:=List.getElem_mem hjl
  generalize (zc4 c s)[j]=t at *
  have hgo:GoR c s t:=zg8 hmem
  obtain ⟨ht0,htl⟩:=zeL hmem
  have hstk:=zg7 (c:=c) (s:=s) ht0
  have hsr':=zlo hc hs hgo
  refine zab zcD hA3 (hx310.trans hx1014) fun v68 h68=>?_
  refine zb2 zcj hv hx1014 fun v69 h69=>?_
  refine (zio h68 (hx310.trans hx1014) h69.is hx1014 (zmz hc hs)).mono ?_
  rintro _ w18 ⟨hx18,v72,rfl,o72⟩
  have hso:zhE c s t=zdw c s t:=by unfold zhE;rw [if_pos ⟨⟨hc,hs⟩,hgo⟩]
  rw [hso] at o72
  refine zea rfl ?_
  refine zea rfl ?_
  refine zeu (α:=DState) zlZ fun w19 hx19 hv19=>?_
  refine zaT zcj hv19 (o72.toI.ext hx19) (.inr (Nat.le_refl _)) fun w20 hc20 hv20=>?_
  have hx1820:Ext w18 w20:=hx19.chgI hc20 (Nat.le_refl _)
  refine zas ?_
  refine br (fun h=>absurd ⟨⟨hc,hs⟩,hgo⟩ h) (fun _=>?_)
  have hx1020:=hx1014.trans (hx18.trans hx1820)
  refine zab zcD hA3 (hx310.trans hx1020) fun v77 h77=>?_
  refine zb2 zcj hv hx1020 fun v78 h78=>?_
  refine (zi7 h77 (hx310.trans hx1020) h78.is hx1020).mono ?_
  rintro _ w21 ⟨hx21,rfl⟩
  refine zas ?_
  refine br (fun h=>absurd ⟨⟨hc,hs⟩,hgo⟩ h) (fun _=>?_)
  have hx1021:=hx1020.trans hx21
  refine zaa zaZ ?_
  refine zab zee (zaq hv20.at) hx21 fun v85 h85=>?_
  refine zad u31 h85 ?_
  refine zaa zaZ ?_
  refine zab zee (zaq hv.at) hx1021 fun v88 h88=>?_
  refine zad u31 h88 ?_
  refine zai ?_
  refine br (fun h=>absurd hstk.1 (by omega)) (fun _=>?_)
  refine zaI s.stacks.length (fun k us w'=>us=[.int .i64 (k:Int)]∧k≤s.stacks.length∧Ext w21 w') 0 (Nat.zero_le _) ⟨rfl,Nat.zero_le _,Ext.refl _⟩ ?_
  rintro u2 m2 us2 w23 hm2 ⟨hu2,hul2,hx23⟩
  simp only [List.map_cons,List.map_nil,List.cons.injEq,and_true] at hu2
  rw [hu2]
  have hx2023:=hx21.trans hx23
  have hx1023:=hx1020.trans hx2023
  refine zaa zaZ ?_
  refine zab zee (zaq hv.at) hx1023 fun v94 h94=>?_
  refine zad u31 h94 ?_
  refine zai ?_
  have hs6:s.stacks.length≤6:=hs.2.2.1.2
  refine br (fun hlt2=>?_) (fun _=>?_)
  · have hul:u2<s.stacks.length:=by omega
    have hul':u2<(zdw c s t).stacks.length:=by omega
    have hx24:=zaj w23
    have hx2024:=hx2023.trans hx24
    have hx1024:=hx1020.trans hx2024
    refine zaQ ?_
    refine br (fun hne=>?_) (fun _=>?_)
    · refine zaa zaZ ?_
      refine zab zee (zaq hv20.at) hx2024 fun v104 h104=>?_
      refine zaf u31 zba h104 hul' fun b106 o106 hA106=>?_
      refine zab zba hA106 hx2024 fun v107 h107=>?_
      refine zaa zaZ ?_
      refine zab zee (zaq hv.at) hx1024 fun v109 h109=>?_
      refine zaf u31 zba h109 hul fun b111 o111 hA111=>?_
      refine zab zba hA111 hx1024 fun v112 h112=>?_
      have heq:(zdw c s t).stacks[u2]=s.stacks[u2]:=by
        have:=hstk.2 u2 hne hul
        rw [List.getElem?_eq_getElem hul,List.getElem?_eq_getElem hul'] at this
        exact Option.some.inj this
      refine (zf8 h107 hx2024 h112 hx1024).mono ?_
      rintro _ w25 ⟨hx25,rfl⟩
      refine zas ?_
      refine gbr (fun h=>absurd heq h) (fun _=>?_)
      refine zb2 zcj hv20 (hx2024.trans hx25) fun v116 h116=>?_
      refine zb2 zcj hv (hx1024.trans hx25) fun v119 h119=>?_
      refine (zfm h116.is (hx2024.trans hx25)).mono ?_
      rintro _ w26 ⟨hx26,rfl⟩
      refine ⟨hx26,?_⟩
      refine (zfm h119.is (hx1024.trans (hx25.trans hx26))).mono ?_
      rintro _ w27 ⟨hx27,rfl⟩
      rw [zmK hgo (Int.natCast_nonneg u2) hne]
      refine zaQ ?_
      refine gbr (fun h=>absurd rfl h) (fun _=>?_)
      have hx2527:=hx25.trans (hx26.trans hx27)
      refine zb2 zcj hv20 (hx2024.trans hx2527) fun v125 h125=>?_
      refine zb2 zcj hv (hx1024.trans hx2527) fun v128 h128=>?_
      refine (zez h125.is (hx2024.trans hx2527)).mono ?_
      rintro _ w28 ⟨hx28,rfl⟩
      refine ⟨hx28,?_⟩
      refine (zez h128.is (hx1024.trans (hx2527.trans hx28))).mono ?_
      rintro _ w29 ⟨hx29,rfl⟩
      rw [zor ht0 hul hne]
      refine zaQ ?_
      refine br (fun h=>absurd rfl h) (fun _=>?_)
      refine zak (by omega) ?_
      exact ⟨m2-1,by omega,u2+1,by omega,rfl,by omega,hx23.trans (hx24.trans (hx2527.trans (hx28.trans hx29)))⟩
    refine zak (by omega) ?_
    exact ⟨m2-1,by omega,u2+1,by omega,rfl,by omega,hx23.trans hx24⟩
  refine zb2 zcj hv20 hx2023 fun v134 h134=>?_
  have hs18:=hx18.size
  refine zaT zcj (hv.ext hx1023) (h134.ext hx2023) (.inl (by omega)) fun w30 hc30 hv30=>?_
  have hx30:Ext w7 w30:=(hx10.trans hx1023).chgI hc30 (Nat.le_refl _)
  refine zak (by omega) ?_
  exact ⟨m-1,by omega,k+1,by omega,rfl,by omega,hx30,_,_,_,hv30,hsr'⟩
theorem znv {P:Program} {t:TypeId} (ht:P.underlying t=some (.int .u8)) (n:Nat):ziA P t UInt8 n:=by
 intro H enc w spare held cs y h
 obtain ⟨m,rfl,_,hw⟩:=DataW.trod_int ht h
 have hm:0≤m∧m≤255:=by simpa [Lit.wf,IntKind.min,IntKind.max,IntKind.signed,IntKind.bits] using hw
 refine ⟨[],UInt8.ofNat m.toNat,rfl,?_⟩
 have:((UInt8.ofNat m.toNat).toNat:Int)=m:=by
   have:(UInt8.ofNat m.toNat).toNat=m.toNat:=by simp;omega
   omega
 rw [this]
theorem zos:∀ n,ziA Tryz.prog 22 (List UInt8) n:=zgx u22 (by kernel_rfl) (znv u5)
end Go.Proofs.YtbnjpfjjmhodnaaGreat
namespace Go.Proofs.YtbnjpfjjmhodnaaGreat
open Go
theorem za9 {a b:Bool} (h:a=true) (k:b=true):(a&&b)=true:=by rw [h,k];rfl
theorem zot:laidOutB Tryz.prog=true:=by kernel_rfl
theorem zou:mapsRowed Tryz.prog=true:=by kernel_rfl
theorem znw:(Rows.fnMachinesRow.plainKeys == Tryz.prog.plainKeys)=true:=by kernel_rfl
theorem znx:Tryz.prog.stopsHeard=true:=by kernel_rfl
theorem zo9:Tryz.prog.mayEnter=true:=by kernel_rfl
theorem zov:(Rows.fnMachinesRow.lifted == Tryz.prog.liftsFinal)=true:=by kernel_rfl
theorem zow:(Tryz.prog.make == some Rows.fnMachinesRow.make)=true:=by kernel_rfl
end Go.Proofs.YtbnjpfjjmhodnaaGreat
namespace Go.Proofs.YtbnjpfjjmhodnaaGreat.fnMachines
open Go.ChangeShapes Go.WideShapes Go.ChangeAt Go.RowKit Go.Sh
theorem own:ownKnob Tryz.prog.godebug=none:=by kernel_rfl
theorem zox:laidOutB Tryz.prog=true:=by kernel_rfl
set_option maxRecDepth 100000 in
theorem lifted (os:Os) (started:os.Started) (H:Type) (enc:TypeId×Value→H) :
    ReturnsInHanded {} Tryz.checked os 3 .any (Rows.fnMachinesSpec.pre6 enc Tryz.prog Tryz.f3 Rows.fnMachinesRow.domain false) (Rows.fnMachinesSpec.post enc Tryz.prog Tryz.f3 false true false false):=by
  refine returnsInHanded_of_change (C:=Tryz.checked) own started (by kernel_rfl) Tryz.func3
    (ChangeSpec.witness6 (enc:=enc) (C:=Tryz.checked) false ⟨#[],#[.slice none 0 0],[]⟩ 8 (by kernel_rfl) (by kernel_rfl) (by kernel_rfl) (by kernel_rfl)) ?_
  intro W base args ds gs before hval0 hW hcnd _
  have hval:∀ (j:Nat) t v,Tryz.f3.params[j]?=some t→args[j]?=some v→Value.okWide Tryz.prog W .any base t v:=hval0
  have hW':=hW
  obtain ⟨p,q,hA0,hV,rfl,hfz,hnd⟩:=hW
  have hA:DataW.TrodAll enc Tryz.prog W 0 (fun _=>true) true Tryz.f3.params.toList args.toList ds p:=hA0
  rw [Tryz.params3] at hA hval
  obtain ⟨v0,vs0,d0,ds0,p0,q0,hargs,rfl,rfl,h0,r0⟩:=trodAll_cons hA
  obtain ⟨rfl,rfl,rfl⟩:=trodAll_nil r0
  obtain rfl:args=#[v0]:=by cases args;simp_all
  obtain ⟨rfl,rfl⟩:=trodVars_none hV
  have lt0:∀ x∈p0,x.block<W.heap.size:=by obtain ⟨m,hm⟩:=h0;exact DataW.trod_lt m _ _ _ hm
  obtain ⟨x0,i0⟩:=zju (α:=UInt8) u22 zos (hval 0 22 v0 rfl rfl) h0
  clear hA0 hval0
  obtain ⟨hcall⟩:=zj8 i0 (Ext.refl W)
  refine hcall.mono fun e W' ⟨v,he,bel,hv⟩=>?_
  subst he hv
  exact ⟨_,rfl,_,_,_,[],_,[],hW',trodAll_mk1 (shut_bool Tryz.underlying4 _),(trodAll_cons_mk (Below.trod zox (by kernel_rfl) (of_decide_eq_true (by kernel_rfl)) h0 bel lt0) trodAll_mk0),rfl,bel.frame _,fun h=>by cases h⟩
theorem zmL:(Rows.fnMachinesRow.inPlace == Tryz.prog.inPlace 3)=true:=by kernel_rfl
theorem zjh:(Rows.fnMachinesRow.unfollowed == Tryz.prog.unfollowed 3)=true:=by kernel_rfl
theorem zlr:(Rows.fnMachinesRow.recurses == Tryz.prog.recurses 3)=true:=by kernel_rfl
theorem zoy:(Rows.fnMachinesRow.named == Tryz.prog.varsNamed 3)=true:=by kernel_rfl
theorem closed:joinedFacts Tryz.prog 3 Tryz.f3 Rows.fnMachinesSpec Rows.fnMachinesRow=true:=by
 unfold joinedFacts
 exact (za9 (za9 (za9 (za9 (za9 (za9 (za9 (za9 (za9 (za9 (za9 (za9 (za9 (za9 (za9 (za9 (za9 (za9 (za9 (za9 (za9 (za9 (za9 (za9 (za9 (za9 (za9 (za9 (za9 (za9 (za9 (by kernel_rfl) zot) zou) (by kernel_rfl)) (by kernel_rfl)) (by kernel_rfl)) (by kernel_rfl)) (by kernel_rfl)) (by kernel_rfl)) zmL) zjh) zlr) zoy) (by kernel_rfl)) (by kernel_rfl)) (by kernel_rfl)) (by kernel_rfl)) (by kernel_rfl)) (by kernel_rfl)) (by kernel_rfl)) (by kernel_rfl)) (by kernel_rfl)) znw) (by kernel_rfl)) znx) zo9) zov) zow) (by kernel_rfl)) (by kernel_rfl)) (by kernel_rfl)) (by kernel_rfl))
theorem over:Rows.fnMachinesRow.holds Tryz.pinned (OpenSpec.ofChange Rows.fnMachinesSpec):=
 OpenClaim.holds_of_wide 3 Tryz.f3 rfl rfl rfl rfl rfl rfl rfl ⟨rfl,rfl,rfl,rfl,rfl⟩ rfl rfl rfl rfl rfl (by kernel_rfl) Tryz.func3 closed
   (of_decide_eq_true (by kernel_rfl)) (by unfold Func.isWrapper;first | (rw [if_pos (by decide +kernel)];kernel_rfl) | (rw [if_neg (by decide +kernel)];exact ⟨rfl,rfl⟩))
   (fun os started H enc _=>lifted os started H enc)
theorem proved:Rows.FnMachinesSaid:=over
end Go.Proofs.YtbnjpfjjmhodnaaGreat.fnMachines
