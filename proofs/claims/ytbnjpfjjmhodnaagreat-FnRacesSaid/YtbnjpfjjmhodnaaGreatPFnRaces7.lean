/-
  Parts of the proof, put together by program.
-/
import Derived.Test.YtbnjpfjjmhodnaaGreatPFnRaces6
set_option linter.unusedVariables false
set_option linter.unusedSimpArgs false
set_option linter.unusedSectionVars false
namespace Go.Proofs.YtbnjpfjjmhodnaaGreat
open Go Go.Sh Go.Proofs
open Rep (rep)
def F96 (a0:Value) (w:World) (R:VW):Prop:=
 oP (Instr.box 112 a0) w fun x1 w=>
 oP (Instr.alloc 28 true (.tuple #[])) w fun x2 w=>
 rL 112 x1 w fun x7=>
 cL 158 [x7] w fun x8 w=>
 rB .neq 3 T0 U0 x8 (iV 0) w fun x9=>
 BR x9
 (rD (Instr.build 28 #[]) w fun x10=>
 oS 28 x2 x10 w fun w=>
 rD (za9 28 x2) w fun r2=>R (Value.tuple #[r2,(Value.bool false)]) w)
 ((fun w0=>PAR w0 [[(0,11)],[(1,12)],[(2,13),(1,12)],[(3,14),(0,11),(2,13)],[(4,15)],[(5,16)],[(6,17),(5,16)],[(7,18),(4,15),(6,17),(3,14)],[(8,19),(3,14),(7,18)],[(9,4)]] (fun Q=>
 (∀ (u3:Env) (T:Nat→Nat×Nat) (w:World),Ext w0 w→zbx [] w0.heap.size w.heap.size T→(True)→(fun w1=>oP (Instr.buildSlice 24 0 #[]) w fun x11 w=>
 Ext w1 w∧Q 0 (upd u3 11 x11) (zcQ T 0 (w1.heap.size,w.heap.size)) w) w) ∧
 (∀ (u3:Env) (T:Nat→Nat×Nat) (w:World),Ext w0 w→zbx [] w0.heap.size w.heap.size T→(True)→(fun w1=>rF 112 x1 0 w fun x12=>
 Ext w1 w∧Q 1 (upd u3 12 x12) (zcQ T 1 (w1.heap.size,w.heap.size)) w) w) ∧
 (∀ (u3:Env) (T:Nat→Nat×Nat) (w:World),Ext w0 w→zbx [1] w0.heap.size w.heap.size T→(Q 1 u3 T w∧True)→(fun w1=>rL 24 (u3 12) w fun x13=>
 Ext w1 w∧Q 2 (upd u3 13 x13) (zcQ T 2 (w1.heap.size,w.heap.size)) w) w) ∧
 (∀ (u3:Env) (T:Nat→Nat×Nat) (w:World),Ext w0 w→zbx [0,2] w0.heap.size w.heap.size T→(Q 0 u3 T w∧Q 2 u3 T w∧True)→(fun w1=>oP (Builtin.append_ #[24,24] 24 [(u3 11),(u3 13)].toArray) w fun x14 w=>
 Ext w1 w∧Q 3 (upd u3 14 x14) (zcQ T 3 (w1.heap.size,w.heap.size)) w) w) ∧
 (∀ (u3:Env) (T:Nat→Nat×Nat) (w:World),Ext w0 w→zbx [] w0.heap.size w.heap.size T→(True)→(fun w1=>oP (Instr.buildSlice 24 0 #[]) w fun x15 w=>
 Ext w1 w∧Q 4 (upd u3 15 x15) (zcQ T 4 (w1.heap.size,w.heap.size)) w) w) ∧
 (∀ (u3:Env) (T:Nat→Nat×Nat) (w:World),Ext w0 w→zbx [] w0.heap.size w.heap.size T→(True)→(fun w1=>rF 112 x1 1 w fun x16=>
 Ext w1 w∧Q 5 (upd u3 16 x16) (zcQ T 5 (w1.heap.size,w.heap.size)) w) w) ∧
 (∀ (u3:Env) (T:Nat→Nat×Nat) (w:World),Ext w0 w→zbx [5] w0.heap.size w.heap.size T→(Q 5 u3 T w∧True)→(fun w1=>rL 24 (u3 16) w fun x17=>
 Ext w1 w∧Q 6 (upd u3 17 x17) (zcQ T 6 (w1.heap.size,w.heap.size)) w) w) ∧
 (∀ (u3:Env) (T:Nat→Nat×Nat) (w:World),Ext w0 w→zbx [4,6,3] w0.heap.size w.heap.size T→(Q 4 u3 T w∧Q 6 u3 T w∧Q 3 u3 T w∧True)→(fun w1=>oP (Builtin.append_ #[24,24] 24 [(u3 15),(u3 17)].toArray) w fun x18 w=>
 Ext w1 w∧Q 7 (upd u3 18 x18) (zcQ T 7 (w1.heap.size,w.heap.size)) w) w) ∧
 (∀ (u3:Env) (T:Nat→Nat×Nat) (w:World),Ext w0 w→zbx [3,7] w0.heap.size w.heap.size T→(Q 3 u3 T w∧Q 7 u3 T w∧True)→(fun w1=>rD (Instr.build 28 #[(0,(u3 14)),(1,(u3 18))]) w fun x19=>
 Ext w1 w∧Q 8 (upd u3 19 x19) (zcQ T 8 (w1.heap.size,w.heap.size)) w) w) ∧
 (∀ (u3:Env) (T:Nat→Nat×Nat) (w:World),Ext w0 w→zbx [] w0.heap.size w.heap.size T→(True)→(fun w1=>oP (Instr.alloc 28 true (.tuple #[])) w fun x4 w=>
 Ext w1 w∧Q 9 (upd u3 4 x4) (zcQ T 9 (w1.heap.size,w.heap.size)) w) w) ∧
 True)
 (fun Q=>∀ (u3:Env) (T:Nat→Nat×Nat) (w:World),Ext w0 w→zbx [0,1,2,3,4,5,6,7,8,9] w0.heap.size w.heap.size T→(Q 0 u3 T w∧Q 1 u3 T w∧Q 2 u3 T w∧Q 3 u3 T w∧Q 4 u3 T w∧Q 5 u3 T w∧Q 6 u3 T w∧Q 7 u3 T w∧Q 8 u3 T w∧Q 9 u3 T w∧True) →
 oS 28 (u3 4) (u3 19) w fun w=>
 rL 112 x1 w fun x20=>
 rD (Instr.build 169 #[(0,x20)]) w fun x21=>
 oP (Instr.box 169 x21) w fun x22 w=>
 LOOPI [6] [(iV 0)] w fun u6 w next6=>
 rF 112 x1 2 w fun x24=>
 rL 110 x24 w fun x25=>
 rN 110 3 x25 w fun x26=>
 rC (u6 6) x26 w fun x27=>
 BR x27
 ((fun w=>rF 28 (u3 4) 2 w fun x30=>
 rL 24 x30 w fun x31=>
 rF 112 x1 2 w fun x32=>
 rL 110 x32 w fun x33=>
 rX 110 x33 (u6 6) w fun x35=>
 rF 164 x35 0 w fun x36=>
 rL 9 x36 w fun x37=>
 (fun w_=>oP (Instr.buildSlice 24 1 #[(0,x37)]) w_ fun x38 w=>
 Ext w_ w ∧
 (oP (Builtin.append_ #[24,24] 24 [x31,x38].toArray) w fun x39 w=>
 rF 28 (u3 4) 2 w fun x40=>
 oS 24 x40 x39 w fun w=>
 (fun w=>rF 28 (u3 4) 3 w fun x41=>
 rL 25 x41 w fun x42=>
 NIL x22 <|
 rF 169 x22 1 w fun x45=>
 rL 26 x45 w fun x46=>
 rN 26 3 x46 w fun x47=>
 (fun w_=>oP (Instr.buildSlice 25 1 #[(0,x47)]) w_ fun x48 w=>
 Ext w_ w ∧
 (oP (Builtin.append_ #[25,25] 25 [x42,x48].toArray) w fun x49 w=>
 rF 28 (u3 4) 3 w fun x50=>
 oS 25 x50 x49 w fun w=>
 rF 112 x1 2 w fun x52=>
 rL 110 x52 w fun x53=>
 rX 110 x53 (u6 6) w fun x55=>
 rF 164 x55 1 w fun x56=>
 rL 162 x56 w fun x57=>
 cL 159 [x22,x57] w fun x58 w=>
 rD (Instr.build 77 #[(0,(iV 9))]) w fun x60=>
 cL 160 [x22,x60] w fun x61 w=>
 rA (u6 6) (iV 1) w fun x29=>
 next6 [x29] w)) w) (World.drew1 w))) w) (World.drew1 w))
 (NIL x22 <|
 rF 169 x22 1 w fun x64=>
 rL 26 x64 w fun x65=>
 rF 28 (u3 4) 4 w fun x66=>
 oS 26 x66 x65 w fun w=>
 rL 28 (u3 4) w fun x67=>
 oS 28 x2 x67 w fun w=>
 rD (za9 28 x2) w fun r2=>R (Value.tuple #[r2,(Value.bool true)]) w))) (World.drew1 w))
def cfg96:Cfg:=⟨extL,[],[(6,4611686018418999360,[6])],[(8,[0,1,2,3,4,5,6,7,8,9,10,11],256),(9,[0,1,2,3,4,5,6,7,8,9,10],128)],[(3,1046544,10)],[],[]⟩
theorem F96_call {a0:Value} {w:World} {R:VW} (h:F96 a0 w R):cL 96 [a0] w R:=co (g:=cfg96) Tryz.func96 (by kernel_rfl) (by kernel_rfl) (by kernel_rfl) h
open Rep (rep)
theorem zlm {w W:World} {v:Value} {p:DProg} (h:Is W v p) (e:Ext W w) (hp:ProgR p) :
   CALL Tryz.prog 96 [v] w fun r w'=>Ext w w'∧∃ a,r=.tuple #[a,.bool true]∧OwnI w.heap.size w'.heap.size w' a (zcv p):=by
 have hcl:=(zj0 hp).2
 obtain ⟨f1,f2,f3,f4⟩:=hp.facts
 refine F96_call ?_
 unfold F96
 refine zaV h e fun w1 hx1 hA=>?_
 have hs1:=hx1.size
 refine zcV ztq fun w2 hx2 hB2=>?_
 have hs2:=hx2.size
 have hg2:=hB2.lt
 refine zab zfx hA hx2 fun v7 h7=>?_
 refine (zme h7 hx2 hp).mono ?_
 rintro _ w3 ⟨hx3,rfl⟩
 have hs3:=hx3.size
 refine zaN ?_
 refine br (fun hc=>absurd rfl hc) (fun _=>?_)
 have hx13:=hx2.trans hx3
 have hx4:=zaj w3
 have hs4:=hx4.size
 generalize World.drew1 w3=w4 at *
 have hx14:=hx13.trans hx4
 have hg1:w.heap.size<w1.heap.size:=by
   obtain ⟨F,cs,hr,hr2⟩:=hA
   exact zhf hr2 (by rw [Rep.len hr];decide)
 refine PAR.mk (cdQ p w.heap.size w4) ?_ ?_ ?_
 · intro i u u' T T' wa wb hxa hxb hd hq
   match i,hd,hq with
   | 0,hd,⟨a,hq⟩=>exact ⟨a,(hd (0,11) (by decide)).1.trans hq⟩
   | 1,hd,hq=>exact (hd (1,12) (by decide)).1.trans hq
   | 2,hd,hq=>have:=(hd (2,13) (by decide)).1;show Is _ (u' 13) _;simp only [this];exact hq
   | 3,hd,hq=>
     obtain ⟨e1,e2⟩:=hd (3,14) (by decide)
     simp only at e1 e2
     show OwnI (T' 3).1 (T' 3).2 wb (u' 14) p.globals
     rw [e1,e2];exact OwnI.ext hq hxb
   | 4,hd,⟨a,hq⟩=>exact ⟨a,(hd (4,15) (by decide)).1.trans hq⟩
   | 5,hd,hq=>exact (hd (5,16) (by decide)).1.trans hq
   | 6,hd,hq=>have:=(hd (6,17) (by decide)).1;show Is _ (u' 17) _;simp only [this];exact hq
   | 7,hd,hq=>
     obtain ⟨e1,e2⟩:=hd (7,18) (by decide)
     simp only at e1 e2
     show OwnI (T' 7).1 (T' 7).2 wb (u' 18) p.locks
     rw [e1,e2];exact OwnI.ext hq hxb
   | 8,hd,hq=>
     have e1:=(hd (8,19) (by decide)).1
     have e2:=(hd (3,14) (by decide)).1
     have e3:=(hd (7,18) (by decide)).1
     simp only at e1 e2 e3
     show u' 19=.agg #[u' 14,u' 18,.slice none 0 0,.slice none 0 0,.slice none 0 0]
     rw [e1,e2,e3];exact hq
   | 9,hd,⟨g,q1,q2,q3,q4⟩=>
     obtain ⟨e1,e2⟩:=hd (9,4) (by decide)
     simp only at e1 e2
     exact ⟨g,e1.trans q1,by rw [e2];exact q2,by rw [e2];exact q3,q4.ext hxb⟩
   | n+10,_,_=>trivial
 · refine ⟨fun u T w' hx _ _=>?_,fun u T w' hx _ _=>?_,fun u T w' hx _ hp'=>?_,fun u T w' hx _ hp'=>?_,fun u T w' hx _ _=>?_,fun u T w' hx _ _=>?_,fun u T w' hx _ hp'=>?_,fun u T w' hx _ hp'=>?_,fun u T w' hx _ hp'=>?_,fun u T w' hx _ _=>?_,trivial⟩
   · exact zaP (α:=ByteArray) u24 ty9 fun a w5 hx5 _=>⟨hx5,a,rfl⟩
   · exact zaa zhj ⟨Ext.refl _,rfl⟩
   · have q0:u 12=_:=hp'.1
     rw [q0]
     exact zab zcj (zeB hA) (hx14.trans hx) fun v6 h6=>⟨Ext.refl _,h6.ext hx14⟩
   · obtain ⟨a,q0⟩:∃ a,u 11=.slice (some a) 0 0:=hp'.1
     have q1:Is _ (u 13) p.globals:=hp'.2.1
     rw [q0]
     exact zj2 (α:=ByteArray) u24 ty9 zc9 q1 hx (by rw [hp.g,zap];decide) (by rw [hp.g];decide) fun v5 w5 hx5 r5=>⟨hx5,r5.own⟩
   · exact zaP (α:=ByteArray) u24 ty9 fun a w5 hx5 _=>⟨hx5,a,rfl⟩
   · exact zaa ziI ⟨Ext.refl _,rfl⟩
   · have q0:u 16=_:=hp'.1
     rw [q0]
     exact zab zcj (zfR hA) (hx14.trans hx) fun v6 h6=>⟨Ext.refl _,h6.ext hx14⟩
   · obtain ⟨a,q0⟩:∃ a,u 15=.slice (some a) 0 0:=hp'.1
     have q1:Is _ (u 17) p.locks:=hp'.2.1
     rw [q0]
     exact zj2 (α:=ByteArray) u24 ty9 zc9 q1 hx (by rw [hp.l,zap];decide) (by rw [hp.l];decide) fun v5 w5 hx5 r5=>⟨hx5,r5.own⟩
   · have o1:OwnI _ _ _ (u 14) p.globals:=hp'.1
     have o2:OwnI _ _ _ (u 18) p.locks:=hp'.2.1
     obtain ⟨a,n,cap,q1⟩:=zmk o1
     obtain ⟨a',n',cap',q1'⟩:=zmk o2
     rw [q1,q1']
     refine zaS (cells:=#[.slice a n cap,.slice a' n' cap',.slice none 0 0,.slice none 0 0,.slice none 0 0]) (by kernel_rfl) ⟨Ext.refl _,?_⟩
     show _=Value.agg #[u 14,u 18,.slice none 0 0,.slice none 0 0,.slice none 0 0]
     rw [q1,q1'];rfl
   exact zcV ztq fun w5 hx5 hB=>⟨hx5,w'.heap.size,rfl,Nat.le_refl _,hB.lt,hB⟩
 rintro u T w5 hx5 hap ⟨-,-,-,o14,-,-,-,o18,q19,⟨gk,q4,hgk0,hgk1,hB5⟩,-⟩
 have o14:OwnI (T 3).1 (T 3).2 w5 (u 14) p.globals:=o14
 have o18:OwnI (T 7).1 (T 7).2 w5 (u 18) p.locks:=o18
 have q19:u 19=.agg #[u 14,u 18,.slice none 0 0,.slice none 0 0,.slice none 0 0]:=q19
 have t3:=hap.1 3 (by decide)
 have t7:=hap.1 7 (by decide)
 have t9:=hap.1 9 (by decide)
 have d37:=hap.2 3 (by decide) 7 (by decide) (by decide)
 have d39:=hap.2 3 (by decide) 9 (by decide) (by decide)
 have d79:=hap.2 7 (by decide) 9 (by decide) (by decide)
 have hs5:=hx5.size
 obtain ⟨l3,hl3⟩:∃ x,(T 3).1=x:=⟨_,rfl⟩
 obtain ⟨h3,hh3⟩:∃ x,(T 3).2=x:=⟨_,rfl⟩
 obtain ⟨l7,hl7⟩:∃ x,(T 7).1=x:=⟨_,rfl⟩
 obtain ⟨h7,hh7⟩:∃ x,(T 7).2=x:=⟨_,rfl⟩
 rw [hl3,hh3] at o14 t3 d37 d39
 rw [hl7,hh7] at o18 t7 d37 d79
 generalize u 14=v14 at *
 generalize u 18=v18 at *
 rw [q19,q4]
 have one14:=zrb rfl o14
 have one18:=zrb rfl o18
 refine zdK (α:=Raw5) (x:=(⟨v14⟩,⟨v18⟩,⟨.slice none 0 0⟩,⟨.slice none 0 0⟩,⟨.slice none 0 0⟩)) (lo:=0) (hi:=0) zbm rfl hB5 rfl (zms one14 one18 rfl rfl rfl) fun w6 hc6 hB6=>?_
 have hs6:=hc6.size
 have hx16:Ext w1 w6:=Ext.chgI (hx14.trans hx5) hc6 (by omega)
 refine zab zfx hA hx16 fun v20 h20=>?_
 obtain ⟨c0,c1,c2,rfl,one0,one1,one2⟩:=zra h20
 refine zaS (cells:=#[c0,c1,c2,.slice none 0 0]) (by kernel_rfl) ?_
 refine zkY fun w7 hx7 hB7=>?_
 have hs7:=hx7.size
 have hg7:=hB7.lt
 have hE7:EmF w1 w6.heap.size p [] [] w7:=by
   refine ⟨c0,c1,c2,.slice none 0 0,h20,⟨[c0,c1,c2,.slice none 0 0],?_,hB7.range,List.nodup_nil,Wr.nil _,by simp,_,_,hB7⟩,hx16.trans hx7,by omega,by simp⟩
   have r:∀ {v:Value},v.oneCell'=true→rep [] w7 [v] (⟨v⟩:Raw):=fun h=>⟨rfl,rfl,h⟩
   exact zaR (F:=[]) (r one0) (zaR (F:=[]) (r one1) (zaR (F:=[]) (r one2) (show rep [] w7 [Value.slice none 0 0] (⟨.slice none 0 0,[]⟩:RIns) from ⟨rfl,.inl ⟨none,rfl,rfl,rfl⟩⟩)))
 have hord:gk<w7.heap.size∧w6.heap.size<w7.heap.size∧gk≠w6.heap.size∧w1.heap.size<w7.heap.size∧w1.heap.size≠gk∧w1.heap.size≠w6.heap.size∧h3≤w7.heap.size∧h7≤w7.heap.size∧(gk<l3∨h3≤gk)∧(gk<l7∨h7≤gk) ∧
     (w6.heap.size<l3∨h3≤w6.heap.size)∧(w6.heap.size<l7∨h7≤w6.heap.size)∧w1.heap.size≤gk∧w1.heap.size≤w6.heap.size:=by omega
 have hS7:CdS w1 p gk w6.heap.size w7.heap.size w1.heap.size l3 h3 l7 h7 v14 v18 (.slice none 0 0) (.slice none 0 0) [] [] [] [] [] [] w7:=
   ⟨hB6.ext hx7,(o14.chg hc6 (by omega)).ext hx7,(o18.chg hc6 (by omega)).ext hx7,.inl ⟨none,rfl,rfl,rfl⟩,.inl ⟨none,rfl,rfl,rfl⟩,List.nodup_nil,List.nodup_nil,hE7,((((hB2.ext hx3).ext hx4).ext hx5).chgI hc6 (by omega)).ext hx7,by simp,by simp,by simp,by simp,by simp,by simp⟩
 generalize hge:w6.heap.size=ge at *
 generalize hbs:w7.heap.size=bs at *
 obtain ⟨G,hG⟩:∃ G,G=p.globals:=⟨_,rfl⟩
 obtain ⟨Lk,hLk⟩:∃ G,G=p.locks:=⟨_,rfl⟩
 obtain ⟨Pn,hPn⟩:∃ G,G=p.procs.map DProc.name:=⟨_,rfl⟩
 have hcd:zcv p=⟨G,Lk,Pn,zl9 G Lk Pn p.procs 0,emP G Lk Pn p.procs 0⟩:=by rw [hG,hLk,hPn];rfl
 refine zas p.procs.length (fun k us w'=>us=[.int .i64 (k:Int)]∧∃ vp ve E L Fp Fe Fi,k≤p.procs.length∧E.length=k∧CdS w1 p gk ge bs w1.heap.size l3 h3 l7 h7 v14 v18 vp ve ((p.procs.take k).map DProc.name) E L Fp Fe Fi w'∧bs≤w'.heap.size ∧
     zl9 G Lk Pn p.procs 0=E++zl9 G Lk Pn (p.procs.drop k) L.length∧emP G Lk Pn p.procs 0=L++emP G Lk Pn (p.procs.drop k) L.length) 0 (Nat.zero_le _)
     ⟨rfl,_,_,[],[],[],[],[],Nat.zero_le _,rfl,by simpa using hS7,by omega,by simp,by simp⟩ ?_
 rintro k m uu w8 hkm ⟨hu,vp,ve,E,L,Fp,Fe,Fi,hkl,hEl,hS8,hb8,hent,hem⟩
 simp only [List.map_cons,List.map_nil,List.cons.injEq,and_true] at hu
 rw [hu]
 have hx18:=hS8.em.old
 refine zaa zcK ?_
 refine zab zgh (zbB hA) hx18 fun v25 h25=>?_
 refine zag znZ h25 ?_
 refine zah ?_
 have hLl:L.length≤436:=by
   have h1:=congrArg List.length hem
   have h2:(zcv p).ins.length=(emP G Lk Pn p.procs 0).length:=by rw [hcd]
   rw [List.length_append] at h1
   omega
 refine br (fun hlt=>?_) (fun hge'=>?_)
 · have hk:k<p.procs.length:=by omega
   have hbody:=hp.b _ (List.getElem_mem hk)
   rw [zrc hk] at hent
   rw [zss hk] at hem
   have hx9:=zaj w8
   have hS9:=hS8.ext hx9
   have hs9:=hx9.size
   generalize World.drew1 w8=w9 at *
   have hx19:=hx18.trans hx9
   refine zaa zbb ?_
   refine zaA zcj hS9.bk rfl ?_
   refine zaa zcK ?_
   refine zab zgh (zbB hA) hx19 fun v33 h33=>?_
   refine zad znZ zlT h33 hk fun b35 o35 hA35=>?_
   refine zaa zkD ?_
   refine zav ty9 (zfQ hA35) hx19 fun hS37=>?_
   have hnl:((p.procs.take k).map DProc.name).length=k:=by rw [List.length_map,List.length_take];omega
   refine ze8 (β:=ByteArray) (G:=Fp) u24 ty9 z9 zc9 (by decide) hS9.n hS9.nn (zoc hS37) (by simp) (by rw [zap,hnl];omega) (by rw [hnl];omega) (fun w10 v39 w11 Fp' hx10 hc11 hR11 hN11 hs11=>?_) fun s' w' hx' h'=>⟨hx',h'⟩
   have hs10:=hx10.size
   have hs11':=hc11.size
   have hgkF:gk∉Fp:=fun hm=>by have:=hS9.bp _ hm;omega
   have hB11:=(hS9.bk.ext hx10).chg hc11 hgkF
   refine zaa zbb ?_
   refine zbR (α:=Raw) (lo:=0) (hi:=0) zcj rfl rfl hB11 (by simp) (zcH hR11.one) fun w12 hc12 hB12=>?_
   have hs12:=hc12.size
   have hgkF':gk∉Fp':=fun hm=>by
     rcases hs11 _ hm with h | h | h
     · exact hgkF h
     · simp at h
     omega
   have hS12:=hS9.names hord (vp':=v39) (N':=(p.procs.take (k+1)).map DProc.name) (Fp':=Fp') (w':=w12) ((((hx10.chg Fp).trans hc11).mono (by simp +contextual)).trans (hc12.toC.mono (by simp))) hB12
     (by rw [List.take_succ_eq_append_getElem hk,List.map_append];exact hR11.keep fun c hc=>hc12.block c (hR11.lt c hc) (by have:c≠gk:=fun e=>hgkF' (e▸hc);omega)) hN11 (fun c hc=>by
       rcases hs11 c hc with h | h | h
       · exact .inl h
       · simp at h
       exact .inr h) (by omega)
   have hx13:=zaj w12
   have hS13:=hS12.ext hx13
   have hs13:=hx13.size
   generalize World.drew1 w12=w13 at *
   have hx113:=hS13.em.old
   refine zaa za1 ?_
   refine zaA zcN hS13.bk rfl ?_
   refine NIL.mk rfl ?_
   obtain ⟨d0,d1,d2,rv,hd1,hd2,hd3,hd4,hd5⟩:=hS13.em
   refine zaa zgi ?_
   refine zab (α:=RIns) zcO (zk9 hd2.at) (Ext.refl _) fun v46 k46=>?_
   obtain ⟨q46,h46⟩:=ztC k46
   have q46:v46=rv:=q46
   have h46:Is w13 rv L:=h46
   rw [q46]
   refine zag u26 h46 ?_
   refine ze8 (β:=Int) (G:=Fe) (x:=(L.length:Int)) u25 ty3 z3 zc3 (by decide) hS13.e hS13.en (zcg (by unfold I64;omega)) (by simp) (by rw [zap,hEl];omega) (by rw [hEl];omega) (fun w14 v49 w15 Fe' hx14' hc15 hR15 hN15 hs15=>?_) fun s' w' hx' h'=>⟨hx',h'⟩
   have hs14:=hx14'.size
   have hs15':=hc15.size
   have hgkE:gk∉Fe:=fun hm=>by have:=hS13.be _ hm;omega
   have hB15:=(hS13.bk.ext hx14').chg hc15 hgkE
   refine zaa za1 ?_
   refine zbR (α:=Raw) (lo:=0) (hi:=0) zcN rfl rfl hB15 (by simp) (zcH hR15.one) fun w16 hc16 hB16=>?_
   have hs16:=hc16.size
   have hgkE':gk∉Fe':=fun hm=>by
     rcases hs15 _ hm with h | h | h
     · exact hgkE h
     · simp at h
     omega
   have hS16:=hS13.ents hord (ve':=v49) (E':=E++[(L.length:Int)]) (Fe':=Fe') (w':=w16) ((((hx14'.chg Fe).trans hc15).mono (by simp +contextual)).trans (hc16.toC.mono (by simp))) hB16
     (hR15.keep fun c hc=>hc16.block c (hR15.lt c hc) (by have:c≠gk:=fun e=>hgkE' (e▸hc);omega)) hN15 (fun c hc=>by
       rcases hs15 c hc with h | h | h
       · exact .inl h
       · simp at h
       exact .inr h) (by omega)
   have hx116:=hS16.em.old
   refine zaa zcK ?_
   refine zab zgh (zbB hA) hx116 fun v53 h53=>?_
   refine zad znZ zlT h53 hk fun b55 o55 hA55=>?_
   refine zaa zm0 ?_
   refine zab zcY (zhi hA55) hx116 fun v57 h57=>?_
   have hbl:=zhB G Lk Pn (p.procs[k]).body L.length
   refine (zjf _ 2 _ hS16.em h57 hbody.1 (by have:=hbody.2;omega)).mono ?_
   rintro r58 w17 ⟨hc17,Fi',hE17,hF17⟩
   have hs17:=hc17.size
   rw [←hG,←hLk,←hPn] at hE17
   have hS17:=hS16.ems hord hc17 hE17 hF17 (by omega)
   obtain ⟨z1,z2,z3,z4,z5⟩:=hE17.lt
   refine zje (lo:=w17.heap.size) (hi:=w17.heap.size) (by unfold I64;omega) fun v60 o60=>?_
   refine (zgW hE17 o60 z1 z2 (Nat.le_refl _) (by have:=hbody.2;rw [List.length_append];omega)).mono ?_
   rintro r61 w18 ⟨-,hc18,Fi'',hE18,hF18⟩
   have hs18:=hc18.size
   have hS18:=hS17.ems hord hc18 hE18 hF18 (by omega)
   refine zaf (by omega) ?_
   refine ⟨m-1,by omega,k+1,by omega,rfl,_,_,_,_,_,_,_,by omega,by simp [hEl],hS18,by omega,?_,?_⟩
   · rw [hent];simp [Nat.add_assoc]
   rw [hem];simp [Nat.add_assoc,ztF]
 have hk:k=p.procs.length:=by omega
 subst hk
 rw [List.drop_length,zl9,List.append_nil] at hent
 rw [List.drop_length,emP,List.append_nil] at hem
 rw [List.take_length] at hS8
 refine NIL.mk rfl ?_
 obtain ⟨d0,d1,d2,rv,hd1,hd2,hd3,hd4,hd5⟩:=hS8.em
 refine zaa zgi ?_
 refine zab (α:=RIns) zcO (zk9 hd2.at) (Ext.refl _) fun v65 k65=>?_
 obtain ⟨q65,-⟩:=ztC k65
 have q65:v65=rv:=q65
 rw [q65]
 obtain ⟨Gi,hLi⟩:=zhA (Lens.var hd2)
 obtain ⟨cs1,⟨rfl,hrow⟩,hr1,hnG,_,hg1,_⟩:=hLi.here
 have hrow:RowG Gi 77 w8 rv L:=hrow
 have hGi:∀ c∈Gi,c∈Fi:=fun c hc=>by
   rcases List.mem_cons.1 (hLi.sub c (by simp [hc])) with e | h
   · exact absurd (e▸hc) hg1
   exact h
 refine zaa zaG ?_
 refine zbR (α:=Raw) (lo:=0) (hi:=0) zcO rfl rfl hS8.bk (by simp) (zcH hrow.one) fun w9 hc9 hB9=>?_
 have hs9:=hc9.size
 refine zk0 hB9 zbm ?_
 have hx9:=hS8.x.chgI hc9 (by omega)
 refine zdK (α:=Raw5) (x:=(⟨v14⟩,⟨v18⟩,⟨vp⟩,⟨ve⟩,⟨rv⟩)) (lo:=0) (hi:=0) zbm rfl hx9 rfl (zms one14 one18 hS8.n.one hS8.e.one hrow.one) fun w10 hc10 hB10=>?_
 have hs10:=hc10.size
 refine zi3 hB10 zbm ?_
 have hxf:Ext w w10:=Ext.chgI (Ext.chgI (hx1.trans hx18) hc9 (by omega)) hc10 (by omega)
 refine ⟨hxf,_,rfl,?_⟩
 obtain ⟨F3,M3,B3⟩:=(hS8.g.chg hc9 (by omega)).chg hc10 (by omega)
 obtain ⟨F7,M7,B7⟩:=(hS8.l.chg hc9 (by omega)).chg hc10 (by omega)
 have keep:∀ c,bs≤c→c<w8.heap.size→w10.heap[c]?=w8.heap[c]?:=fun c h1 h2=>(hc10.block c (by omega) (by omega)).trans (hc9.block c h2 (by omega))
 have Mp:=zjr (hS8.n.keep fun c hc=>keep c (hS8.bp c hc) (hS8.n.lt c hc)) hS8.nn
 have Me:=zjr (hS8.e.keep fun c hc=>keep c (hS8.be c hc) (hS8.e.lt c hc)) hS8.en
 have Mi:=zjr (hrow.keep fun c hc=>keep c (hS8.bi c (hGi c hc)) (hrow.lt c hc)) hnG
 rw [hcd,hent,hem,hG,hLk,hPn]
 refine ⟨F3++(F7++(Fp++(Fe++Gi))),⟨⟨[v14,v18,vp,ve,rv],zaR (zcW rfl M3.own) (zaR (zcW rfl M7.own) (zaR (zcW rfl Mp.own) (zaR (zcW rfl Me.own) (zcW rfl Mi.own)))),rfl⟩,?_,M3.wr.append (M7.wr.append (Mp.wr.append (Me.wr.append Mi.wr)))⟩,fun c hc=>?_⟩
 · simp only [List.nodup_append,List.mem_append]
   refine ⟨M3.nodup,⟨M7.nodup,⟨hS8.nn,⟨hS8.en,hnG,fun a ha b hb e=>?_⟩,fun a ha b hb e=>?_⟩,fun a ha b hb e=>?_⟩,fun a ha b hb e=>?_⟩
   · exact hS8.dei a ha (hGi a (e▸hb))
   · subst e
     rcases hb with h | h
     · exact hS8.dpe a ha h
     exact hS8.dpi a ha (hGi a h)
   · subst e
     have:=B7 a ha
     rcases hb with h | h | h
     · have:=hS8.bp a h;omega
     · have:=hS8.be a h;omega
     have:=hS8.bi a (hGi a h);omega
   subst e
   have:=B3 a ha
   rcases hb with h | h | h | h
   · have:=B7 a h;omega
   · have:=hS8.bp a h;omega
   · have:=hS8.be a h;omega
   have:=hS8.bi a (hGi a h);omega
 simp only [List.mem_append] at hc
 rcases hc with h | h | h | h | h
 · have:=B3 c h;omega
 · have:=B7 c h;omega
 · have:=hS8.bp c h;have:=hS8.n.lt c h;omega
 · have:=hS8.be c h;have:=hS8.e.lt c h;omega
 have:=hS8.bi c (hGi c h);have:=hrow.lt c h;omega
def F69 (a0:Value) (w:World) (R:VW):Prop:=
 rN 22 3 a0 w fun x6=>
 rB .add 3 U0 T0 (iV 94701) x6 w fun x7=>
 LOOPI [3,4] [x7,(iV 0)] w fun u3 w next3=>
 rN 22 3 a0 w fun x10=>
 rC (u3 4) x10 w fun x11=>
 BR x11
 (rB .lss 3 T0 U0 (u3 4) (iV 4000) w fun x14=>
 BR x14
 (rB .mul 3 T0 U0 (u3 3) (iV 131) w fun x19=>
 rX 22 a0 (u3 4) w fun x22=>
 rL 5 x22 w fun x23=>
 rD (convert 5 3 x23) w fun x24=>
 rB .add 3 T0 T0 x19 x24 w fun x25=>
 rA x25 (iV 7) w fun x26=>
 rB .and 3 T0 U0 x26 (iV 1073741823) w fun x27=>
 rA (u3 4) (iV 1) w fun x17=>
 next3 [x27,x17] w)
 (rD (Instr.build 144 #[(0,a0),(2,(u3 3))]) w fun x30=>
 oP (Instr.box 144 x30) w fun x31 w=>
 R x31 w))
 (rD (Instr.build 144 #[(0,a0),(2,(u3 3))]) w fun x30=>
 oP (Instr.box 144 x30) w fun x31 w=>
 R x31 w)
def cfg69:Cfg:=⟨extL,[],[(3,268435224,[3,4])],[],[],[],[]⟩
theorem F69_call {a0:Value} {w:World} {R:VW} (h:F69 a0 w R):cL 69 [a0] w R:=co (g:=cfg69) Tryz.func69 (by kernel_rfl) (by kernel_rfl) (by kernel_rfl) h
def F68 (a0:Value) (w:World) (R:VW):Prop:=
 oP (Instr.alloc 28 true (.tuple #[])) w fun x2 w=>
 cL 129 [a0] w fun x9 w=>
 cL 96 [x9] w fun x10 w=>
 rE x10 0 w fun x11=>
 rE x10 1 w fun x12=>
 oP (Instr.alloc 28 true (.tuple #[])) w fun x3 w=>
 oS 28 x3 x11 w fun w=>
 rD (Op.unary .not x12) w fun x14=>
 BR x14
 (cL 94 [(Value.string (ByteArray.mk #[103,108,111,98,97,108,115,32,120,59,32,108,111,99,107,115,32,97,59,32,112,114,111,99,32,109,97,105,110,32,123,32,108,111,99,107,32,97,59,32,120,32,61,32,49,59,32,117,110,108,111,99,107,32,97,59,32,115,112,97,119,110,32,112,59,32,125,32,112,114,111,99,32,112,32,123,32,120,32,61,32,50,59,32,125]))] w fun x16 w=>
 rE x16 0 w fun x17=>
 rE x16 1 w fun x18=>
 oP (Instr.alloc 112 true (.tuple #[])) w fun x5 w=>
 oP (Instr.alloc 114 true (.tuple #[])) w fun x6 w=>
 oS 112 x5 x17 w fun w=>
 oS 114 x6 x18 w fun w=>
 rL 112 x5 w fun x20=>
 cL 96 [x20] w fun x21 w=>
 rE x21 0 w fun x22=>
 rE x21 1 w fun x23=>
 oS 28 x3 x22 w fun w=>
 rL 28 x3 w fun x24=>
 oS 28 x2 x24 w fun w=>
 rD (za9 28 x2) w fun r2=>R r2 w)
 (rL 28 x3 w fun x24=>
 oS 28 x2 x24 w fun w=>
 rD (za9 28 x2) w fun r2=>R r2 w)
def cfg68:Cfg:=⟨extL,[],[],[],[],[],[]⟩
theorem F68_call {a0:Value} {w:World} {R:VW} (h:F68 a0 w R):cL 68 [a0] w R:=co (g:=cfg68) Tryz.func68 (by kernel_rfl) (by kernel_rfl) (by kernel_rfl) h
def F10 (a0:Value) (w:World) (R:VW):Prop:=
 oP (Instr.alloc 28 true (.tuple #[])) w fun x2 w=>
 cL 69 [a0] w fun x4 w=>
 cL 68 [x4] w fun x5 w=>
 oS 28 x2 x5 w fun w=>
 rD (za9 28 x2) w fun r2=>R r2 w
def cfg10:Cfg:=⟨extL,[],[],[],[],[],[]⟩
theorem F10_call {a0:Value} {w:World} {R:VW} (h:F10 a0 w R):cL 10 [a0] w R:=co (g:=cfg10) Tryz.func10 (by kernel_rfl) (by kernel_rfl) (by kernel_rfl) h
open Rep (rep)
theorem zrd {bs:List UInt8} {k:Nat} (hk:k<(bs.take 4000).length) (h:Int):((bs.take 4000).take (k+1)).foldl (fun h (b:UInt8)=>zo2 (h*131+(b.toNat:Int)+7) 1073741823) h =
   zo2 (((bs.take 4000).take k).foldl (fun h (b:UInt8)=>zo2 (h*131+(b.toNat:Int)+7) 1073741823) h*131+(((bs.take 4000)[k]).toNat:Int)+7) 1073741823:=by
 rw [List.take_succ_eq_append_getElem hk,List.foldl_append];rfl
set_option maxRecDepth 100000 in
theorem zre {w W:World} {v:Value} {bs:List UInt8} (h:Is W v bs) (e:Ext W w) (hl:bs.length≤1048576) :
    CALL Tryz.prog 69 [v] w fun r w'=>Ext w w'∧∃ g,r=.pointer (some ⟨g,0,none⟩)∧w.heap.size≤g∧CurAt w g bs (zqs bs) w':=by
  have fin:∀ {w1:World} {hh:Int},Ext w w1→hh=zvh bs→I64 hh→RD Tryz.prog (Instr.build 144 #[(0,v),(2,.int .i64 hh)]) w1 fun x30=>OP Tryz.prog (Instr.box 144 x30) w1 fun x31 w2=>
      Ext w w2∧∃ g,x31=.pointer (some ⟨g,0,none⟩)∧w.heap.size≤g∧CurAt w g bs (zqs bs) w2:=by
    intro w1 hh hx1 hh1 hI
    obtain ⟨a,cap,Fi,xs,rfl,_⟩:=zcU h
    refine zaS (cells:=#[.slice a bs.length cap,.int .i64 0,.int .i64 hh]) (by kernel_rfl) ?_
    refine zkY fun w2 hx2 hB2=>?_
    refine ⟨hx1.trans hx2,_,rfl,hx1.size,.slice a bs.length cap,h.ext e,hx1.trans hx2,hx1.size,?_,Nat.zero_le _,hl⟩
    rw [hh1] at hB2
    exact hB2
  refine F69_call ?_
  unfold F69
  refine zag u22 h ?_
  refine zdo (by unfold I64;omega) ?_
  refine zas (bs.take 4000).length (fun k us w'=>∃ hh:Int,us=[.int .i64 hh,.int .i64 (k:Int)]∧Ext w w'∧k≤(bs.take 4000).length∧0≤hh∧hh≤1073741823∧hh=((bs.take 4000).take k).foldl (fun h (b:UInt8)=>zo2 (h*131+(b.toNat:Int)+7) 1073741823) (94701+(bs.length:Int))) 0 (Nat.zero_le _)
    ⟨_,rfl,Ext.refl w,Nat.zero_le _,by omega,by omega,by simp⟩ ?_
  rintro k m u w1 hkm ⟨hh,hu,hx1,hkl,h0,h1,hf⟩
  obtain ⟨hu0,hu1⟩:=zcC hu
  rw [hu0,hu1]
  have htl:(bs.take 4000).length=min 4000 bs.length:=List.length_take
  have hdone:(bs.take 4000).length≤k→hh=zvh bs:=fun hk=>by
    rw [hf,List.take_of_length_le hk];rfl
  have hIh:I64 hh:=by unfold I64;omega
  refine zag u22 h ?_
  refine zah ?_
  refine br (fun hlt=>?_) (fun hge=>fin hx1 (hdone (by omega)) hIh)
  refine zah ?_
  refine br (fun hlt2=>?_) (fun hge=>fin hx1 (hdone (by omega)) hIh)
  have hk:k<(bs.take 4000).length:=by omega
  have hkb:k<bs.length:=by omega
  refine znT (by unfold I64;omega) ?_
  refine zad u22 ty5 (i:=k) h hkb fun b o hA=>?_
  refine zod ty5 hA (e.trans hx1) ?_
  have h256:=UInt8.toNat_lt (bs[k])
  refine zqb (by kernel_rfl) u3 (by omega) ?_
  refine zdo (by unfold I64;omega) ?_
  refine zdo (by unfold I64;omega) ?_
  refine zmZ ?_
  refine zaf (by omega) ?_
  have hb:=zkA (hh*131+((bs[k]).toNat:Int)+7) (n:=1073741823) (by omega)
  refine ⟨m-1,by omega,k+1,by omega,_,rfl,hx1,by omega,hb.1,hb.2,?_⟩
  rw [zrd hk,←hf,List.getElem_take]
def ziq (bs:List UInt8):DCode:=zcv (zdJ bs (zqs bs)).1
theorem zpr (bs:List UInt8):CodeR (ziq bs)∧(ziq bs).ins.length≤436:=zj0 (zjY bs _)
set_option maxRecDepth 20000 in
theorem zps {W w:World} {g:Nat} {bs:List UInt8} {s:Cur} (hC:CurAt W g bs s w) :
    CALL Tryz.prog 68 [.pointer (some ⟨g,0,none⟩)] w fun r w'=>ChgI g (g+1) w w'∧OwnI w.heap.size w'.heap.size w' r (zcv (zdJ bs s).1)∧CurAt W g bs (zdJ bs s).2 w':=by
  have hgl:=hC.lt
  refine F68_call ?_
  unfold F68
  refine zcV ztq fun w1 hx1 hB1=>?_
  have hs1:=hx1.size
  have hg1:=hB1.lt
  refine (zpk (hC.ext hx1)).mono ?_
  rintro v9 w2 ⟨hc2,hC2,o9⟩
  have hs2:=hc2.size
  refine (zlm o9.is (Ext.refl _) (zjY bs s)).mono ?_
  rintro _ w3 ⟨hx3,a,rfl,o10⟩
  have hs3:=hx3.size
  refine zb6 rfl ?_
  refine zb6 rfl ?_
  refine zcV ztq fun w4 hx4 hB4=>?_
  have hs4:=hx4.size
  have hg4:=hB4.lt
  have o10:=o10.ext hx4
  have hform:∃ us:Array Value,a=.agg us:=by
    obtain ⟨F,⟨⟨cs,hr,hv⟩,_⟩,_⟩:=o10
    exact ⟨cs.toArray,by simpa [mkv,Rep.agg] using hv⟩
  obtain ⟨us,rfl⟩:=hform
  have hB1':Blk w.heap.size 28 w4 _:=((hB1.chgI hc2 (by omega)).ext hx3).ext hx4
  have hul:us.toList.length=5:=by
    obtain ⟨F,⟨⟨cs,hr,hv⟩,_⟩,_⟩:=o10
    have:us=cs.toArray:=by simpa [mkv,Rep.agg] using hv
    rw [this];exact Rep.len hr
  refine zdK zbm rfl hB4 rfl o10 fun w5 hc5 hB5=>?_
  have hs5:=hc5.size
  have o10:=o10.chg hc5 (by omega)
  refine zaJ ?_
  refine zbw (fun hc=>by simp at hc) (fun _=>?_)
  refine zk0 hB5 (by rw [hul];exact zbm) ?_
  have hB15:=hB1'.chgI hc5 (by omega)
  refine zdK zbm rfl hB15 rfl o10 fun w6 hc6 hB6=>?_
  have hs6:=hc6.size
  refine zi3 hB6 (by rw [hul];exact zbm) ?_
  refine ⟨?_,(o10.chg hc6 (by omega)).mono (by omega) (by omega),?_⟩
  · exact ChgI.out (ChgI.out (((hx1.toI.trans hc2).trans hx3.toI).trans hx4.toI) hc5 (by omega)) hc6 (by omega)
  exact (((hC2.ext hx3).ext hx4).chg hc5 (by omega) (by omega)).chg hc6 (by omega) (by omega)
theorem znw {w W:World} {v:Value} {bs:List UInt8} (h:Is W v bs) (e:Ext W w) (hl:bs.length≤1048576) :
   CALL Tryz.prog 10 [v] w fun r w'=>Ext w w'∧Own w.heap.size w' r (ziq bs):=by
 refine F10_call ?_
 unfold F10
 refine zcV ztq fun w1 hx1 hB1=>?_
 have hs1:=hx1.size
 have hg1:=hB1.lt
 refine (zre h (e.trans hx1) hl).mono ?_
 rintro _ w2 ⟨hx2,g,rfl,hg,hC2⟩
 have hs2:=hx2.size
 have hg2:=hC2.lt
 refine (zps hC2).mono ?_
 rintro v5 w3 ⟨hc3,o5,-⟩
 have hs3:=hc3.size
 have hform:∃ us:Array Value,v5=.agg us:=by
   obtain ⟨F,⟨⟨cs,hr,hv⟩,_⟩,_⟩:=o5
   exact ⟨cs.toArray,by simpa [mkv,Rep.agg] using hv⟩
 obtain ⟨us,rfl⟩:=hform
 have hul:us.toList.length=5:=by
   obtain ⟨F,⟨⟨cs,hr,hv⟩,_⟩,_⟩:=o5
   have:us=cs.toArray:=by simpa [mkv,Rep.agg] using hv
   rw [this];exact Rep.len hr
 have hB3:=(hB1.ext hx2).chgI hc3 (by omega)
 refine zdK zbm rfl hB3 rfl o5 fun w4 hc4 hB4=>?_
 refine zi3 hB4 (by rw [hul];exact zbm) ?_
 exact ⟨Ext.chgI (Ext.chgI (hx1.trans hx2) hc3 (by omega)) hc4 (by omega),(o5.chg hc4 (by omega)).own.mono (by omega)⟩
end Go.Proofs.YtbnjpfjjmhodnaaGreat
namespace Go.Proofs.YtbnjpfjjmhodnaaGreat
open Go.Shelf
def Tryz.sortRace_ren:Go.Shelf.Ren:=⟨fun | 6=>229 | 15=>238 | 14=>276 | 28=>286 | 29=>287 | 20=>318 | 21=>319 | 22=>320 | 23=>321 | 24=>322 | 25=>323 | 26=>324 | 27=>325 | 46=>341 | 47=>327 | 48=>328 | 49=>342 | 50=>343 | 57=>347 | n=>n,fun | 22=>57 | 24=>60 | 25=>141 | 3=>3 | 39=>97 | 0=>0 | 53=>266 | 55=>193 | 4=>4 | 46=>260 | 45=>259 | 50=>250 | 5=>5 | 9=>9 | 66=>291 | 70=>295 | 76=>305 | 77=>306 | n=>n,fun | n=>n⟩
theorem Tryz.sortRace:SlLaysF0.n6 Tryz.prog Tryz.sortRace_ren:={
 mixed:=by kernel_rfl,
 f6:=⟨Tryz.f229.name,by kernel_rfl,Tryz.func229.trans (congrArg some (by kernel_rfl))⟩,
 f14:=⟨Tryz.f276.name,by kernel_rfl,Tryz.func276.trans (congrArg some (by kernel_rfl))⟩,
 f15:=Tryz.func238.trans (congrArg some (by kernel_rfl)),
 f20:=⟨Tryz.f318.name,by kernel_rfl,Tryz.func318.trans (congrArg some (by kernel_rfl))⟩,
 f21:=⟨Tryz.f319.name,by kernel_rfl,Tryz.func319.trans (congrArg some (by kernel_rfl))⟩,
 f22:=⟨Tryz.f320.name,by kernel_rfl,Tryz.func320.trans (congrArg some (by kernel_rfl))⟩,
 f23:=⟨Tryz.f321.name,by kernel_rfl,Tryz.func321.trans (congrArg some (by kernel_rfl))⟩,
 f24:=⟨Tryz.f322.name,by kernel_rfl,Tryz.func322.trans (congrArg some (by kernel_rfl))⟩,
 f25:=⟨Tryz.f323.name,by kernel_rfl,Tryz.func323.trans (congrArg some (by kernel_rfl))⟩,
 f26:=⟨Tryz.f324.name,by kernel_rfl,Tryz.func324.trans (congrArg some (by kernel_rfl))⟩,
 f27:=⟨Tryz.f325.name,by kernel_rfl,Tryz.func325.trans (congrArg some (by kernel_rfl))⟩,
 f28:=Tryz.func286.trans (congrArg some (by kernel_rfl)),
 f29:=Tryz.func287.trans (congrArg some (by kernel_rfl)),
 f46:=⟨Tryz.f341.name,by kernel_rfl,Tryz.func341.trans (congrArg some (by kernel_rfl))⟩,
 f47:=Tryz.func327.trans (congrArg some (by kernel_rfl)),
 f48:=Tryz.func328.trans (congrArg some (by kernel_rfl)),
 f49:=⟨Tryz.f342.name,by kernel_rfl,Tryz.func342.trans (congrArg some (by kernel_rfl))⟩,
 f50:=⟨Tryz.f343.name,by kernel_rfl,Tryz.func343.trans (congrArg some (by kernel_rfl))⟩,
 f57:=⟨Tryz.f347.name,by kernel_rfl,Tryz.func347.trans (congrArg some (by kernel_rfl))⟩,
 t0:=Tryz.underlying0,
 a0:=Tryz.isAgg0,
 z0:=Tryz.sizeOf0,
 v0:=Tryz.zeroValue0,
 t3:=Tryz.underlying3,
 a3:=Tryz.isAgg3,
 z3:=Tryz.sizeOf3,
 v3:=Tryz.zeroValue3,
 t4:=Tryz.underlying4,
 a4:=Tryz.isAgg4,
 z4:=Tryz.sizeOf4,
 v4:=Tryz.zeroValue4,
 t5:=Tryz.underlying5,
 a5:=Tryz.isAgg5,
 z5:=Tryz.sizeOf5,
 v5:=Tryz.zeroValue5,
 t9:=Tryz.underlying9,
 a9:=Tryz.isAgg9,
 z9:=Tryz.sizeOf9,
 v9:=Tryz.zeroValue9,
 t22:=Tryz.underlying57,
 a22:=Tryz.isAgg57,
 z22:=Tryz.sizeOf57,
 v22:=Tryz.zeroValue57,
 t25:=Tryz.underlying141,
 a25:=Tryz.isAgg141,
 z25:=Tryz.sizeOf141,
 v25:=Tryz.zeroValue141,
 t39:=Tryz.underlying97,
 a39:=Tryz.isAgg97,
 z39:=Tryz.sizeOf97,
 v39:=Tryz.zeroValue97,
 t45:=Tryz.underlying259,
 a45:=Tryz.isAgg259,
 z45:=Tryz.sizeOf259,
 v45:=Tryz.zeroValue259,
 t46:=Tryz.underlying260,
 a46:=Tryz.isAgg260,
 z46:=Tryz.sizeOf260,
 v46:=Tryz.zeroValue260,
 t50:=Tryz.underlying250,
 a50:=Tryz.isAgg250,
 z50:=Tryz.sizeOf250,
 v50:=Tryz.zeroValue250,
 t53:=Tryz.underlying266,
 a53:=Tryz.isAgg266,
 z53:=Tryz.sizeOf266,
 v53:=Tryz.zeroValue266,
 t55:=Tryz.underlying193,
 a55:=Tryz.isAgg193,
 z55:=Tryz.sizeOf193,
 v55:=Tryz.zeroValue193,
 t66:=Tryz.underlying291,
 a66:=Tryz.isAgg291,
 z66:=Tryz.sizeOf291,
 v66:=Tryz.zeroValue291,
 t70:=Tryz.underlying295,
 a70:=Tryz.isAgg295,
 z70:=Tryz.sizeOf295,
 v70:=Tryz.zeroValue295,
 t76:=Tryz.underlying305,
 a76:=Tryz.isAgg305,
 z76:=Tryz.sizeOf305,
 v76:=Tryz.zeroValue305,
 t77:=Tryz.underlying306,
 a77:=Tryz.isAgg306,
 z77:=Tryz.sizeOf306,
 v77:=Tryz.zeroValue306 }
end Go.Proofs.YtbnjpfjjmhodnaaGreat
namespace Go.Proofs.YtbnjpfjjmhodnaaGreat
open Go Go.Sh Go.Proofs
open Rep (rep)
def F288 (a0:Value) (w:World) (R:VW):Prop:=
 rB .neq 3 T0 T0 a0 a0 w fun x5=>
 R x5 w
def cfg288:Cfg:=⟨extL,[],[],[],[],[],[]⟩
theorem F288_call {a0:Value} {w:World} {R:VW} (h:F288 a0 w R):cL 288 [a0] w R:=co (g:=cfg288) Tryz.func288 (by kernel_rfl) (by kernel_rfl) (by kernel_rfl) h
def F239 (a0 a1:Value) (w:World) (R:VW):Prop:=
 cL 288 [a0] w fun x8 w=>
 cL 288 [a1] w fun x10 w=>
 BR x8
 (BR x10
 (R (iV 0) w)
 (R (iV (-1)) w))
 (BR x10
 (R (iV 1) w)
 (rC a0 a1 w fun x16=>
 BR x16
 (R (iV (-1)) w)
 (rB .gtr 3 T0 T0 a0 a1 w fun x19=>
 BR x19
 (R (iV 1) w)
 (R (iV 0) w))))
def cfg239:Cfg:=⟨extL,[],[],[],[],[],[]⟩
theorem F239_call {a0 a1:Value} {w:World} {R:VW} (h:F239 a0 a1 w R):cL 239 [a0,a1] w R:=co (g:=cfg239) Tryz.func239 (by kernel_rfl) (by kernel_rfl) (by kernel_rfl) h
def F175 (a0 a1:Value) (w:World) (R:VW):Prop:=
 rN 25 3 a0 w fun x10=>
 LOOPI [11] [(iV 0)] w fun u2 w next2=>
 rC (u2 11) x10 w fun x12=>
 BR x12
 (rX 25 a0 (u2 11) w fun x14=>
 rL 3 x14 w fun x15=>
 rN 25 3 a1 w fun x18=>
 rB .geq 3 T0 T0 (u2 11) x18 w fun x19=>
 BR x19
 (R (iV 1) w)
 (rX 25 a1 (u2 11) w fun x22=>
 rL 3 x22 w fun x23=>
 cL 239 [x15,x23] w fun x26 w=>
 rB .neq 3 T0 U0 x26 (iV 0) w fun x28=>
 BR x28
 (R x26 w)
 (rA (u2 11) (iV 1) w fun x30=>
 next2 [x30] w)))
 (rN 25 3 a0 w fun x32=>
 rN 25 3 a1 w fun x34=>
 rC x32 x34 w fun x35=>
 BR x35
 (R (iV (-1)) w)
 (R (iV 0) w))
def cfg175:Cfg:=⟨extL,[],[(2,2147482096,[11])],[],[],[],[]⟩
theorem F175_call {a0 a1:Value} {w:World} {R:VW} (h:F175 a0 a1 w R):cL 175 [a0,a1] w R:=co (g:=cfg175) Tryz.func175 (by kernel_rfl) (by kernel_rfl) (by kernel_rfl) h
def F128 (a0 a1:Value) (w:World) (R:VW):Prop:=
 oP (Instr.box 60 a0) w fun x2 w=>
 oP (Instr.box 60 a1) w fun x3 w=>
 rF 60 x2 0 w fun x5=>
 rL 3 x5 w fun x6=>
 rF 60 x2 1 w fun x7=>
 rL 3 x7 w fun x8=>
 rF 60 x2 2 w fun x9=>
 rL 3 x9 w fun x10=>
 oP (Instr.buildSlice 25 3 #[(0,x6),(1,x8),(2,x10)]) w fun x11 w=>
 rF 60 x3 0 w fun x12=>
 rL 3 x12 w fun x13=>
 rF 60 x3 1 w fun x14=>
 rL 3 x14 w fun x15=>
 rF 60 x3 2 w fun x16=>
 rL 3 x16 w fun x17=>
 oP (Instr.buildSlice 25 3 #[(0,x13),(1,x15),(2,x17)]) w fun x18 w=>
 cL 175 [x11,x18] w fun x19 w=>
 R x19 w
def cfg128:Cfg:=⟨extL,[],[],[],[],[],[]⟩
theorem F128_call {a0 a1:Value} {w:World} {R:VW} (h:F128 a0 a1 w R):cL 128 [a0,a1] w R:=co (g:=cfg128) Tryz.func128 (by kernel_rfl) (by kernel_rfl) (by kernel_rfl) h
theorem zvv:zcJ Tryz.prog 3=some [.int .i64 0]:=by kernel_rfl
def zoE (x y:Int):Int:=if x<y then -1 else if y<x then 1 else 0
def zst:List Int→List Int→Int
 | [],[]=>0
 | [],_ :: _=>-1
 | _ :: _,[]=>1
 | x :: l,y :: m=>if zoE x y≠0 then zoE x y else zst l m
theorem isNaN_ok {w:World} {x:Int}:CALL Tryz.prog 288 [.int .i64 x] w fun r w'=>w'=w∧r=.bool false:=by
 refine F288_call ?_
 unfold F288
 exact zaN ⟨rfl,by simp⟩
theorem compareI_ok {w:World} {x y:Int}:CALL Tryz.prog 239 [.int .i64 x,.int .i64 y] w fun r w'=>w'=w∧r=.int .i64 (zoE x y):=by
 refine F239_call ?_
 unfold F239
 refine isNaN_ok.mono ?_
 rintro _ _ ⟨rfl,rfl⟩
 refine isNaN_ok.mono ?_
 rintro _ _ ⟨rfl,rfl⟩
 refine zbw (fun h=>by cases h) (fun _=>?_)
 refine zbw (fun h=>by cases h) (fun _=>?_)
 refine zah ?_
 refine br (fun h=>⟨rfl,by rw [zoE,if_pos h]⟩) (fun h=>?_)
 refine zc8 ?_
 refine br (fun h2=>⟨rfl,by rw [zoE,if_neg h,if_pos h2]⟩) (fun h2=>⟨rfl,by rw [zoE,if_neg h,if_neg h2]⟩)
theorem zln {P:Program} {w:World} {K:Value→Prop} {t ty e:TypeId} {a:Option Addr} {n c:Nat} (ht:P.underlying t=some (.slice e)) (k:K (.int .i64 (n:Int))) :
   RD P (Builtin.len_ #[t] ty [Value.slice a n c].toArray) w K:=za3 (fun w' _=>by simp [Builtin.len_,run_underlying ht];rfl) k
def vI (l:List Int):List Value:=l.map fun x=>.int .i64 x
theorem zs6 {l:List Int} {k:Nat} (h:k<l.length):(vI l)[k]?=some (.int .i64 l[k]):=by simp [vI,h]
theorem zrf {l m:List Int} {k:Nat} (h1:k<l.length) (h2:k<m.length):zst (l.drop k) (m.drop k)=if zoE l[k] m[k]≠0 then zoE l[k] m[k] else zst (l.drop (k+1)) (m.drop (k+1)):=by
 rw [List.drop_eq_getElem_cons h1,List.drop_eq_getElem_cons h2,zst]
theorem znx {w:World} {g1 g2 e1 e2 c1 c2:Nat} {l m:List Int} (h1:Blk g1 e1 w (vI l)) (h2:Blk g2 e2 w (vI m)) (hl:l.length≤1000) (hm:m.length≤1000) :
   CALL Tryz.prog 175 [.slice (some ⟨g1,0,none⟩) l.length c1,.slice (some ⟨g2,0,none⟩) m.length c2] w fun r w'=>w'=w∧r=.int .i64 (zst l m):=by
 refine F175_call ?_
 unfold F175
 refine zln u25 ?_
 refine zas l.length (fun k us w'=>us=[.int .i64 (k:Int)]∧w'=w∧k≤m.length∧zst l m=zst (l.drop k) (m.drop k)) 0 (Nat.zero_le _) ⟨rfl,rfl,Nat.zero_le _,rfl⟩ ?_
 rintro k mk u w2 hkm ⟨hu,rfl,hkl,hc⟩
 simp only [List.map_cons,List.map_nil,List.cons.injEq,and_true] at hu
 rw [hu]
 refine zah ?_
 refine br (fun hlt=>?_) (fun hge=>?_)
 · have hk1:k<l.length:=by omega
   refine ziA u25 ty3 hk1 ?_
   rw [Nat.mul_one]
   refine zaA ty3 h1 (zs6 hk1) ?_
   refine zln u25 ?_
   refine zck ?_
   refine br (fun hge=>?_) (fun hlt2=>?_)
   · refine ⟨rfl,?_⟩
     have e0:m.drop k=[]:=List.drop_eq_nil_of_le (by omega)
     rw [hc,List.drop_eq_getElem_cons hk1,e0];rfl
   have hk2:k<m.length:=by omega
   refine ziA u25 ty3 hk2 ?_
   rw [Nat.mul_one]
   refine zaA ty3 h2 (zs6 hk2) ?_
   refine compareI_ok.mono ?_
   rintro _ _ ⟨rfl,rfl⟩
   have hst:=zrf hk1 hk2
   refine zaN ?_
   refine br (fun hne=>?_) (fun heq=>?_)
   · exact ⟨rfl,by rw [hc,hst,if_pos hne]⟩
   refine zaf (by omega) ?_
   exact ⟨mk-1,by omega,k+1,by omega,rfl,rfl,by omega,by rw [hc,hst,if_neg heq]⟩
 have hk:k=l.length:=by omega
 subst hk
 refine zln u25 ?_
 refine zln u25 ?_
 refine zah ?_
 rw [List.drop_length] at hc
 refine br (fun hlt2=>⟨rfl,?_⟩) (fun hge2=>⟨rfl,?_⟩)
 · rw [hc,List.drop_eq_getElem_cons (by omega)];rfl
 rw [hc,List.drop_eq_nil_of_le (by omega)];rfl
section
variable {P:Program} {w:World} {K:Value→World→Prop}
theorem zrg {t:TypeId} {cs:Array Value} (k:K (.pointer (some ⟨w.heap.size,0,none⟩)) (w.alloc (.cells cs t))):OP P (Instr.box t (.agg cs)) w K:=
 ⟨_,w.alloc (.cells cs t),by simp [Instr.box,newVar,newRow,Value.cells],k⟩
theorem zj7 {t e:TypeId} {by_:Nat} {x y z:Int} (ht:P.underlying t=some (.slice e)) (he:tyI P e=some (1,by_,false)) (hz:zcJ P e=some [.int .i64 0])
   (k:K (.slice (some ⟨w.heap.size,0,none⟩) 3 3) (w.alloc (.cells (vI [x,y,z]).toArray e))):OP P (Instr.buildSlice t 3 #[(0,.int .i64 x),(1,.int .i64 y),(2,.int .i64 z)]) w K:=by
 unfold zcJ at hz
 cases hi:P.info? e with
 | none=>simp [hi] at hz
 | some i=>
   simp only [hi] at hz
   obtain ⟨v,hv,hvc⟩:=Option.map_eq_some_iff.1 hz
   refine ⟨_,w.alloc (.cells (vI [x,y,z]).toArray e),?_,k⟩
   have hvc':v.cells=#[.int .i64 0]:=Array.ext' (by simpa using hvc)
   have e1:∀ n:Int,(Value.int .i64 n).cells=#[.int .i64 n]:=fun _=>rfl
   simp only [Instr.buildSlice,Sem.run_bind,run_underlying ht,Result.andThen_ok,zaE he]
   have e2:Array.range 3=#[0,1,2]:=by decide
   simp [zeroValue,typeInfo,hi,hv,newRow,Instr.fill,hvc',vI,e1,e2]
end
def i3 (a b c:Int):Array Value:=#[.int .i64 a,.int .i64 b,.int .i64 c]
def zlo (w w':World):Prop:=∃ q os,w'=Go.Sort.grow (w.drewN q) os
theorem zmt {w:World} (o1 o2 o3 o4:Obj):zlo w ((((w.alloc o1).alloc o2).alloc o3).alloc o4):=
 ⟨0,#[o1]++#[o2]++#[o3]++#[o4],by
   rw [Go.Sort.alloc_eq_grow,Go.Sort.alloc_eq_grow,Go.Sort.alloc_eq_grow,Go.Sort.alloc_eq_grow,Go.Sort.grow_grow,Go.Sort.grow_grow,Go.Sort.grow_grow];rfl⟩
def zjs (x:DRace):List Int:=[x.g,x.a,x.b]
def zsu (x y:DRace):Int:=zst (zjs x) (zjs y)
theorem zfL {w:World} {x y:DRace}:CALL Tryz.prog 128 [.agg (i3 x.g x.a x.b),.agg (i3 y.g y.a y.b)] w fun r w'=>r=.int .i64 (zsu x y)∧zlo w w':=by
 refine F128_call ?_
 unfold F128
 refine zrg ?_
 have hB1:Blk w.heap.size 60 (w.alloc (.cells (i3 x.g x.a x.b) 60)) (vI (zjs x)):=heap_alloc_new w _
 refine zrg ?_
 generalize hw1:w.alloc (.cells (i3 x.g x.a x.b) 60)=w1 at *
 have hB2:Blk w1.heap.size 60 (w1.alloc (.cells (i3 y.g y.a y.b) 60)) (vI (zjs y)):=heap_alloc_new w1 _
 have hx2:=zaZ w1 (.cells (i3 y.g y.a y.b) 60)
 generalize hw2:w1.alloc (.cells (i3 y.g y.a y.b) 60)=w2 at *
 have hB12:=hB1.ext hx2
 refine zaa zhU ?_
 refine zaA ty3 hB12 rfl ?_
 refine zaa ziH ?_
 refine zaA ty3 hB12 rfl ?_
 refine zaa zlR ?_
 refine zaA ty3 hB12 rfl ?_
 refine zj7 u25 ty3 zvv ?_
 have hx3:=zaZ w2 (.cells (vI [x.g,x.a,x.b]).toArray 3)
 have hB3:Blk w2.heap.size 3 (w2.alloc (.cells (vI [x.g,x.a,x.b]).toArray 3)) (vI (zjs x)):=heap_alloc_new w2 _
 generalize hw3:w2.alloc (.cells (vI [x.g,x.a,x.b]).toArray 3)=w3 at *
 have hB23:=hB2.ext hx3
 refine zaa zhU ?_
 refine zaA ty3 hB23 rfl ?_
 refine zaa ziH ?_
 refine zaA ty3 hB23 rfl ?_
 refine zaa zlR ?_
 refine zaA ty3 hB23 rfl ?_
 refine zj7 u25 ty3 zvv ?_
 have hx4:=zaZ w3 (.cells (vI [y.g,y.a,y.b]).toArray 3)
 have hB4:Blk w3.heap.size 3 (w3.alloc (.cells (vI [y.g,y.a,y.b]).toArray 3)) (vI (zjs y)):=heap_alloc_new w3 _
 have hg:zlo w (w3.alloc (.cells (vI [y.g,y.a,y.b]).toArray 3)):=by rw [←hw3,←hw2,←hw1];exact zmt _ _ _ _
 refine (znx (l:=zjs x) (m:=zjs y) (hB3.ext hx4) hB4 (by simp [zjs]) (by simp [zjs])).mono ?_
 rintro _ _ ⟨rfl,rfl⟩
 exact ⟨rfl,hg⟩
def ltR (x y:DRace):Prop:=x.g<y.g∨(x.g=y.g∧(x.a<y.a∨(x.a=y.a∧x.b<y.b)))
theorem zny {x y:Int} (h:x<y):zoE x y=-1:=by rw [zoE,if_pos h]
theorem znz {x y:Int} (h:y<x):zoE x y=1:=by rw [zoE,if_neg (by omega),if_pos h]
theorem znA {x y:Int} (h:x=y):zoE x y=0:=by rw [zoE,if_neg (by omega),if_neg (by omega)]
theorem zrh {x y:DRace}:zsu x y<0↔ltR x y:=by
 unfold zsu zjs ltR
 simp only [zst]
 rcases Int.lt_trichotomy x.g y.g with h | h | h
 · rw [zny h];simp;omega
 · rw [znA h]
   rcases Int.lt_trichotomy x.a y.a with h2 | h2 | h2
   · rw [zny h2];simp;omega
   · rw [znA h2]
     rcases Int.lt_trichotomy x.b y.b with h3 | h3 | h3
     · rw [zny h3];simp;omega
     · rw [znA h3];simp;omega
     rw [znz h3];simp;omega
   rw [znz h2];simp;omega
 rw [znz h];simp;omega
end Go.Proofs.YtbnjpfjjmhodnaaGreat
namespace Go.Proofs.YtbnjpfjjmhodnaaGreat
open Go Go.Sh Go.Proofs Go.Sort
open Rep (rep)
structure DOrder where
 fr:Int
 to:Int
 at_:Int
theorem DOrder.ext_iff {x y:DOrder}:x=y↔(x.fr=y.fr∧x.to=y.to∧x.at_=y.at_):=⟨fun h=>by rw [h];exact ⟨rfl,rfl,rfl⟩,fun h=>by obtain ⟨h0,h1,h2⟩:=h;cases x;cases y;simp only at h0 h1 h2;simp only [h0,h1,h2]⟩
instance:DecidableEq DOrder:=fun x y=>decidable_of_iff (x.fr=y.fr∧x.to=y.to∧x.at_=y.at_) DOrder.ext_iff.symm
instance:Rep DOrder:=Rep.via fun x=>(x.fr,x.to,x.at_)
instance:RepZ DOrder:=⟨⟨(RepZ.zv:Int),(RepZ.zv:Int),(RepZ.zv:Int)⟩,RepZ.zc (Int×Int×Int),fun w=>RepZ.zr (α:=Int×Int×Int) w⟩
instance:Flat DOrder:=⟨fun h=>Flat.flat (α:=Int×Int×Int) h⟩
def ltO (x y:DOrder):Prop:=x.fr<y.fr∨(x.fr=y.fr∧(x.to<y.to∨(x.to=y.to∧x.at_<y.at_)))
instance (x y:DOrder):Decidable (ltO x y):=by unfold ltO;infer_instance
instance:Inhabited DOrder:=⟨⟨0,0,0⟩⟩
theorem zg6 {lo hi:Nat} {w:World} {x:DTouch} (h1:I64 x.at_) (h2:I64 x.global) (h3:I64 x.held):OwnI lo hi w (.agg #[.int .i64 x.at_,.int .i64 x.global,.bool x.write,.int .i64 x.held]) x:=
 ⟨[],zp2 h1 h2 h3,by simp⟩
def zbO (c:DCode) (a:Int) (held:Int) (i:DIns):Nat→List DTouch
 | 0=>[]
 | k+1=>zbO c a held i k++(if c.globals.getD k ByteArray.empty∈zbk i.term then [⟨a,k,false,held⟩] else [])++(if i.op=1∧i.arg=k then [⟨a,k,true,held⟩] else [])
def zc2 (c:DCode) (a:Int) (held:Int):List DTouch:=
 if (zak c a.toNat).op=1∨(zak c a.toNat).op=2 then zbO c a held (zak c a.toNat) c.globals.length else []
theorem zfl (c:DCode) (a held:Int) (i:DIns):∀ k,(zbO c a held i k).length≤2*k
 | 0=>by simp [zbO]
 | k+1=>by
   have:=zfl c a held i k
   rw [zbO,List.length_append,List.length_append]
   split<;>split<;>simp<;>omega
theorem znB (c:DCode) (a held:Int):(zc2 c a held).length≤2*c.globals.length:=by
 unfold zc2
 split
 · exact zfl _ _ _ _ _
 simp
def F106 (a0 a1 a2:Value) (w:World) (R:VW):Prop:=
 oP (Instr.box 28 a0) w fun x3 w=>
 rF 28 x3 4 w fun x12=>
 rL 26 x12 w fun x13=>
 rX 26 x13 a1 w fun x15=>
 rL 77 x15 w fun x16=>
 oP (Instr.alloc 77 true (.tuple #[])) w fun x7 w=>
 oS 77 x7 x16 w fun w=>
 JOIN [] (fun J4=>
 rF 77 x7 0 w fun x17=>
 rL 3 x17 w fun x18=>
 rB .neq 3 T0 U0 x18 (iV 1) w fun x19=>
 BR x19
 (rF 77 x7 0 w fun x21=>
 rL 3 x21 w fun x22=>
 rB .neq 3 T0 U0 x22 (iV 2) w fun x23=>
 BR x23
 (R (Value.slice none 0 0) w)
 (J4 [] w))
 (J4 [] w)) (fun u4 w=>
 rF 77 x7 2 w fun x25=>
 rL 75 x25 w fun x26=>
 cL 166 [x26] w fun x27 w=>
 rF 28 x3 0 w fun x28=>
 rL 24 x28 w fun x29=>
 rN 24 3 x29 w fun x30=>
 LOOPI [9,31] [(Value.slice none 0 0),(iV 0)] w fun u7 w next7=>
 rC (u7 31) x30 w fun x32=>
 BR x32
 (rX 24 x29 (u7 31) w fun x34=>
 rL 9 x34 w fun x35=>
 JOIN [9] (fun J11=>
 cL 167 [x27,x35] w fun x38 w=>
 BR x38
 (rD (Instr.build 87 #[(0,a1),(1,(u7 31)),(3,a2)]) w fun x43=>
 oP (Instr.buildSlice 62 1 #[(0,x43)]) w fun x44 w=>
 oP (Builtin.append_ #[62,62] 62 [(u7 9),x44].toArray) w fun x45 w=>
 J11 [x45] w)
 (J11 [(u7 9)] w)) (fun u11 w=>
 rF 77 x7 0 w fun x46=>
 rL 3 x46 w fun x47=>
 rB .eql 3 T0 U0 x47 (iV 1) w fun x48=>
 BR x48
 (rF 77 x7 1 w fun x50=>
 rL 3 x50 w fun x51=>
 rB .eql 3 T0 T0 x51 (u7 31) w fun x53=>
 BR x53
 (rD (Instr.build 87 #[(0,a1),(1,(u7 31)),(2,(Value.bool true)),(3,a2)]) w fun x59=>
 oP (Instr.buildSlice 62 1 #[(0,x59)]) w fun x60 w=>
 oP (Builtin.append_ #[62,62] 62 [(u11 9),x60].toArray) w fun x61 w=>
 rA (u7 31) (iV 1) w fun x62=>
 next7 [x61,x62] w)
 (rA (u7 31) (iV 1) w fun x62=>
 next7 [(u11 9),x62] w))
 (rA (u7 31) (iV 1) w fun x62=>
 next7 [(u11 9),x62] w)))
 (R (u7 9) w))
def cfg106:Cfg:=⟨extL,[(4,33423424,[]),(11,70300024701440,[9])],[(7,9223372034707295744,[9,31])],[],[],[],[]⟩
theorem F106_call {a0 a1 a2:Value} {w:World} {R:VW} (h:F106 a0 a1 a2 w R):cL 106 [a0,a1,a2] w R:=co (g:=cfg106) Tryz.func106 (by kernel_rfl) (by kernel_rfl) (by kernel_rfl) h
theorem zmu {w:World} {v0:Value} {W0:World} {c:DCode} {a:Int} {held:Int}  (h0:Is W0 v0 c) (e0:Ext W0 w) (hc:CodeR c) (ha:0≤a) (ha2:a<c.ins.length) (hh:I64 held) :
   CALL Tryz.prog 106 [v0,.int .i64 a,.int .i64 held] w fun r w'=>Ext w w'∧(Own w.heap.size w' r (zc2 c a held)):=by
 refine F106_call ?_
 unfold F106
 have hil:=hc.f.ins
 have hg6:c.globals.length≤6:=by have h1:=hc.1.1;simp only [Bool.and_eq_true,decide_eq_true_eq] at h1;omega
 have hs_e0:=e0.size
 refine zaW zbm rfl h0 e0 fun w1_ hx1_ hA3 hV3=>?_
 have hs_hx1_:=hx1_.size
 refine zaa zaG ?_
 refine zab zcO (zal hA3) (Ext.refl w1_) fun v13 h13=>?_
 refine zb0 u26 zc6 h13 (by omega) (by omega) fun b15 o15 h15=>?_
 rw [zaF] at h15
 obtain ⟨i,hi⟩:∃ i,i=zak c a.toNat:=⟨_,rfl⟩
 rw [←hi] at h15
 refine zab zc6 h15 (Ext.refl w1_) fun v16 h16=>?_
 refine zce zpE rfl zc6 rfl h16 (Ext.refl w1_) fun w2_ hx2_ hA7 hV7=>?_
 have hs_hx2_:=hx2_.size
 have hg7:=hV7.lt
 refine JOIN.mk (fun us w'=>us=[]∧Ext w2_ w'∧(i.op=1∨i.op=2)) ?_ ?_
 · refine zaa zbf ?_
   refine zac ty3 (zay hA7) (Ext.refl w2_) fun hI18=>?_
   refine zaN ?_
   refine br (fun c1=>?_) (fun c1=>?_)
   · refine zaa zbf ?_
     refine zac ty3 (zay hA7) (Ext.refl w2_) fun hI22=>?_
     refine zaN ?_
     refine br (fun c2=>?_) (fun c2=>?_)
     · refine ⟨(hx1_.trans hx2_),?_⟩
       unfold zc2
       rw [←hi,if_neg (by omega)]
       exact zkv rfl
     refine ⟨by simp,Ext.refl w2_,?_⟩
     omega
   refine ⟨by simp,Ext.refl w2_,?_⟩
   omega
 rintro uj4 w3_ ⟨hu,hx3_,hop⟩
 have hs_hx3_:=hx3_.size
 simp only [List.map_cons,List.map_nil,List.cons.injEq,and_true] at hu
 clear hu
 refine zaa zfn ?_
 refine zab zc5 (zb5 hA7) hx3_ fun v26 h26=>?_
 refine (zeu h26 hx3_).mono ?_
 rintro r27 w4_ ⟨hx4_,h27⟩
 have hs_hx4_:=hx4_.size
 refine zaa zdY ?_
 refine zab zcj (zbj hA3) (hx2_.trans (hx3_.trans hx4_)) fun v29 h29=>?_
 have hln30:=zan h29
 refine zag u24 h29 ?_
 refine zas (c.globals.length) (fun k us w'=>∃ v:Value,us=[v,.int .i64 (k:Int)]∧Ext w4_ w'∧(RowI w4_.heap.size w'.heap.size 87 w' v (zbO c a held i k))) (0) (by omega) ⟨_,rfl,Ext.refl w4_,zc0 _ _ _ _⟩ ?_
 rintro k m7 uu7 w5_ hk7 ⟨v9,hu,hx5_,hrow⟩
 have hs_hx5_:=hx5_.size
 obtain ⟨hu0,hu1⟩:=zcC hu;clear hu
 try rw [hu0]
 try rw [hu1]
 try clear hu0 hu1
 have hrl:=zfl c a held i k
 refine zah ?_
 refine br (fun c3=>?_) (fun c3=>?_)
 · refine zad u24 ty9 h29 (by omega) fun b34 o34 h34=>?_
   refine zav ty9 h34 (hx2_.trans (hx3_.trans (hx4_.trans hx5_))) fun hS35=>?_
   refine JOIN.mk (fun us w'=>∃ v:Value,us=[v]∧Ext w4_ w'∧(RowI w4_.heap.size w'.heap.size 87 w' v (zbO c a held i k++(if c.globals.getD k ByteArray.empty∈zbk i.term then [⟨a,k,false,held⟩] else [])))) ?_ ?_
   · have hgk:c.globals[k]'(by omega)=c.globals.getD k ByteArray.empty:=by rw [List.getD_eq_getElem?_getD,List.getElem?_eq_getElem (by omega)];rfl
     refine (zca h27 hx5_).mono ?_
     rintro _ w7_ ⟨hx7_,rfl⟩
     have hs_hx7_:=hx7_.size
     refine br (fun c4=>?_) (fun c4=>?_)
     · refine zaS (cells:=#[.int .i64 a,.int .i64 (k:Int),.bool false,.int .i64 held]) (by kernel_rfl) ?_
       have o43:OwnI w7_.heap.size w7_.heap.size w7_ (.agg #[.int .i64 a,.int .i64 (k:Int),.bool false,.int .i64 held]) (⟨a,k,false,held⟩:DTouch):=zg6 (x:=⟨a,k,false,held⟩) (by show I64 a;unfold I64;omega) (by show I64 (k:Int);unfold I64;omega) hh
       refine zbV (α:=DTouch) u62 ze3 z87 zug (by decide) (hrow.ext hx7_) (by omega) (o43.ext (Ext.refl w7_)) (by omega) (by omega) (by rw [zap];omega) (by omega) fun v45 w8_ hc8_ o45=>?_
       have hs_hc8_:=hc8_.size
       have o43_c8:=(o43.ext (Ext.refl w7_)).chg hc8_ (by omega)
       refine ⟨_,rfl,(Ext.chgI (hx5_.trans hx7_) hc8_ (by omega)),?_⟩
       rw [if_pos (by rw [←hgk];exact c4)];exact o45
     refine ⟨_,rfl,(hx5_.trans hx7_),?_⟩
     rw [if_neg (by rw [←hgk];exact c4),List.append_nil];exact (hrow.ext hx7_).mono (by omega) (by omega)
   rintro uj11 w6_ ⟨v11,hu,hx8_,hrow2⟩
   have hs_hx8_:=hx8_.size
   simp only [List.map_cons,List.map_nil,List.cons.injEq,and_true] at hu
   try rw [hu]
   try clear hu
   refine zaa zbf ?_
   refine zac ty3 (zay hA7) (hx3_.trans (hx4_.trans hx8_)) fun hI47=>?_
   refine zai ?_
   refine br (fun c5=>?_) (fun c5=>?_)
   · refine zaa zbu ?_
     refine zac ty3 (zaC hA7) (hx3_.trans (hx4_.trans hx8_)) fun hI51=>?_
     refine zai ?_
     refine br (fun c6=>?_) (fun c6=>?_)
     · refine zaS (cells:=#[.int .i64 a,.int .i64 (k:Int),.bool true,.int .i64 held]) (by kernel_rfl) ?_
       have o59:OwnI w6_.heap.size w6_.heap.size w6_ (.agg #[.int .i64 a,.int .i64 (k:Int),.bool true,.int .i64 held]) (⟨a,k,true,held⟩:DTouch):=zg6 (x:=⟨a,k,true,held⟩) (by show I64 a;unfold I64;omega) (by show I64 (k:Int);unfold I64;omega) hh
       refine zbV (α:=DTouch) u62 ze3 z87 zug (by decide) (hrow2.ext (Ext.refl w6_)) (by omega) (o59.ext (Ext.refl w6_)) (by omega) (by omega) (by rw [zap,List.length_append];split<;>simp<;>omega) (by rw [List.length_append];split<;>simp<;>omega) fun v61 w9_ hc9_ o61=>?_
       have hs_hc9_:=hc9_.size
       have o59_c9:=(o59.ext (Ext.refl w6_)).chg hc9_ (by omega)
       refine zaf (by omega) ?_
       refine ⟨m7-1,by omega,k+1,by omega,_,rfl,(Ext.chgI hx8_ hc9_ (by omega)),?_⟩
       rw [zbO,if_pos (c:=i.op=1∧i.arg=k) ⟨by omega,by omega⟩];exact o61
     refine zaf (by omega) ?_
     refine ⟨m7-1,by omega,k+1,by omega,_,rfl,hx8_,?_⟩
     rw [zbO,if_neg (c:=i.op=1∧i.arg=k) (fun h=>c6 h.2),List.append_nil];exact (hrow2.ext (Ext.refl w6_)).mono (by omega) (by omega)
   refine zaf (by omega) ?_
   refine ⟨m7-1,by omega,k+1,by omega,_,rfl,hx8_,?_⟩
   rw [zbO,if_neg (c:=i.op=1∧i.arg=k) (fun h=>c5 h.1),List.append_nil];exact (hrow2.ext (Ext.refl w6_)).mono (by omega) (by omega)
 refine ⟨(hx1_.trans (hx2_.trans (hx3_.trans (hx4_.trans hx5_)))),?_⟩
 unfold zc2
 rw [←hi,if_pos hop,←show k=c.globals.length by omega]
 exact hrow.own.own.mono (by omega)
def F168 (a0 a1 a2:Value) (w:World) (R:VW):Prop:=
 oP (Instr.box 28 a0) w fun x3 w=>
 oP (Instr.buildSlice 62 0 #[]) w fun x11 w=>
 rF 28 x3 4 w fun x12=>
 rL 26 x12 w fun x13=>
 rX 26 x13 a1 w fun x15=>
 rL 77 x15 w fun x16=>
 oP (Instr.alloc 77 true (.tuple #[])) w fun x8 w=>
 oS 77 x8 x16 w fun w=>
 JOIN [] (fun J5=>
 rF 77 x8 0 w fun x17=>
 rL 3 x17 w fun x18=>
 rB .neq 3 T0 U0 x18 (iV 1) w fun x19=>
 BR x19
 (rF 77 x8 0 w fun x21=>
 rL 3 x21 w fun x22=>
 rB .neq 3 T0 U0 x22 (iV 2) w fun x23=>
 BR x23
 (R x11 w)
 (J5 [] w))
 (J5 [] w)) (fun u5 w=>
 rF 77 x8 2 w fun x26=>
 rL 75 x26 w fun x27=>
 cL 215 [x27] w fun x28 w=>
 LOOPI [7,10] [x11,(iV 0)] w fun u7 w next7=>
 rF 28 x3 0 w fun x30=>
 rL 24 x30 w fun x31=>
 rN 24 3 x31 w fun x32=>
 rC (u7 10) x32 w fun x33=>
 BR x33
 (JOIN [7] (fun J11=>
 rF 28 x3 0 w fun x37=>
 rL 24 x37 w fun x38=>
 rX 24 x38 (u7 10) w fun x40=>
 rL 9 x40 w fun x41=>
 cL 233 [x28,x41] w fun x42 w=>
 BR x42
 (rD (Instr.build 87 #[(0,a1),(1,(u7 10)),(3,a2)]) w fun x47=>
 oP (Instr.buildSlice 62 1 #[(0,x47)]) w fun x48 w=>
 oP (Builtin.append_ #[62,62] 62 [(u7 7),x48].toArray) w fun x49 w=>
 J11 [x49] w)
 (J11 [(u7 7)] w)) (fun u11 w=>
 rF 77 x8 0 w fun x50=>
 rL 3 x50 w fun x51=>
 rB .eql 3 T0 U0 x51 (iV 1) w fun x52=>
 BR x52
 (rF 77 x8 1 w fun x54=>
 rL 3 x54 w fun x55=>
 rB .eql 3 T0 T0 x55 (u7 10) w fun x57=>
 BR x57
 (rD (Instr.build 87 #[(0,a1),(1,(u7 10)),(2,(Value.bool true)),(3,a2)]) w fun x63=>
 oP (Instr.buildSlice 62 1 #[(0,x63)]) w fun x64 w=>
 oP (Builtin.append_ #[62,62] 62 [(u11 7),x64].toArray) w fun x65 w=>
 rA (u7 10) (iV 1) w fun x35=>
 next7 [x65,x35] w)
 (rA (u7 10) (iV 1) w fun x35=>
 next7 [(u11 7),x35] w))
 (rA (u7 10) (iV 1) w fun x35=>
 next7 [(u11 7),x35] w)))
 (R (u7 7) w))
def cfg168:Cfg:=⟨extL,[(5,66977856,[]),(11,1125831187366016,[7])],[(7,73786976294301336704,[7,10])],[],[],[],[]⟩
theorem F168_call {a0 a1 a2:Value} {w:World} {R:VW} (h:F168 a0 a1 a2 w R):cL 168 [a0,a1,a2] w R:=co (g:=cfg168) Tryz.func168 (by kernel_rfl) (by kernel_rfl) (by kernel_rfl) h
theorem zsv {w:World} {v0:Value} {W0:World} {c:DCode} {a:Int} {held:Int}  (h0:Is W0 v0 c) (e0:Ext W0 w) (hc:CodeR c) (ha:0≤a) (ha2:a<c.ins.length) (hh:I64 held) :
   CALL Tryz.prog 168 [v0,.int .i64 a,.int .i64 held] w fun r w'=>Ext w w'∧(Own w.heap.size w' r (zc2 c a held)):=by
 refine F168_call ?_
 unfold F168
 have hil:=hc.f.ins
 have hg6:c.globals.length≤6:=by have h1:=hc.1.1;simp only [Bool.and_eq_true,decide_eq_true_eq] at h1;omega
 have hs_e0:=e0.size
 refine zaW zbm rfl h0 e0 fun w1_ hx1_ hA3 hV3=>?_
 have hs_hx1_:=hx1_.size
 refine zaP (α:=DTouch) u62 ze3 fun v11 w2_ hx2_ o11=>?_
 have hs_hx2_:=hx2_.size
 refine zaa zaG ?_
 refine zab zcO (zal hA3) hx2_ fun v13 h13=>?_
 refine zb0 u26 zc6 h13 (by omega) (by omega) fun b15 o15 h15=>?_
 rw [zaF] at h15
 obtain ⟨i,hi⟩:∃ i,i=zak c a.toNat:=⟨_,rfl⟩
 rw [←hi] at h15
 refine zab zc6 h15 hx2_ fun v16 h16=>?_
 refine zce zpE rfl zc6 rfl h16 hx2_ fun w3_ hx3_ hA8 hV8=>?_
 have hs_hx3_:=hx3_.size
 have hg8:=hV8.lt
 refine JOIN.mk (fun us w'=>us=[]∧Ext w3_ w'∧(i.op=1∨i.op=2)) ?_ ?_
 · refine zaa zbf ?_
   refine zac ty3 (zay hA8) (Ext.refl w3_) fun hI18=>?_
   refine zaN ?_
   refine br (fun c1=>?_) (fun c1=>?_)
   · refine zaa zbf ?_
     refine zac ty3 (zay hA8) (Ext.refl w3_) fun hI22=>?_
     refine zaN ?_
     refine br (fun c2=>?_) (fun c2=>?_)
     · refine ⟨(hx1_.trans (hx2_.trans hx3_)),?_⟩
       unfold zc2
       rw [←hi,if_neg (by omega)]
       exact (o11.ext hx3_).own.own.mono (by omega)
     refine ⟨by simp,Ext.refl w3_,?_⟩
     omega
   refine ⟨by simp,Ext.refl w3_,?_⟩
   omega
 rintro uj5 w4_ ⟨hu,hx4_,hop⟩
 have hs_hx4_:=hx4_.size
 simp only [List.map_cons,List.map_nil,List.cons.injEq,and_true] at hu
 clear hu
 refine zaa zfn ?_
 refine zab zc5 (zb5 hA8) hx4_ fun v27 h27=>?_
 refine (zdj h27 hx4_).mono ?_
 rintro r28 w5_ ⟨hx5_,h28⟩
 have hs_hx5_:=hx5_.size
 refine zas (c.globals.length) (fun k us w'=>∃ v:Value,us=[v,.int .i64 (k:Int)]∧Ext w5_ w'∧(RowI w5_.heap.size w'.heap.size 87 w' v (zbO c a held i k))) (0) (by omega) ⟨_,rfl,Ext.refl w5_,zcD _ _ _ _ _⟩ ?_
 rintro k m7 uu7 w6_ hk7 ⟨v7,hu,hx6_,hrow⟩
 have hs_hx6_:=hx6_.size
 obtain ⟨hu0,hu1⟩:=zcC hu;clear hu
 try rw [hu0]
 try rw [hu1]
 try clear hu0 hu1
 have hrl:=zfl c a held i k
 refine zaa zdY ?_
 refine zab zcj (zbj hA3) (hx2_.trans (hx3_.trans (hx4_.trans (hx5_.trans hx6_)))) fun v31 h31=>?_
 have hln32:=zan h31
 refine zag u24 h31 ?_
 refine zah ?_
 refine br (fun c3=>?_) (fun c3=>?_)
 · refine JOIN.mk (fun us w'=>∃ v:Value,us=[v]∧Ext w5_ w'∧(RowI w5_.heap.size w'.heap.size 87 w' v (zbO c a held i k++(if c.globals.getD k ByteArray.empty∈zbk i.term then [⟨a,k,false,held⟩] else [])))) ?_ ?_
   · refine zaa zdY ?_
     refine zab zcj (zbj hA3) (hx2_.trans (hx3_.trans (hx4_.trans (hx5_.trans hx6_)))) fun v38 h38=>?_
     refine zad u24 ty9 h38 (by omega) fun b40 o40 h40=>?_
     refine zav ty9 h40 (hx2_.trans (hx3_.trans (hx4_.trans (hx5_.trans hx6_)))) fun hS41=>?_
     have hgk:c.globals[k]'(by omega)=c.globals.getD k ByteArray.empty:=by rw [List.getD_eq_getElem?_getD,List.getElem?_eq_getElem (by omega)];rfl
     refine (ziR h28 hx6_).mono ?_
     rintro _ w8_ ⟨hx8_,rfl⟩
     have hs_hx8_:=hx8_.size
     refine br (fun c4=>?_) (fun c4=>?_)
     · refine zaS (cells:=#[.int .i64 a,.int .i64 (k:Int),.bool false,.int .i64 held]) (by kernel_rfl) ?_
       have o47:OwnI w8_.heap.size w8_.heap.size w8_ (.agg #[.int .i64 a,.int .i64 (k:Int),.bool false,.int .i64 held]) (⟨a,k,false,held⟩:DTouch):=zg6 (x:=⟨a,k,false,held⟩) (by show I64 a;unfold I64;omega) (by show I64 (k:Int);unfold I64;omega) hh
       refine zbV (α:=DTouch) u62 ze3 z87 zug (by decide) (hrow.ext hx8_) (by omega) (o47.ext (Ext.refl w8_)) (by omega) (by omega) (by rw [zap];omega) (by omega) fun v49 w9_ hc9_ o49=>?_
       have hs_hc9_:=hc9_.size
       have o11_c9:=(o11.ext (hx3_.trans (hx4_.trans (hx5_.trans (hx6_.trans hx8_))))).chg hc9_ (by omega)
       have o47_c9:=(o47.ext (Ext.refl w8_)).chg hc9_ (by omega)
       refine ⟨_,rfl,(Ext.chgI (hx6_.trans hx8_) hc9_ (by omega)),?_⟩
       rw [if_pos (by rw [←hgk];exact c4)];exact o49
     refine ⟨_,rfl,(hx6_.trans hx8_),?_⟩
     rw [if_neg (by rw [←hgk];exact c4),List.append_nil];exact (hrow.ext hx8_).mono (by omega) (by omega)
   rintro uj11 w7_ ⟨v11,hu,hx9_,hrow2⟩
   have hs_hx9_:=hx9_.size
   simp only [List.map_cons,List.map_nil,List.cons.injEq,and_true] at hu
   try rw [hu]
   try clear hu
   refine zaa zbf ?_
   refine zac ty3 (zay hA8) (hx4_.trans (hx5_.trans hx9_)) fun hI51=>?_
   refine zai ?_
   refine br (fun c5=>?_) (fun c5=>?_)
   · refine zaa zbu ?_
     refine zac ty3 (zaC hA8) (hx4_.trans (hx5_.trans hx9_)) fun hI55=>?_
     refine zai ?_
     refine br (fun c6=>?_) (fun c6=>?_)
     · refine zaS (cells:=#[.int .i64 a,.int .i64 (k:Int),.bool true,.int .i64 held]) (by kernel_rfl) ?_
       have o63:OwnI w7_.heap.size w7_.heap.size w7_ (.agg #[.int .i64 a,.int .i64 (k:Int),.bool true,.int .i64 held]) (⟨a,k,true,held⟩:DTouch):=zg6 (x:=⟨a,k,true,held⟩) (by show I64 a;unfold I64;omega) (by show I64 (k:Int);unfold I64;omega) hh
       refine zbV (α:=DTouch) u62 ze3 z87 zug (by decide) (hrow2.ext (Ext.refl w7_)) (by omega) (o63.ext (Ext.refl w7_)) (by omega) (by omega) (by rw [zap,List.length_append];split<;>simp<;>omega) (by rw [List.length_append];split<;>simp<;>omega) fun v65 w10_ hc10_ o65=>?_
       have hs_hc10_:=hc10_.size
       have o11_c10:=(o11.ext (hx3_.trans (hx4_.trans (hx5_.trans hx9_)))).chg hc10_ (by omega)
       have o63_c10:=(o63.ext (Ext.refl w7_)).chg hc10_ (by omega)
       refine zaf (by omega) ?_
       refine ⟨m7-1,by omega,k+1,by omega,_,rfl,(Ext.chgI hx9_ hc10_ (by omega)),?_⟩
       rw [zbO,if_pos (c:=i.op=1∧i.arg=k) ⟨by omega,by omega⟩];exact o65
     refine zaf (by omega) ?_
     refine ⟨m7-1,by omega,k+1,by omega,_,rfl,hx9_,?_⟩
     rw [zbO,if_neg (c:=i.op=1∧i.arg=k) (fun h=>c6 h.2),List.append_nil];exact (hrow2.ext (Ext.refl w7_)).mono (by omega) (by omega)
   refine zaf (by omega) ?_
   refine ⟨m7-1,by omega,k+1,by omega,_,rfl,hx9_,?_⟩
   rw [zbO,if_neg (c:=i.op=1∧i.arg=k) (fun h=>c5 h.1),List.append_nil];exact (hrow2.ext (Ext.refl w7_)).mono (by omega) (by omega)
 refine ⟨(hx1_.trans (hx2_.trans (hx3_.trans (hx4_.trans (hx5_.trans hx6_))))),?_⟩
 unfold zc2
 rw [←hi,if_pos hop,←show k=c.globals.length by omega]
 exact hrow.own.own.mono (by omega)
def F164 (a0 a1:Value) (w:World) (R:VW):Prop:=
 oP (Instr.box 87 a0) w fun x2 w=>
 oP (Instr.box 87 a1) w fun x3 w=>
 oP (Instr.alloc 60 true (.tuple #[])) w fun x4 w=>
 rF 87 x2 1 w fun x5=>
 rL 3 x5 w fun x6=>
 rF 87 x2 0 w fun x7=>
 rL 3 x7 w fun x8=>
 rF 87 x3 0 w fun x9=>
 rL 3 x9 w fun x10=>
 rD (Builtin.min_ #[3,3] 3 [x8,x10].toArray) w fun x11=>
 rF 87 x2 0 w fun x12=>
 rL 3 x12 w fun x13=>
 rF 87 x3 0 w fun x14=>
 rL 3 x14 w fun x15=>
 rD (Builtin.max_ #[3,3] 3 [x13,x15].toArray) w fun x16=>
 rD (Instr.build 60 #[(0,x6),(1,x11),(2,x16)]) w fun x17=>
 oS 60 x4 x17 w fun w=>
 rD (za9 60 x4) w fun r4=>R r4 w
def cfg164:Cfg:=⟨extL,[],[],[],[],[],[]⟩
theorem F164_call {a0 a1:Value} {w:World} {R:VW} (h:F164 a0 a1 w R):cL 164 [a0,a1] w R:=co (g:=cfg164) Tryz.func164 (by kernel_rfl) (by kernel_rfl) (by kernel_rfl) h
def F116 (a0:Value) (w:World) (R:VW):Prop:=
 rB .geq 3 T0 U0 a0 (iV 0) w fun x4=>
 BR x4
 (rB .leq 3 T0 U0 a0 (iV 63) w fun x7=>
 R x7 w)
 (R (Value.bool false) w)
def cfg116:Cfg:=⟨extL,[],[],[],[],[],[]⟩
theorem F116_call {a0:Value} {w:World} {R:VW} (h:F116 a0 w R):cL 116 [a0] w R:=co (g:=cfg116) Tryz.func116 (by kernel_rfl) (by kernel_rfl) (by kernel_rfl) h
theorem zoF {w:World} {n:Int}    :
   CALL Tryz.prog 116 [.int .i64 n] w fun r w'=>Ext w w'∧(r=.bool (decide (0≤n∧n≤63))):=by
 refine F116_call ?_
 unfold F116
 refine zck ?_
 refine br (fun c1=>?_) (fun c1=>?_)
 · refine zcT ?_
   refine ⟨Ext.refl w,?_⟩
   simp [c1]
 refine ⟨Ext.refl w,?_⟩
 simp [c1]
def zda (a b:DTouch):Prop:=a.global=b.global∧(a.write=true∨b.write=true)∧(0≤a.held∧a.held≤63)∧(0≤b.held∧b.held≤63)∧a.held.toNat &&& b.held.toNat=0
instance (a b:DTouch):Decidable (zda a b):=by unfold zda;infer_instance
def F126 (a0 a1:Value) (w:World) (R:VW):Prop:=
 oP (Instr.box 87 a0) w fun x2 w=>
 oP (Instr.box 87 a1) w fun x3 w=>
 JOIN [] (fun J3=>
 rF 87 x2 1 w fun x5=>
 rL 3 x5 w fun x6=>
 rF 87 x3 1 w fun x7=>
 rL 3 x7 w fun x8=>
 rB .neq 3 T0 T0 x6 x8 w fun x9=>
 BR x9
 (R (Value.bool false) w)
 (rF 87 x2 2 w fun x11=>
 rL 4 x11 w fun x12=>
 rD (Op.unary .not x12) w fun x13=>
 GBR x13
 (rF 87 x3 2 w fun x15=>
 rL 4 x15 w fun x16=>
 rD (Op.unary .not x16) w fun x17=>
 BR x17
 (R (Value.bool false) w)
 (J3 [] w))
 (J3 [] w)
 (BR undef
 (BR undef
 (R (Value.bool false) w)
 (J3 [] w))
 (J3 [] w)))) (fun u3 w=>
 rF 87 x2 3 w fun x20=>
 rL 3 x20 w fun x21=>
 cL 116 [x21] w fun x22 w=>
 BR x22
 (rF 87 x3 3 w fun x24=>
 rL 3 x24 w fun x25=>
 cL 116 [x25] w fun x26 w=>
 BR x26
 (rF 87 x2 3 w fun x29=>
 rL 3 x29 w fun x30=>
 rF 87 x3 3 w fun x31=>
 rL 3 x31 w fun x32=>
 rB .and 3 T0 T0 x30 x32 w fun x33=>
 rB .eql 3 T0 U0 x33 (iV 0) w fun x34=>
 R x34 w)
 (R (Value.bool false) w))
 (R (Value.bool false) w))
def cfg126:Cfg:=⟨extL,[(3,1048560,[])],[],[],[],[],[]⟩
theorem F126_call {a0 a1:Value} {w:World} {R:VW} (h:F126 a0 a1 w R):cL 126 [a0,a1] w R:=co (g:=cfg126) Tryz.func126 (by kernel_rfl) (by kernel_rfl) (by kernel_rfl) h
theorem zoG {w:World} {v0:Value} {W0:World} {a:DTouch} {v1:Value} {W1:World} {b:DTouch}  (h0:Is W0 v0 a) (e0:Ext W0 w) (h1:Is W1 v1 b) (e1:Ext W1 w)  :
   CALL Tryz.prog 126 [v0,v1] w fun r w'=>Ext w w'∧(r=.bool (decide (zda a b))):=by
 refine F126_call ?_
 unfold F126
 refine zaW ze3 rfl h0 e0 fun w1_ hx1_ hA2 hV2=>?_
 refine zaW ze3 rfl h1 (e1.trans hx1_) fun w2_ hx2_ hA3 hV3=>?_
 refine JOIN.mk (fun us w'=>us=[]∧Ext w2_ w'∧(a.global=b.global∧(a.write=true∨b.write=true))) ?_ ?_
 · refine zaa zhW ?_
   refine zac ty3 (zcp hA2) hx2_ fun hI6=>?_
   refine zaa zhW ?_
   refine zac ty3 (zcp hA3) (Ext.refl w2_) fun hI8=>?_
   refine zaN ?_
   refine br (fun c1=>?_) (fun c1=>?_)
   · refine ⟨(hx1_.trans hx2_),?_⟩
     have:¬zda a b:=fun h=>c1 h.1
     simp only [this,decide_false]
   refine zaa zlS ?_
   refine zaz ty4 (zdX hA2) hx2_ ?_
   refine zaJ ?_
   refine ztj (fun c2=>?_) (fun c2=>?_)
   · refine zaa zlS ?_
     refine zaz ty4 (zdX hA3) (Ext.refl w2_) ?_
     refine zaJ ?_
     refine zbw (fun c3=>?_) (fun c3=>?_)
     · refine ⟨(hx1_.trans hx2_),?_⟩
       have:¬zda a b:=fun h=>by rcases h.2.1 with h | h<;>simp_all
       simp only [this,decide_false]
     refine ⟨by simp,Ext.refl w2_,?_⟩
     exact ⟨by omega,.inr (by simpa using c3)⟩
   refine ⟨by simp,Ext.refl w2_,?_⟩
   exact ⟨by omega,.inl (by simpa using c2)⟩
 rintro uj3 w3_ ⟨hu,hx3_,hgl,hwr⟩
 simp only [List.map_cons,List.map_nil,List.cons.injEq,and_true] at hu
 clear hu
 refine zaa zjQ ?_
 refine zac ty3 (zdb hA2) (hx2_.trans hx3_) fun hI21=>?_
 refine (zoF ).mono ?_
 rintro _ w4_ ⟨hx4_,rfl⟩
 refine br (fun c4=>?_) (fun c4=>?_)
 · refine zaa zjQ ?_
   refine zac ty3 (zdb hA3) (hx3_.trans hx4_) fun hI25=>?_
   refine (zoF ).mono ?_
   rintro _ w5_ ⟨hx5_,rfl⟩
   refine br (fun c5=>?_) (fun c5=>?_)
   · refine zaa zjQ ?_
     refine zac ty3 (zdb hA2) (hx2_.trans (hx3_.trans (hx4_.trans hx5_))) fun hI30=>?_
     refine zaa zjQ ?_
     refine zac ty3 (zdb hA3) (hx3_.trans (hx4_.trans hx5_)) fun hI32=>?_
     obtain ⟨m,hm⟩:=Int.eq_ofNat_of_zero_le c4.1
     obtain ⟨n,hn⟩:=Int.eq_ofNat_of_zero_le c5.1
     rw [hm,hn]
     refine zd7 (by omega) (by omega) ?_
     refine zai ?_
     refine ⟨(hx1_.trans (hx2_.trans (hx3_.trans (hx4_.trans hx5_)))),?_⟩
     have:zda a b↔m &&& n=0:=by
       have e1:a.held.toNat=m:=by omega
       have e2:b.held.toNat=n:=by omega
       unfold zda
       rw [e1,e2]
       exact ⟨fun h=>h.2.2.2.2,fun h=>⟨hgl,hwr,c4,c5,h⟩⟩
     congr 1
     rw [decide_eq_decide,this]
     omega
   refine ⟨(hx1_.trans (hx2_.trans (hx3_.trans (hx4_.trans hx5_)))),?_⟩
   have:¬zda a b:=fun h=>c5 h.2.2.2.1
   simp only [this,decide_false]
 refine ⟨(hx1_.trans (hx2_.trans (hx3_.trans hx4_))),?_⟩
 have:¬zda a b:=fun h=>c4 h.2.2.1
 simp only [this,decide_false]
def zd9 (a b:DTouch):DRace:=⟨a.global,min a.at_ b.at_,max a.at_ b.at_⟩
theorem zri {w W0 W1:World} {v0 v1:Value} {a b:DTouch} (h0:Is W0 v0 a) (e0:Ext W0 w) (h1:Is W1 v1 b) (e1:Ext W1 w) :
   CALL Tryz.prog 164 [v0,v1] w fun r w'=>Ext w w'∧∀ lo hi,OwnI lo hi w' r (zd9 a b):=by
 refine F164_call ?_
 unfold F164
 refine zaV h0 e0 fun w1 hx1 hA=>?_
 refine zaV h1 (e1.trans hx1) fun w2 hx2 hB=>?_
 refine zkx (α:=DRace) zvc fun w3 hx3 hv=>?_
 have hs1:=hx1.size
 have hs2:=hx2.size
 have hs3:=hx3.size
 have hx23:=hx2.trans hx3
 refine zaa zhW ?_
 refine zac ty3 (zcp hA) hx23 fun hI6=>?_
 refine zaa zdZ ?_
 refine zac ty3 (za7 hA) hx23 fun hI8=>?_
 refine zaa zdZ ?_
 refine zac ty3 (za7 hB) hx3 fun hI10=>?_
 refine zuD ?_
 refine zaa zdZ ?_
 refine zac ty3 (za7 hA) hx23 fun _=>?_
 refine zaa zdZ ?_
 refine zac ty3 (za7 hB) hx3 fun _=>?_
 refine zuC ?_
 have hm:∀ (w:World) lo hi,OwnI lo hi w (.agg #[.int .i64 a.global,.int .i64 (min a.at_ b.at_),.int .i64 (max a.at_ b.at_)]) (zd9 a b):=fun w lo hi=>⟨[],zpX (x:=zd9 a b) hI6 (by unfold I64 zd9 at *;simp only;omega) (by unfold I64 zd9 at *;simp only;omega),by simp⟩
 refine zaS (cells:=#[.int .i64 a.global,.int .i64 (min a.at_ b.at_),.int .i64 (max a.at_ b.at_)]) (by kernel_rfl) ?_
 have hg:=hv.lt
 refine zb1 (lo:=w3.heap.size) (hi:=w3.heap.size) zcG hv (hm w3 _ _) (by omega) fun w4 hc4 hv4=>?_
 have hs4:=hc4.size
 refine zcf zcG hv4 (Ext.refl _) fun r hr=>?_
 refine ⟨Ext.chgI (hx1.trans hx23) hc4 (by omega),fun lo hi=>?_⟩
 obtain ⟨F,hM,_⟩:=hr
 obtain ⟨cs,h,_⟩:=hM.own
 have hF:=Flat.flat h
 subst hF
 exact ⟨[],hM,by simp⟩
instance (x y:DRace):Decidable (ltR x y):=by unfold ltR;infer_instance
def F44 (a0 a1:Value) (w:World) (R:VW):Prop:=
 oP (Instr.box 60 a0) w fun x2 w=>
 oP (Instr.box 60 a1) w fun x3 w=>
 rF 60 x2 0 w fun x5=>
 rL 3 x5 w fun x6=>
 rF 60 x3 0 w fun x7=>
 rL 3 x7 w fun x8=>
 rB .neq 3 T0 T0 x6 x8 w fun x9=>
 BR x9
 (rF 60 x2 0 w fun x10=>
 rL 3 x10 w fun x11=>
 rF 60 x3 0 w fun x12=>
 rL 3 x12 w fun x13=>
 rC x11 x13 w fun x14=>
 R x14 w)
 (rF 60 x2 1 w fun x15=>
 rL 3 x15 w fun x16=>
 rF 60 x3 1 w fun x17=>
 rL 3 x17 w fun x18=>
 rB .neq 3 T0 T0 x16 x18 w fun x19=>
 BR x19
 (rF 60 x2 1 w fun x20=>
 rL 3 x20 w fun x21=>
 rF 60 x3 1 w fun x22=>
 rL 3 x22 w fun x23=>
 rC x21 x23 w fun x24=>
 R x24 w)
 (rF 60 x2 2 w fun x25=>
 rL 3 x25 w fun x26=>
 rF 60 x3 2 w fun x27=>
 rL 3 x27 w fun x28=>
 rC x26 x28 w fun x29=>
 R x29 w))
def cfg44:Cfg:=⟨extL,[],[],[],[],[],[]⟩
theorem F44_call {a0 a1:Value} {w:World} {R:VW} (h:F44 a0 a1 w R):cL 44 [a0,a1] w R:=co (g:=cfg44) Tryz.func44 (by kernel_rfl) (by kernel_rfl) (by kernel_rfl) h
theorem znC {w:World} {v0:Value} {W0:World} {x:DRace} {v1:Value} {W1:World} {y:DRace}  (h0:Is W0 v0 x) (e0:Ext W0 w) (h1:Is W1 v1 y) (e1:Ext W1 w)  :
   CALL Tryz.prog 44 [v0,v1] w fun r w'=>Ext w w'∧(r=.bool (decide (ltR x y))):=by
 refine F44_call ?_
 unfold F44
 refine zaW zcG rfl h0 e0 fun w1_ hx1_ hA2 hV2=>?_
 refine zaW zcG rfl h1 (e1.trans hx1_) fun w2_ hx2_ hA3 hV3=>?_
 refine zaa zhU ?_
 refine zac ty3 (zdQ hA2) hx2_ fun hI6=>?_
 refine zaa zhU ?_
 refine zac ty3 (zdQ hA3) (Ext.refl w2_) fun hI8=>?_
 refine zaN ?_
 refine br (fun c1=>?_) (fun c1=>?_)
 · refine zaa zhU ?_
   refine zac ty3 (zdQ hA2) hx2_ fun hI11=>?_
   refine zaa zhU ?_
   refine zac ty3 (zdQ hA3) (Ext.refl w2_) fun hI13=>?_
   refine zah ?_
   refine ⟨(hx1_.trans hx2_),?_⟩
   congr 1
   rw [decide_eq_decide]
   unfold ltR
   omega
 refine zaa ziH ?_
 refine zac ty3 (zez hA2) hx2_ fun hI16=>?_
 refine zaa ziH ?_
 refine zac ty3 (zez hA3) (Ext.refl w2_) fun hI18=>?_
 refine zaN ?_
 refine br (fun c2=>?_) (fun c2=>?_)
 · refine zaa ziH ?_
   refine zac ty3 (zez hA2) hx2_ fun hI21=>?_
   refine zaa ziH ?_
   refine zac ty3 (zez hA3) (Ext.refl w2_) fun hI23=>?_
   refine zah ?_
   refine ⟨(hx1_.trans hx2_),?_⟩
   congr 1
   rw [decide_eq_decide]
   unfold ltR
   omega
 refine zaa zlR ?_
 refine zac ty3 (zhh hA2) hx2_ fun hI26=>?_
 refine zaa zlR ?_
 refine zac ty3 (zhh hA3) (Ext.refl w2_) fun hI28=>?_
 refine zah ?_
 refine ⟨(hx1_.trans hx2_),?_⟩
 congr 1
 rw [decide_eq_decide]
 unfold ltR
 omega
theorem zdV (x:DRace):¬ltR x x:=by unfold ltR;omega
theorem zg7 {x y z:DRace} (h:ltR x y) (k:ltR y z):ltR x z:=by unfold ltR at *;omega
theorem zjt {x y:DRace} (h:¬ltR x y) (k:¬ltR y x):x=y:=by
 unfold ltR at *
 exact DRace.ext_iff.2 ⟨by omega,by omega,by omega⟩
def zj8 (r:DRace):List DRace→List DRace
 | []=>[r]
 | x :: l=>if ltR x r then x :: zj8 r l else if x=r then x :: l else r :: x :: l
def ahd (r:DRace):List DRace→Nat
 | []=>0
 | x :: l=>if ltR x r then ahd r l+1 else 0
theorem zoH (r:DRace):∀ l,zj8 r l=if h:ahd r l<l.length then (if l[ahd r l]=r then l else l.take (ahd r l)++(r :: l.drop (ahd r l))) else l++[r]
 | []=>rfl
 | x :: l=>by
   rw [zj8]
   by_cases h:ltR x r
   · have e:ahd r (x :: l)=ahd r l+1:=by rw [ahd,if_pos h]
     rw [if_pos h,zoH r l]
     by_cases h2:ahd r l<l.length
     · rw [dif_pos h2,dif_pos (by rw [e];simpa using h2)]
       have e2:(x :: l)[ahd r (x :: l)]'(by rw [e];simpa using h2)=l[ahd r l]:=by simp [e]
       rw [e2]
       split
       · rfl
       simp [e]
     rw [dif_neg h2,dif_neg (by rw [e];simpa using h2)];rfl
   have e:ahd r (x :: l)=0:=by rw [ahd,if_neg h]
   rw [if_neg h,dif_pos (by rw [e];simp)]
   have e2:(x :: l)[ahd r (x :: l)]'(by rw [e];simp)=x:=by simp [e]
   rw [e2]
   split
   · rfl
   simp [e]
theorem zrj {r:DRace}:∀ {l:List DRace} {k:Nat} (hk:k≤l.length),(∀ j (h:j<k),ltR (l[j]'(by omega)) r)→(∀ h:k<l.length,¬ltR l[k] r)→ahd r l=k
 | [],0,_,_,_=>rfl
 | x :: l,0,_,_,h=>by
   have h':¬ltR x r:=h (by simp)
   rw [ahd,if_neg h']
 | x :: l,k+1,hk,h1,h2=>by
   have e:ltR x r:=h1 0 (by omega)
   rw [ahd,if_pos e,zrj (k:=k) (by simpa using hk) (fun j hj=>h1 (j+1) (by omega)) fun h=>h2 (by simpa using h)]
theorem zlp {r x:DRace}:∀ {l:List DRace},x∈zj8 r l↔x=r∨x∈l
 | []=>by simp [zj8]
 | y :: l=>by
   rw [zj8]
   split
   · rw [List.mem_cons,zlp,List.mem_cons];exact ⟨fun h=>by rcases h with h | h | h<;>simp [h],fun h=>by rcases h with h | h | h<;>simp [h]⟩
   split
   · rename_i h;subst h;simp
   simp
theorem zju {r:DRace}:∀ {l:List DRace},l.Pairwise ltR→(zj8 r l).Pairwise ltR
 | [],_=>by simp [zj8]
 | y :: l,h=>by
   rw [List.pairwise_cons] at h
   rw [zj8]
   split
   · rename_i hy
     refine List.pairwise_cons.2 ⟨fun z hz=>?_,zju h.2⟩
     rcases zlp.1 hz with rfl | hz
     · exact hy
     exact h.1 z hz
   rename_i hy
   split
   · exact List.pairwise_cons.2 h
   rename_i hne
   have hry:ltR r y:=Decidable.byContradiction fun hc=>hne (zjt hy hc)
   refine List.pairwise_cons.2 ⟨fun z hz=>?_,List.pairwise_cons.2 h⟩
   rcases List.mem_cons.1 hz with rfl | hz
   · exact hry
   exact zg7 hry (h.1 z hz)
theorem zj9:∀ {l m:List DRace},l.Pairwise ltR→m.Pairwise ltR→(∀ x,x∈l↔x∈m)→l=m
 | [],[],_,_,_=>rfl
 | [],y :: m,_,_,h=>by have:=(h y).2 (by simp);cases this
 | x :: l,[],_,_,h=>by have:=(h x).1 (by simp);cases this
 | x :: l,y :: m,h1,h2,h=>by
   rw [List.pairwise_cons] at h1 h2
   have hxy:x=y:=by
     rcases List.mem_cons.1 ((h x).1 (by simp)) with e | hm
     · exact e
     rcases List.mem_cons.1 ((h y).2 (by simp)) with e | hl
     · exact e.symm
     exact absurd (zg7 (h1.1 y hl) (h2.1 x hm)) (zdV x)
   subst hxy
   congr 1
   refine zj9 h1.2 h2.2 fun z=>⟨fun hz=>?_,fun hz=>?_⟩
   · rcases List.mem_cons.1 ((h z).1 (by simp [hz])) with rfl | h'
     · exact absurd (h1.1 z hz) (zdV z)
     exact h'
   rcases List.mem_cons.1 ((h z).2 (by simp [hz])) with rfl | h'
   · exact absurd (h2.1 z hz) (zdV z)
   exact h'
end Go.Proofs.YtbnjpfjjmhodnaaGreat
namespace Go.Proofs.YtbnjpfjjmhodnaaGreat
open Go Go.Sh Go.Proofs Go.Sort
open Rep (rep)
instance:Inhabited DRace:=⟨⟨0,0,0⟩⟩
def zuk (x:DRace):List Value:=[.int .i64 x.g,.int .i64 x.a,.int .i64 x.b]
theorem zsw:∀ {F:List Nat} {w:World} {cs:List Value} {x:DRace},Rep.rep F w cs x→cs=zuk x:=by
 intro F w cs x h
 obtain ⟨F1,F2,c1,c2,rfl,rfl,⟨rfl,rfl,_⟩,⟨F3,F4,c3,c4,rfl,rfl,⟨rfl,rfl,_⟩,⟨rfl,rfl,_⟩⟩⟩:=h
 rfl
theorem zea {x y:DRace}:ltOf zsu x y=decide (ltR x y):=by
 unfold ltOf
 rw [decide_eq_decide]
 exact zrh
theorem ztW:SWO (ltOf zsu):=by
 refine ⟨fun x=>?_,fun x y z h k=>?_,fun x y z h k=>?_⟩
 · rw [zea,decide_eq_false_iff_not];exact zdV x
 · rw [zea,decide_eq_true_eq] at *;exact zg7 h k
 rw [zea,decide_eq_false_iff_not] at *
 intro hc
 unfold ltR at *
 omega
def srt (l:List DRace):List DRace:=l.mergeSort fun x y=>!(ltOf zsu) y x
theorem zoI (l:List DRace):(srt l).Perm l:=List.mergeSort_perm l _
theorem zrk (l:List DRace):(srt l).length=l.length:=(zoI l).length_eq
theorem zuV (l:List DRace):(srt l).Pairwise fun x y=>¬ltR y x:=by
 have:=List.pairwise_mergeSort (le:=fun x y=>!(ltOf zsu) y x) (fun a b c h1 h2=>by
   simp only [zea,Bool.not_eq_true',decide_eq_false_iff_not] at *
   unfold ltR at *;omega) (fun a b=>by
   simp only [zea,Bool.or_eq_true,Bool.not_eq_true',decide_eq_false_iff_not]
   unfold ltR;omega) l
 exact this.imp fun h=>by simpa [zea] using h
theorem zsx {w:World} {lo hi:Nat} {v:Value} {l:List DRace} (h:OwnI lo hi w v l) (hn:l.length≤1073741824) :
   CALL Tryz.prog 229 [v,.func (.func 128) #[] #[]] w fun r w'=>ChgI lo hi w w'∧OwnI lo hi w' v (srt l):=by
 obtain ⟨F,hM,hF⟩:=h
 by_cases hne:l=[]
 · subst hne
   obtain ⟨a,cap,hv⟩:∃ a cap,v=.slice a 0 cap:=by
     obtain ⟨cs,⟨a,cap,G,xs,h,_⟩,hv⟩:=hM.own
     exact ⟨a,cap,by rw [hv,h];rfl⟩
   subst hv
   refine ⟨(AnyF.slices_SortFunc_none Tryz.sortRace a cap _ w).mono ?_⟩
   rintro e w' ⟨he,rfl⟩
   refine ⟨_,he,ChgI.refl _,F,?_,hF⟩
   have:srt []=[]:=List.eq_nil_of_length_eq_zero (by rw [zrk];rfl)
   rw [this];exact hM
 obtain ⟨b,o,cap,xs,rfl,rfl,h1,h2,hcc,hrr,hww⟩:=zeN hM hne
 have henc:=@zsw
 have hk:∀ x,(zuk x).length=Rep.size DRace:=fun _=>rfl
 obtain ⟨c,e,hbe⟩:=hww
 have hb:b<w.heap.size:=(Array.getElem?_eq_some_iff.1 hbe).1
 have hcmp:CmpLays Tryz.prog 128 #[] zuk 3 zsu b o l.toArray.size w:=fun m os dk _ x y=>by
   have:=zfL (w:=sortWorldK zuk 3 w b o m dk os) (x:=x) (y:=y)
   obtain ⟨h⟩:=this
   refine h.mono ?_
   rintro e w' ⟨v,he,hv,q,os',hw'⟩
   exact ⟨by rw [he,hv],q,os',hw'⟩
 refine ⟨(AnyQ.slices_SortFunc_total Tryz.sortRace 3 Tryz.isAgg60 Tryz.sizeOf60 zuk (fun _=>rfl) (fun x v hv=>by
     simp only [zuk,List.mem_cons,List.not_mem_nil,or_false] at hv
     rcases hv with rfl | rfl | rfl<;>rfl) zsu ztW 128 #[] b o cap l.toArray w (zft (ent 128 (by decide) (by kernel_rfl))) hcmp (zmj henc hk ⟨c,e,hbe⟩ hcc hrr) hb (by simp;omega) (fun x y h k=>by
     rw [zea,decide_eq_false_iff_not] at *;exact zjt h k)).mono ?_⟩
 rintro ex w' ⟨he,n,os,hw'⟩
 have hs:=zne henc hk (cap:=cap) hw' ⟨c,e,hbe⟩ hcc hrr h1 h2 (by simp) (fun x hx=>by simpa [List.mem_mergeSort] using hx)
 refine ⟨_,he,?_,[b],?_,hF⟩
 · exact hs.1.toI (fun i hi=>hF i hi)
 exact hs.2
def F169 (a0 a1:Value) (w:World) (R:VW):Prop:=
 oP (Instr.box 60 a1) w fun x3 w=>
 JOIN [5] (fun J4=>
 LOOPI [5] [(iV 0)] w fun u2 w next2=>
 (fun w=>rN 57 3 a0 w fun x9=>
 rC (u2 5) x9 w fun x10=>
 BR x10
 (rX 57 a0 (u2 5) w fun x14=>
 rL 60 x14 w fun x15=>
 rL 60 x3 w fun x16=>
 cL 44 [x15,x16] w fun x17 w=>
 BR x17
 (rA (u2 5) (iV 1) w fun x20=>
 next2 [x20] w)
 (J4 [(u2 5)] w))
 (J4 [(u2 5)] w)) (World.drew1 w)) (fun u4 w=>
 JOIN [] (fun J6=>
 (fun w=>rN 57 3 a0 w fun x23=>
 rC (u4 5) x23 w fun x24=>
 BR x24
 (rX 57 a0 (u4 5) w fun x28=>
 rL 60 x28 w fun x29=>
 rL 60 x3 w fun x30=>
 rB .eql 60 T0 T0 x29 x30 w fun x31=>
 BR x31
 (R a0 w)
 (J6 [] w))
 (J6 [] w)) (World.drew1 w)) (fun u6 w=>
 oP (Instr.buildSlice 57 0 #[]) w fun x34 w=>
 rD (Instr.sliceAt 57 a0 none (some (u4 5)) none) w fun x37=>
 oP (Builtin.append_ #[57,57] 57 [x34,x37].toArray) w fun x38 w=>
 rL 60 x3 w fun x40=>
 oP (Instr.buildSlice 57 1 #[(0,x40)]) w fun x41 w=>
 oP (Builtin.append_ #[57,57] 57 [x38,x41].toArray) w fun x42 w=>
 rD (Instr.sliceAt 57 a0 (some (u4 5)) none none) w fun x46=>
 oP (Builtin.append_ #[57,57] 57 [x42,x46].toArray) w fun x47 w=>
 R x47 w))
def cfg169:Cfg:=⟨extL,[(4,2097056,[5]),(6,17177772048,[])],[(2,2097056,[5])],[(2,[0,1,2,3,4,5,6,7,8,9,10,11],0),(4,[0,1,2,3,4,5,6,7,8,9,10,11],0)],[],[],[]⟩
theorem F169_call {a0 a1:Value} {w:World} {R:VW} (h:F169 a0 a1 w R):cL 169 [a0,a1] w R:=co (g:=cfg169) Tryz.func169 (by kernel_rfl) (by kernel_rfl) (by kernel_rfl) h
theorem zir {α:Type} [Rep α] [Flat α] {w:World} {lo hi:Nat} {v:Value} {x:α} (h:Is w v x):OwnI lo hi w v x:=by
 obtain ⟨F,cs,hr,hv⟩:=h
 have hF:=Flat.flat hr
 subst hF
 exact ⟨[],⟨⟨cs,hr,hv⟩,List.nodup_nil,Wr.nil w⟩,by simp⟩
def F165 (a0:Value) (w:World) (R:VW):Prop:=
 cL 228 [a0] w fun x5 w=>
 cL 229 [x5,(Value.func (.func 128) #[] #[])] w fun x7 w=>
 cL 231 [x5] w fun x9 w=>
 cL 230 [x9] w fun x10 w=>
 R x10 w
def cfg165:Cfg:=⟨extL,[],[],[],[],[],[]⟩
theorem F165_call {a0:Value} {w:World} {R:VW} (h:F165 a0 w R):cL 165 [a0] w R:=co (g:=cfg165) Tryz.func165 (by kernel_rfl) (by kernel_rfl) (by kernel_rfl) h
theorem znD {z:DRace}:∀ {l:List DRace} {x:DRace},z∈x :: ddg x l↔z∈x :: l
 | [],x=>Iff.rfl
 | y :: l,x=>by
   rw [ddg]
   split
   · rename_i h
     subst h
     rw [znD (l:=l)]
     simp
   rw [List.mem_cons,znD (l:=l),List.mem_cons (a:=z) (b:=x)]
theorem zrl:∀ {l:List DRace} {x:DRace},(x :: l).Pairwise (fun a b=>¬ltR b a)→(x :: ddg x l).Pairwise ltR
 | [],x,_=>by simp [ddg]
 | y :: l,x,h=>by
   rw [ddg]
   rw [List.pairwise_cons] at h
   have hy:=h.2
   rw [List.pairwise_cons] at hy
   split
   · rename_i e
     subst e
     exact zrl h.2
   rename_i hne
   have ih:=zrl h.2
   have hxy:ltR x y:=Decidable.byContradiction fun hc=>hne (zjt (h.1 y (by simp)) hc)
   refine List.pairwise_cons.2 ⟨fun z hz=>?_,ih⟩
   rcases List.mem_cons.1 hz with rfl | hz
   · exact hxy
   exact zg7 hxy ((List.pairwise_cons.1 ih).1 z hz)
theorem ztX {l:List DRace} {z:DRace}:z∈ddp l↔z∈l:=by
 cases l with
 | nil=>exact Iff.rfl
 | cons x l=>exact znD
theorem zuW {l:List DRace} (h:l.Pairwise (fun a b=>¬ltR b a)):(ddp l).Pairwise ltR:=by
 cases l with
 | nil=>exact List.Pairwise.nil
 | cons x l=>exact zrl h
def zfq (l:List DRace):List DRace:=l.foldl (fun acc r=>zj8 r acc) []
theorem zpt (l:List DRace) (r:DRace):zfq (l++[r])=zj8 r (zfq l):=by simp [zfq]
theorem zka {x:DRace}:∀ {l acc:List DRace},x∈l.foldl (fun acc r=>zj8 r acc) acc↔x∈acc∨x∈l
 | [],acc=>by simp
 | y :: l,acc=>by
   rw [List.foldl_cons,zka,zlp,List.mem_cons]
   constructor
   · rintro ((h | h) | h)<;>simp [h]
   rintro (h | h | h)<;>simp [h]
theorem zmv {x:DRace} {l:List DRace}:x∈zfq l↔x∈l:=by unfold zfq;rw [zka];simp
theorem zmw:∀ {l acc:List DRace},acc.Pairwise ltR→(l.foldl (fun acc r=>zj8 r acc) acc).Pairwise ltR
 | [],acc,h=>h
 | y :: l,acc,h=>by
   rw [List.foldl_cons]
   exact zmw (zju h)
theorem zoJ (l:List DRace):(zfq l).Pairwise ltR:=zmw List.Pairwise.nil
theorem zoK (r:DRace):∀ l:List DRace,(zj8 r l).length≤l.length+1
 | []=>by simp [zj8]
 | x :: l=>by
   have:=zoK r l
   rw [zj8]
   split
   · simpa using this
   split<;>simp
theorem zkb:∀ (l acc:List DRace),(l.foldl (fun acc r=>zj8 r acc) acc).length≤acc.length+l.length
 | [],acc=>by simp
 | y :: l,acc=>by
   have h1:=zkb l (zj8 y acc)
   have h2:=zoK y acc
   rw [List.foldl_cons,List.length_cons];omega
theorem zmx (l:List DRace):(zfq l).length≤l.length:=by have:=zkb l [];simpa [zfq] using this
theorem ztY (l:List DRace):ddp (srt l)=zfq l:=zj9 (zuW (zuV l)) (zoJ l) fun x=>by rw [ztX,zmv,(zoI l).mem_iff]
def clR (a b:DTouch):List DRace:=if zda a b then [zd9 a b] else []
def gB (a:DTouch) (bs:List DTouch):List DRace:=bs.flatMap (clR a)
def gL (Ls:List (List DTouch)) (a:DTouch):List DRace:=Ls.flatMap (gB a)
def gA (Ls:List (List DTouch)) (xs:List DTouch):List DRace:=xs.flatMap (gL Ls)
def zvG (T:Nat→List DTouch) (t:Nat):List (List DTouch):=(List.range t).map T
def gT (T:Nat→List DTouch) (n:Nat):List DRace:=(List.range n).flatMap fun t=>gA (zvG T t) (T t)
def hA (bs xs:List DTouch):List DRace:=xs.flatMap fun a=>gB a bs
def hU (T:Nat→List DTouch) (xs:List DTouch) (t:Nat):List DRace:=(List.range t).flatMap fun u=>hA (T u) xs
def hT (T:Nat→List DTouch) (n:Nat):List DRace:=(List.range n).flatMap fun t=>hU T (T t) t
theorem zep {α β:Type} {f:α→List β} {l:List α} {k:Nat} (h:k<l.length):(l.take (k+1)).flatMap f=(l.take k).flatMap f++f l[k]:=by
 rw [List.take_succ_eq_append_getElem h,List.flatMap_append];simp
def tA (c:DCode) (s:DState) (t:Nat):List DTouch:=if 0≤zuz s t then zc2 c (zuz s t) 0 else []
theorem zkc {c:DCode} {a held:Int} {i:DIns} {x:DTouch}:∀ {k:Nat},x∈zbO c a held i k→x.at_=a∧x.held=held
 | 0,h=>by simp [zbO] at h
 | k+1,h=>by
   rw [zbO,List.mem_append,List.mem_append] at h
   rcases h with (h | h) | h
   · exact zkc h
   · split at h
     · simp only [List.mem_cons,List.not_mem_nil,or_false] at h;subst h;exact ⟨rfl,rfl⟩
     simp at h
   split at h
   · simp only [List.mem_cons,List.not_mem_nil,or_false] at h;subst h;exact ⟨rfl,rfl⟩
   simp at h
theorem zeU {c:DCode} {a held:Int} {x:DTouch} (h:x∈zc2 c a held):x.at_=a∧x.held=held:=by
 unfold zc2 at h
 split at h
 · exact zkc h
 simp at h
def zvm (c:DCode) (s:DState):List DRace:=zfq (gT (tA c s) s.stacks.length)
theorem MayP.locks {c:DCode} (hc:CodeR c) {i l:Nat} (h:MayP c i l):l<c.locks.length:=by
 induction h with
 | lock hm ho ha hj=>subst ha;exact (zfi hc (hm.lt hc) (.inl ho)).2.1
 | pass _ _ _ _ _ ih=>exact ih
 | call _ _ _ ih=>exact ih
 | back _ _ _ _ _ ih=>exact ih
open Classical in
open Classical in
structure DArc where
 fr:Int
 to:Int
theorem DArc.ext_iff {x y:DArc}:x=y↔(x.fr=y.fr∧x.to=y.to):=⟨fun h=>by rw [h];exact ⟨rfl,rfl⟩,fun h=>by obtain ⟨h0,h1⟩:=h;cases x;cases y;simp only at h0 h1;simp only [h0,h1]⟩
instance:DecidableEq DArc:=fun x y=>decidable_of_iff (x.fr=y.fr∧x.to=y.to) DArc.ext_iff.symm
instance:Rep DArc:=Rep.via fun x=>(x.fr,x.to)
instance:RepZ DArc:=⟨⟨(RepZ.zv:Int),(RepZ.zv:Int)⟩,RepZ.zc (Int×Int),fun w=>RepZ.zr (α:=Int×Int) w⟩
instance:Flat DArc:=⟨fun h=>Flat.flat (α:=Int×Int) h⟩
end Go.Proofs.YtbnjpfjjmhodnaaGreat
namespace Go.Proofs.YtbnjpfjjmhodnaaGreat
open Go Go.Sh Go.Proofs Go.Sort
open Rep (rep)
def hd0 (l:List Int):Int:=l.headD 0
structure HW (w1 w:World) (gm go g ga n:Nat) (vm:Value) (out:List Nat) (ag:Bool):Prop where
 ext:Ext w1 w
 met:Blk gm 135 w [vm]
 var:Blk go 25 w [.slice (some ⟨g,0,none⟩) n n]
 mine:Mine [g] w (.slice (some ⟨g,0,none⟩) n n) (zaI out)
 agn:Blk ga 4 w [.bool ag]
 n0:gm≠g
 n01:gm≠ga
 n1:go≠g
 n2:go≠ga
 n3:g≠ga
 g0:w1.heap.size≤g
 g1:w1.heap.size≤go
 g2:w1.heap.size≤ga
section
variable {w1 w w':World} {gm go g ga n:Nat} {vm:Value} {out:List Nat} {ag:Bool}
theorem HW.set {i v:Nat} (h:HW w1 w gm go g ga n vm out ag) (hc:Chg [g] w w') (hm:Mine [g] w' (.slice (some ⟨g,0,none⟩) n n) ((zaI out).set i (v:Int))):HW w1 w' gm go g ga n vm (out.set i v) ag:=
 ⟨h.ext.chgF hc (by simp [h.g0]),h.met.chgF hc (by simp [h.n0]),h.var.chgF hc (by simp [h.n1]),by rw [zfh];exact hm,h.agn.chgF hc (by simp [Ne.symm h.n3]),h.n0,h.n01,h.n1,h.n2,h.n3,h.g0,h.g1,h.g2⟩
theorem HW.cell {ga':Nat} {ag':Bool} (h:HW w1 w gm go g ga n vm out ag) (hx:Ext w w') (hB:Blk ga' 4 w' [.bool ag']) (hg:w.heap.size≤ga'):HW w1 w' gm go g ga' n vm out ag':=
 ⟨h.ext.trans hx,h.met.ext hx,h.var.ext hx,h.mine.ext hx,hB,h.n0,by have:=h.met.lt;omega,h.n1,by have:=h.var.lt;omega,by have:=h.mine.lt g (by simp);omega,h.g0,h.g1,by have:=h.ext.size;omega⟩
end
def CR (c:DCode) (out0:List Nat) (k h0 m:Nat) (ag:Bool):Prop:=ag=false→h0=zaw out0 k∧((zak c k).op=4→m=zaw out0 (zN c (agN c k)))∧(¬(zak c k).op=4→m=aft c [] k (zaw out0 k))
theorem HP.close {c:DCode} {out0 out:List Nat} {ag:Bool} {k h0 m:Nat} (hP:HP c out0 ag out k) (hC:CR c out0 k h0 m ag) (h1:(zak c k).op=4→zjz h0 (zaw out (eN c (agN c k)))) (h2:∀ j∈zax c k,MetP c j→zjz m (zaw out j)):HP c out0 ag out (k+1):=
 hP.next fun e hk=>by
   obtain ⟨c1,c2,c3⟩:=hC e
   have ho:=(hP.no e).1
   rw [←ho] at c1 c2 c3
   refine ⟨fun h4=>⟨c1▸h1 h4,fun hz j hj=>?_⟩,fun h4 j hj=>?_⟩
   · rw [←c2 h4];exact h2 j hj (.back hk h4 hz hj)
   rw [←c3 h4];exact h2 j hj (.next hk h4 hj)
end Go.Proofs.YtbnjpfjjmhodnaaGreat
namespace Go.Sh
open Rep (rep)
theorem zeV {α:Type} [Rep α] {w:World} {g e o:Nat} {cs:List Value} {v:Value} {l:List α} (hB:Blk g e w cs) (ho:cs[o]?=some v) (h:Is w v l):At w g o l:=by
 obtain ⟨F,xs,hr,rfl⟩:=h
 have hr':=hr
 obtain ⟨a,cap,Fi,ys,rfl,h⟩:=hr
 refine ⟨F,_,hr',fun i u hi=>?_⟩
 have:i=0:=by
   cases i with
   | zero=>rfl
   | succ i=>simp at hi
 subst this
 simp only [List.getElem?_cons_zero,Option.some.injEq] at hi
 subst hi
 have:=hB.range o _ ho
 rw [Nat.zero_add] at this
 exact this
end Go.Sh
namespace Go.Proofs.YtbnjpfjjmhodnaaGreat
open Go Go.Sh Go.Proofs
open Rep (rep)
def F242 (a0 a1 a2:Value) (w:World) (R:VW):Prop:=
 (fun w=>NIL a0 <|
 rF 188 a0 1 w fun x8=>
 rL 135 x8 w fun x9=>
 rX 135 x9 a1 w fun x11=>
 rL 4 x11 w fun x12=>
 rD (Op.unary .not x12) w fun x13=>
 BR x13
 (NIL a0 <|
 rF 188 a0 1 w fun x35=>
 rL 135 x35 w fun x36=>
 rX 135 x36 a1 w fun x38=>
 oS 4 x38 (Value.bool true) w fun w=>
 (fun w=>NIL a0 <|
 rF 188 a0 2 w fun x41=>
 rL 25 x41 w fun x42=>
 NIL a0 <|
 rF 188 a0 2 w fun x46=>
 rL 25 x46 w fun x47=>
 rX 25 x47 a1 w fun x49=>
 rL 3 x49 w fun x50=>
 rB .or 3 T0 T0 x50 a2 w fun x52=>
 rX 25 x42 a1 w fun x53=>
 oS 3 x53 x52 w fun w=>
 NIL a0 <|
 rF 188 a0 3 w fun x56=>
 oS 4 x56 (Value.bool true) w fun w=>
 R (Value.tuple #[]) w) (World.drew1 w))
 (NIL a0 <|
 rF 188 a0 2 w fun x17=>
 rL 25 x17 w fun x18=>
 rX 25 x18 a1 w fun x20=>
 rL 3 x20 w fun x21=>
 rB .or 3 T0 T0 x21 a2 w fun x23=>
 NIL a0 <|
 rF 188 a0 2 w fun x26=>
 rL 25 x26 w fun x27=>
 rX 25 x27 a1 w fun x29=>
 rL 3 x29 w fun x30=>
 rB .neq 3 T0 T0 x23 x30 w fun x31=>
 BR x31
 (NIL a0 <|
 rF 188 a0 1 w fun x35=>
 rL 135 x35 w fun x36=>
 rX 135 x36 a1 w fun x38=>
 oS 4 x38 (Value.bool true) w fun w=>
 (fun w=>NIL a0 <|
 rF 188 a0 2 w fun x41=>
 rL 25 x41 w fun x42=>
 NIL a0 <|
 rF 188 a0 2 w fun x46=>
 rL 25 x46 w fun x47=>
 rX 25 x47 a1 w fun x49=>
 rL 3 x49 w fun x50=>
 rB .or 3 T0 T0 x50 a2 w fun x52=>
 rX 25 x42 a1 w fun x53=>
 oS 3 x53 x52 w fun w=>
 NIL a0 <|
 rF 188 a0 3 w fun x56=>
 oS 4 x56 (Value.bool true) w fun w=>
 R (Value.tuple #[]) w) (World.drew1 w))
 (R (Value.tuple #[]) w))) (World.drew1 w)
def cfg242:Cfg:=⟨extL,[],[],[(0,[0,1,2,3,4,5,6,7,8,9,10,11,12,13,14,15,16,17,18,19,20,21,22,23,24,25,26],0),(2,[0,1,2,3,4,5,6,7,8,9,10,11,12,13,14,15],0)],[],[],[]⟩
theorem F242_call {a0 a1 a2:Value} {w:World} {R:VW} (h:F242 a0 a1 a2 w R):cL 242 [a0,a1,a2] w R:=co (g:=cfg242) Tryz.func242 (by kernel_rfl) (by kernel_rfl) (by kernel_rfl) h
open Rep (rep)
theorem zkd {w:World} {v:Value} {c:DCode} (h:Is w v c):∃ a0 a1 a2 a3 a4 n0 n1 n2 n3 n4 k0 k1 k2 k3 k4,v=.agg #[.slice a0 n0 k0,.slice a1 n1 k1,.slice a2 n2 k2,.slice a3 n3 k3,.slice a4 n4 k4]:=by
 obtain ⟨F,cs,hr,rfl⟩:=h
 obtain ⟨F0,c0,F1,c1,F2,c2,F3,c3,F4,c4,rfl,rfl,⟨_,_,_,_,rfl,_⟩,⟨_,_,_,_,rfl,_⟩,⟨_,_,_,_,rfl,_⟩,⟨_,_,_,_,rfl,_⟩,⟨_,_,_,_,rfl,_⟩⟩:=zlN hr
 exact ⟨_,_,_,_,_,_,_,_,_,_,_,_,_,_,_,rfl⟩
structure LP (c:DCode) (ms0:List Bool) (out0:List Nat) (nw:Bool) (ms:List Bool) (out:List Nat) (k:Nat):Prop where
 len:ms.length=c.ins.length
 leno:out.length=c.ins.length
 lt:∀ x∈out,x<64
 snd:∀ i,mkd ms i→MetP c i
 sndm:∀ i l,i<c.ins.length→(zaw out i).testBit l=true→MayP c i l
 root:∀ p,RootP c p→mkd ms (eN c p)
 yes:nw=true→zik ms0+out0.sum<zik ms+out.sum
 no:nw=false→ms=ms0∧out=out0∧∀ i,i<k→mkd ms0 i→MC c ms0 i∧((zak c i).op=4→zjz (zaw out0 i) (zaw out0 (eN c (agN c i)))∧(mkd ms0 (zN c (agN c i))→∀ j∈zax c i,zjz (zaw out0 (zN c (agN c i))) (zaw out0 j)))∧(¬(zak c i).op=4→∀ j∈zax c i,zjz (aft c [] i (zaw out0 i)) (zaw out0 j))
theorem LP.lt0 {c:DCode} {ms0 ms:List Bool} {out0 out:List Nat} {nw:Bool} {k:Nat} (h:LP c ms0 out0 nw ms out k) (i:Nat):zaw out i<64:=zdC h.lt i
def zrL (ms:List Bool) (out:List Nat) (nw:Bool) (i m:Nat):Bool:=nw || !(ms.getD i false&&decide (zaw out i ||| m=zaw out i))
theorem zoL {ms:List Bool} {out:List Nat} {nw:Bool} {i m:Nat} (h:mkd ms i) (h2:zaw out i ||| m=zaw out i):zrL ms out nw i m=nw:=by
 unfold mkd at h;unfold zrL;rw [h,decide_eq_true h2];simp
theorem zlq {ms:List Bool} {out:List Nat} {nw:Bool} {i m:Nat} (h:¬(mkd ms i∧zaw out i ||| m=zaw out i)):zrL ms out nw i m=true:=by
 unfold mkd at h;unfold zrL
 cases e:ms.getD i false
 · simp
 have:¬(zaw out i ||| m=zaw out i):=fun h2=>h ⟨e,h2⟩
 rw [decide_eq_false this];simp
theorem zlr {out:List Nat} {i:Nat} (h:i<out.length):out.set i (zaw out i)=out:=by rw [←zaU h];exact List.set_getElem_self h
theorem zrm {ms:List Bool} {i:Nat}:zik ms≤zik (ms.set i true):=by
 by_cases h:i<ms.length
 · by_cases hk:mkd ms i
   · rw [zjq hk];exact Nat.le_refl _
   rw [zgZ h hk];omega
 rw [List.set_eq_of_length_le (by omega)];exact Nat.le_refl _
theorem LP.put {c:DCode} {ms0 ms:List Bool} {out0 out:List Nat} {nw:Bool} {k i m:Nat} (h:LP c ms0 out0 nw ms out k) (hi:i<c.ins.length) (hm:m<64) (hmet:MetP c i) (hmay:∀ l,l<6→m.testBit l=true→MayP c i l) :
   LP c ms0 out0 (zrL ms out nw i m) (ms.set i true) (out.set i (zaw out i ||| m)) k:=by
 by_cases hk:mkd ms i∧zaw out i ||| m=zaw out i
 · rw [zoL hk.1 hk.2,zjq hk.1,hk.2,zlr (by rw [h.leno];exact hi)];exact h
 rw [zlq hk]
 have h64:=h.lt0 i
 have h1:=zhG (l:=out) (i:=i) (v:=zaw out i ||| m) (by rw [h.leno];exact hi)
 have h2:zaw out i≤zaw out i ||| m:=Nat.left_le_or
 have h3:=zrm (ms:=ms) (i:=i)
 refine ⟨by simp [h.len],by simp [h.leno],fun x hx=>?_,fun j hj=>?_,fun j l hj hb=>?_,fun p hp=>zeo (h.root p hp),fun _=>?_,fun e=>by cases e⟩
 · rcases zgu hx with rfl | hx
   · exact znu hm h64
   exact h.lt x hx
 · rcases (zcw (by rw [h.len];exact hi)).1 hj with h4 | h4
   · exact h.snd j h4
   rw [h4];exact hmet
 · rw [zbF (by rw [h.leno];exact hi)] at hb
   split at hb
   · rename_i e
     subst e
     rw [Nat.testBit_or,Bool.or_eq_true] at hb
     rcases hb with hb | hb
     · exact h.sndm i l hj hb
     exact hmay l (zhF hm hb) hb
   exact h.sndm j l hj hb
 have key:zik ms+out.sum<zik (ms.set i true)+(out.set i (zaw out i ||| m)).sum:=by
   by_cases hk1:mkd ms i
   · have:=zsr fun e=>hk ⟨hk1,e⟩
     omega
   have:=zgZ (by rw [h.len];exact hi) hk1
   omega
 cases nw with
 | true=>have:=h.yes rfl;omega
 | false=>rw [←(h.no rfl).1,←(h.no rfl).2.1];exact key
theorem zrn {ms:List Bool} {out:List Nat} {nw:Bool} {i m:Nat} (e:zrL ms out nw i m=false):nw=false:=by
 unfold zrL at e
 cases nw<;>simp_all
theorem zro {out:List Nat} {i j m x:Nat} (hi:i<out.length) (hx:zjz x (zaw out j)):zjz x (zaw (out.set i (zaw out i ||| m)) j):=by
 rw [zbF hi]
 split
 · rename_i e;subst e;exact znt hx
 exact hx
theorem zh6 {out:List Nat} {i m:Nat} (hi:i<out.length):zjz m (zaw (out.set i (zaw out i ||| m)) i):=by
 rw [zbF hi,if_pos rfl];exact zuT
theorem LP.fin {c:DCode} (hc:CodeR c) {ms0 ms:List Bool} {out0 out:List Nat} (h:LP c ms0 out0 false ms out c.ins.length):ms=zox c∧out=zs2 c:=by
 obtain ⟨h1,h2,h3⟩:=h.no rfl
 rw [←h1,←h2] at h3
 have hT:TP c ms false ms c.ins.length:=⟨h.len,h.snd,h.root,fun e=>(by cases e),fun _=>⟨rfl,fun i hi hm=>(h3 i hi hm).1⟩⟩
 have hms:=hT.fin hc
 have hmk:∀ i,MetP c i→mkd ms i:=fun i hi=>by rw [hms];exact zaH.2 ⟨hi.lt hc,hi⟩
 exact ⟨hms,ztV hc h.leno h.lt h.sndm fun i hm=>by
   have:=(h3 i (hm.lt hc) (hmk i hm)).2
   exact ⟨fun h4=>⟨(this.1 h4).1,fun hz=>(this.1 h4).2 (hmk _ hz)⟩,this.2⟩⟩
theorem LP.again {c:DCode} {ms0 ms:List Bool} {out0 out:List Nat} {nw:Bool} {k:Nat} (h:LP c ms0 out0 nw ms out k):LP c ms out false ms out 0:=
 ⟨h.len,h.leno,h.lt,h.snd,h.sndm,h.root,fun e=>(by cases e),fun _=>⟨rfl,rfl,fun i hi=>by omega⟩⟩
theorem LP.skip {c:DCode} {ms0 ms:List Bool} {out0 out:List Nat} {nw:Bool} {k:Nat} (h:LP c ms0 out0 nw ms out k) (hk:¬mkd ms k):LP c ms0 out0 nw ms out (k+1):=
 ⟨h.len,h.leno,h.lt,h.snd,h.sndm,h.root,h.yes,fun e=>⟨(h.no e).1,(h.no e).2.1,fun i hi hm=>by
   by_cases e2:i=k
   · subst e2;rw [(h.no e).1] at hk;exact absurd hm hk
   exact (h.no e).2.2 i (by omega) hm⟩⟩
theorem LP.close {c:DCode} {ms0 ms:List Bool} {out0 out:List Nat} {nw:Bool} {k h0 m:Nat} (h:LP c ms0 out0 nw ms out k) (hC:CR c out0 k h0 m nw) (h1:(zak c k).op=4→mkd ms (eN c (agN c k))∧zjz h0 (zaw out (eN c (agN c k))))
   (h2:((zak c k).op=4→mkd ms (zN c (agN c k)))→∀ j∈zax c k,mkd ms j∧zjz m (zaw out j)):LP c ms0 out0 nw ms out (k+1):=
 ⟨h.len,h.leno,h.lt,h.snd,h.sndm,h.root,h.yes,fun e=>by
   obtain ⟨o1,o2,o3⟩:=h.no e
   refine ⟨o1,o2,fun i hi hm=>?_⟩
   by_cases e2:i=k
   · subst e2
     obtain ⟨c1,c2,c3⟩:=hC e
     rw [o1,o2] at h1
     rw [o1,o2] at h2
     refine ⟨⟨fun h4=>⟨(h1 h4).1,fun hz j hj=>(h2 (fun _=>hz) j hj).1⟩,fun h4 j hj=>(h2 (fun h=>absurd h h4) j hj).1⟩,fun h4=>⟨c1▸(h1 h4).2,fun hz j hj=>c2 h4▸(h2 (fun _=>hz) j hj).2⟩,fun h4 j hj=>c3 h4▸(h2 (fun h=>absurd h h4) j hj).2⟩
   exact o3 i (by omega) hm⟩
structure LW (w1 w:World) (gw g h n:Nat) (kc:List Value) (ms:List Bool) (out:List Nat) (nw:Bool):Prop where
 ext:Ext w1 w
 blk:Blk gw 188 w (kc++[.slice (some ⟨g,0,none⟩) n n,.slice (some ⟨h,0,none⟩) n n,.bool nw])
 mks:Mine [g] w (.slice (some ⟨g,0,none⟩) n n) ms
 mine:Mine [h] w (.slice (some ⟨h,0,none⟩) n n) (zaI out)
 k5:kc.length=5
 n1:gw≠g
 n2:gw≠h
 n3:g≠h
 g0:w1.heap.size≤gw
 g1:w1.heap.size≤g
 g2:w1.heap.size≤h
section
variable {w1 w w':World} {gw g h n:Nat} {kc:List Value} {ms:List Bool} {out:List Nat} {nw:Bool}
theorem LW.step (H:LW w1 w gw g h n kc ms out nw) (hx:Ext w w'):LW w1 w' gw g h n kc ms out nw:=⟨H.ext.trans hx,H.blk.ext hx,H.mks.ext hx,H.mine.ext hx,H.k5,H.n1,H.n2,H.n3,H.g0,H.g1,H.g2⟩
theorem LW.c5 (H:LW w1 w gw g h n kc ms out nw):(kc++[Value.slice (some ⟨g,0,none⟩) n n,.slice (some ⟨h,0,none⟩) n n,.bool nw])[5]?=some (.slice (some ⟨g,0,none⟩) n n):=by rw [List.getElem?_append_right (by rw [H.k5];omega),H.k5];rfl
theorem LW.c6 (H:LW w1 w gw g h n kc ms out nw):(kc++[Value.slice (some ⟨g,0,none⟩) n n,.slice (some ⟨h,0,none⟩) n n,.bool nw])[6]?=some (.slice (some ⟨h,0,none⟩) n n):=by rw [List.getElem?_append_right (by rw [H.k5];omega),H.k5];rfl
theorem LW.c7 (H:LW w1 w gw g h n kc ms out nw):(kc++[Value.slice (some ⟨g,0,none⟩) n n,.slice (some ⟨h,0,none⟩) n n,.bool nw])[7]?=some (.bool nw):=by rw [List.getElem?_append_right (by rw [H.k5];omega),H.k5];rfl
theorem LW.mark {ms':List Bool} (H:LW w1 w gw g h n kc ms out nw) (hc:Chg [g] w w') (hm:Mine [g] w' (.slice (some ⟨g,0,none⟩) n n) ms'):LW w1 w' gw g h n kc ms' out nw:=
 ⟨H.ext.chgF hc (by simp [H.g1]),H.blk.chgF hc (by simp [H.n1]),hm,H.mine.keep fun b hb=>by
   simp only [List.mem_cons,List.not_mem_nil,or_false] at hb;subst hb
   exact hc.block b (H.mine.lt b (by simp)) (by simp [Ne.symm H.n3]),H.k5,H.n1,H.n2,H.n3,H.g0,H.g1,H.g2⟩
theorem LW.set {i v:Nat} (H:LW w1 w gw g h n kc ms out nw) (hc:Chg [h] w w') (hm:Mine [h] w' (.slice (some ⟨h,0,none⟩) n n) ((zaI out).set i (v:Int))):LW w1 w' gw g h n kc ms (out.set i v) nw:=
 ⟨H.ext.chgF hc (by simp [H.g2]),H.blk.chgF hc (by simp [H.n2]),H.mks.keep fun b hb=>by
   simp only [List.mem_cons,List.not_mem_nil,or_false] at hb;subst hb
   exact hc.block b (H.mks.lt b (by simp)) (by simp [H.n3]),by rw [zfh];exact hm,H.k5,H.n1,H.n2,H.n3,H.g0,H.g1,H.g2⟩
theorem LW.news {nw':Bool} (H:LW w1 w gw g h n kc ms out nw) (hc:Chg [gw] w w') (hB:Blk gw 188 w' ((kc++[Value.slice (some ⟨g,0,none⟩) n n,.slice (some ⟨h,0,none⟩) n n,.bool nw]).set 7 (.bool nw'))):LW w1 w' gw g h n kc ms out nw':=by
 have e:(kc++[Value.slice (some ⟨g,0,none⟩) n n,.slice (some ⟨h,0,none⟩) n n,.bool nw]).set 7 (.bool nw')=kc++[Value.slice (some ⟨g,0,none⟩) n n,.slice (some ⟨h,0,none⟩) n n,.bool nw']:=by
   rw [List.set_append_right _ _ (by rw [H.k5];omega),H.k5];rfl
 rw [e] at hB
 exact ⟨H.ext.chgF hc (by simp [H.g0]),hB,H.mks.keep fun b hb=>by
   simp only [List.mem_cons,List.not_mem_nil,or_false] at hb;subst hb
   exact hc.block b (H.mks.lt b (by simp)) (by simp [Ne.symm H.n1]),H.mine.keep fun b hb=>by
   simp only [List.mem_cons,List.not_mem_nil,or_false] at hb;subst hb
   exact hc.block b (H.mine.lt b (by simp)) (by simp [Ne.symm H.n2]),H.k5,H.n1,H.n2,H.n3,H.g0,H.g1,H.g2⟩
theorem LW.l8 (H:LW w1 w gw g h n kc ms out nw):7<(kc++[Value.slice (some ⟨g,0,none⟩) n n,.slice (some ⟨h,0,none⟩) n n,.bool nw]).length:=by simp [H.k5]
theorem zjv {i m:Nat} (H:LW w1 w gw g h n kc ms out nw) (hi:i<n) (hl:ms.length=n) (hlo:out.length=n) (h64:∀ x∈out,x<64) (hm:m<64) :
   CALL Tryz.prog 242 [.pointer (some ⟨gw,0,none⟩),.int .i64 (i:Int),.int .i64 (m:Int)] w fun r w'=>r=.tuple #[]∧LW w1 w' gw g h n kc (ms.set i true) (out.set i (zaw out i ||| m)) (zrL ms out nw i m)∧Chg [gw,g,h] w w':=by
 refine F242_call ?_
 unfold F242
 have hi64:=zdC h64 i
 have ho:=znu hm hi64
 have hxd:=zaj w
 have H1:=H.step hxd
 have hcd:Chg [gw,g,h] w (World.drew1 w):=⟨hxd.os,hxd.tape,hxd.output,hxd.size,fun b hb _=>hxd.block b hb⟩
 generalize World.drew1 w=wd at *
 have hmk:=zaO (ms:=ms) (i:=i) (by rw [hl];exact hi)
 refine NIL.mk rfl ?_
 refine zaa zhk ?_
 refine zaA zdc H1.blk H1.c5 ?_
 refine zad zcX ty4 H1.mks.is (by rw [hl];exact hi) fun b1 o1 hA1=>?_
 refine zaz ty4 hA1 (Ext.refl _) ?_
 refine zaJ ?_
 have hrd:∀ {w':World} {K:Value→Prop} (H:LW w1 w' gw g h n kc ms out nw) (k:K (.int .i64 (zaw out i:Int))),RD Tryz.prog (Instr.indexAt 25 (.slice (some ⟨h,0,none⟩) n n) (.int .i64 (i:Int))) w' fun x37=>RD Tryz.prog (Instr.loadAt 3 x37) w' K:=fun H k=>by
   refine zad u25 ty3 (i:=i) H.mine.is (by rw [zae,hlo];exact hi) fun b1 o1 hA1=>?_
   rw [zaK] at hA1
   exact zac ty3 hA1 (Ext.refl _) fun _=>k
 refine zbw (fun hf=>?_) (fun hf=>?_)
 · have hnew:¬(mkd ms i∧zaw out i ||| m=zaw out i):=fun hh=>by rw [hmk.1 hh.1] at hf;cases hf
   rw [zlq hnew]
   refine NIL.mk rfl ?_
   refine zaa zhk ?_
   refine zaA zdc H1.blk H1.c5 ?_
   refine zbv (α:=Bool) rfl zcX ty4 hi ?_
   refine za0 (α:=Bool) rfl ty4 H1.mks hl hi zbl fun w2 hc2 hm2=>?_
   have H2:=H1.mark hc2 hm2
   have hx3:=zaj w2
   have H3:=H2.step hx3
   have hc3:Chg [gw,g,h] w2 (World.drew1 w2):=⟨hx3.os,hx3.tape,hx3.output,hx3.size,fun b hb _=>hx3.block b hb⟩
   generalize World.drew1 w2=w3 at *
   refine NIL.mk rfl ?_
   refine zaa zfy ?_
   refine zaA zcN H3.blk H3.c6 ?_
   refine NIL.mk rfl ?_
   refine zaa zfy ?_
   refine zaA zcN H3.blk H3.c6 ?_
   refine zad u25 ty3 (i:=i) H3.mine.is (by rw [zae,hlo];exact hi) fun b4 o4 hA4=>?_
   rw [zaK] at hA4
   refine zac ty3 hA4 (Ext.refl _) fun _=>?_
   refine zge (m:=zaw out i) (n:=m) (by omega) (by omega) ?_
   refine zbv (α:=Int) rfl u25 ty3 hi ?_
   refine za0 (α:=Int) rfl ty3 H3.mine (by rw [zae,hlo]) hi (zbt (v:=zaw out i ||| m) (by omega)) fun w4 hc4 hm4=>?_
   have H4:=H3.set (v:=zaw out i ||| m) hc4 hm4
   refine NIL.mk rfl ?_
   refine zaa zkG ?_
   refine zbR (α:=Raw) (lo:=0) (hi:=0) ty4 rfl rfl H4.blk H4.l8 (zcH rfl) fun w5 hc5 hB5=>?_
   exact ⟨rfl,H4.news hc5.one hB5,(((hcd.trans (hc2.mono (by simp))).trans hc3).trans (hc4.mono (by simp))).trans (hc5.one.mono (by simp))⟩
 have hym:mkd ms i:=by rw [hmk];simpa using hf
 refine NIL.mk rfl ?_
 refine zaa zfy ?_
 refine zaA zcN H1.blk H1.c6 ?_
 refine hrd H1 ?_
 refine zge (m:=zaw out i) (n:=m) (by omega) (by omega) ?_
 refine NIL.mk rfl ?_
 refine zaa zfy ?_
 refine zaA zcN H1.blk H1.c6 ?_
 refine hrd H1 ?_
 refine zaN ?_
 refine br (fun hne=>?_) (fun heq=>?_)
 · have hnew:¬(mkd ms i∧zaw out i ||| m=zaw out i):=fun hh=>hne (by rw [hh.2])
   rw [zlq hnew]
   refine NIL.mk rfl ?_
   refine zaa zhk ?_
   refine zaA zdc H1.blk H1.c5 ?_
   refine zbv (α:=Bool) rfl zcX ty4 hi ?_
   refine za0 (α:=Bool) rfl ty4 H1.mks hl hi zbl fun w2 hc2 hm2=>?_
   have H2:=H1.mark hc2 hm2
   have hx3:=zaj w2
   have H3:=H2.step hx3
   have hc3:Chg [gw,g,h] w2 (World.drew1 w2):=⟨hx3.os,hx3.tape,hx3.output,hx3.size,fun b hb _=>hx3.block b hb⟩
   generalize World.drew1 w2=w3 at *
   refine NIL.mk rfl ?_
   refine zaa zfy ?_
   refine zaA zcN H3.blk H3.c6 ?_
   refine NIL.mk rfl ?_
   refine zaa zfy ?_
   refine zaA zcN H3.blk H3.c6 ?_
   refine zad u25 ty3 (i:=i) H3.mine.is (by rw [zae,hlo];exact hi) fun b4 o4 hA4=>?_
   rw [zaK] at hA4
   refine zac ty3 hA4 (Ext.refl _) fun _=>?_
   refine zge (m:=zaw out i) (n:=m) (by omega) (by omega) ?_
   refine zbv (α:=Int) rfl u25 ty3 hi ?_
   refine za0 (α:=Int) rfl ty3 H3.mine (by rw [zae,hlo]) hi (zbt (v:=zaw out i ||| m) (by omega)) fun w4 hc4 hm4=>?_
   have H4:=H3.set (v:=zaw out i ||| m) hc4 hm4
   refine NIL.mk rfl ?_
   refine zaa zkG ?_
   refine zbR (α:=Raw) (lo:=0) (hi:=0) ty4 rfl rfl H4.blk H4.l8 (zcH rfl) fun w5 hc5 hB5=>?_
   exact ⟨rfl,H4.news hc5.one hB5,(((hcd.trans (hc2.mono (by simp))).trans hc3).trans (hc4.mono (by simp))).trans (hc5.one.mono (by simp))⟩
 have he:zaw out i ||| m=zaw out i:=Int.ofNat_inj.1 (Decidable.not_not.1 heq)
 rw [zoL hym he,zjq hym,he,zlr (by rw [hlo];exact hi)]
 exact ⟨rfl,H1,hcd⟩
end
def F176 (a0:Value) (w:World) (R:VW):Prop:=
 oP (Instr.box 28 a0) w fun x1 w=>
 (fun w0=>PAR w0 [[(0,12)],[(1,13)],[(2,14),(1,13)],[(3,15),(2,14)],[(4,16),(3,15),(3,15)],[(5,17)],[(6,18),(5,17)],[(7,19),(6,18)],[(8,20),(7,19),(7,19)]] (fun Q=>
 (∀ (u1:Env) (T:Nat→Nat×Nat) (w:World),Ext w0 w→zbx [] w0.heap.size w.heap.size T→(True)→(fun w1=>rL 28 x1 w fun x12=>
 Ext w1 w∧Q 0 (upd u1 12 x12) (zcQ T 0 (w1.heap.size,w.heap.size)) w) w) ∧
 (∀ (u1:Env) (T:Nat→Nat×Nat) (w:World),Ext w0 w→zbx [] w0.heap.size w.heap.size T→(True)→(fun w1=>rF 28 x1 4 w fun x13=>
 Ext w1 w∧Q 1 (upd u1 13 x13) (zcQ T 1 (w1.heap.size,w.heap.size)) w) w) ∧
 (∀ (u1:Env) (T:Nat→Nat×Nat) (w:World),Ext w0 w→zbx [1] w0.heap.size w.heap.size T→(Q 1 u1 T w∧True)→(fun w1=>rL 26 (u1 13) w fun x14=>
 Ext w1 w∧Q 2 (upd u1 14 x14) (zcQ T 2 (w1.heap.size,w.heap.size)) w) w) ∧
 (∀ (u1:Env) (T:Nat→Nat×Nat) (w:World),Ext w0 w→zbx [2] w0.heap.size w.heap.size T→(Q 2 u1 T w∧True)→(fun w1=>rN 26 3 (u1 14) w fun x15=>
 Ext w1 w∧Q 3 (upd u1 15 x15) (zcQ T 3 (w1.heap.size,w.heap.size)) w) w) ∧
 (∀ (u1:Env) (T:Nat→Nat×Nat) (w:World),Ext w0 w→zbx [3,3] w0.heap.size w.heap.size T→(Q 3 u1 T w∧Q 3 u1 T w∧True)→(fun w1=>oP (Instr.makeSlice 135 (u1 15) (u1 15)) w fun x16 w=>
 Ext w1 w∧Q 4 (upd u1 16 x16) (zcQ T 4 (w1.heap.size,w.heap.size)) w) w) ∧
 (∀ (u1:Env) (T:Nat→Nat×Nat) (w:World),Ext w0 w→zbx [] w0.heap.size w.heap.size T→(True)→(fun w1=>rF 28 x1 4 w fun x17=>
 Ext w1 w∧Q 5 (upd u1 17 x17) (zcQ T 5 (w1.heap.size,w.heap.size)) w) w) ∧
 (∀ (u1:Env) (T:Nat→Nat×Nat) (w:World),Ext w0 w→zbx [5] w0.heap.size w.heap.size T→(Q 5 u1 T w∧True)→(fun w1=>rL 26 (u1 17) w fun x18=>
 Ext w1 w∧Q 6 (upd u1 18 x18) (zcQ T 6 (w1.heap.size,w.heap.size)) w) w) ∧
 (∀ (u1:Env) (T:Nat→Nat×Nat) (w:World),Ext w0 w→zbx [6] w0.heap.size w.heap.size T→(Q 6 u1 T w∧True)→(fun w1=>rN 26 3 (u1 18) w fun x19=>
 Ext w1 w∧Q 7 (upd u1 19 x19) (zcQ T 7 (w1.heap.size,w.heap.size)) w) w) ∧
 (∀ (u1:Env) (T:Nat→Nat×Nat) (w:World),Ext w0 w→zbx [7,7] w0.heap.size w.heap.size T→(Q 7 u1 T w∧Q 7 u1 T w∧True)→(fun w1=>oP (Instr.makeSlice 25 (u1 19) (u1 19)) w fun x20 w=>
 Ext w1 w∧Q 8 (upd u1 20 x20) (zcQ T 8 (w1.heap.size,w.heap.size)) w) w) ∧
 True)
 (fun Q=>∀ (u1:Env) (T:Nat→Nat×Nat) (w:World),Ext w0 w→zbx [0,1,2,3,4,5,6,7,8] w0.heap.size w.heap.size T→(Q 0 u1 T w∧Q 1 u1 T w∧Q 2 u1 T w∧Q 3 u1 T w∧Q 4 u1 T w∧Q 5 u1 T w∧Q 6 u1 T w∧Q 7 u1 T w∧Q 8 u1 T w∧True) →
 rD (Instr.build 188 #[(0,(u1 12)),(1,(u1 16)),(2,(u1 20)),(3,(Value.bool true))]) w fun x21=>
 oP (Instr.box 188 x21) w fun x22 w=>
 rL 28 x1 w fun x23=>
 cL 241 [x23] w fun x24 w=>
 cL 240 [x24] w fun x25 w=>
 LOOPI [5] [(iV 0)] w fun u4 w next4=>
 rN 25 3 x25 w fun x28=>
 rC (u4 5) x28 w fun x29=>
 BR x29
 ((fun w=>rF 28 x1 3 w fun x33=>
 rL 25 x33 w fun x34=>
 rX 25 x25 (u4 5) w fun x37=>
 rL 3 x37 w fun x38=>
 rX 25 x34 x38 w fun x39=>
 rL 3 x39 w fun x40=>
 cL 242 [x22,x40,(iV 0)] w fun x41 w=>
 rA (u4 5) (iV 1) w fun x31=>
 next4 [x31] w) (World.drew1 w))
 (LOOPI [] [] w fun u7 w next7=>
 NIL x22 <|
 rF 188 x22 3 w fun x44=>
 rL 4 x44 w fun x45=>
 BR x45
 (NIL x22 <|
 rF 188 x22 3 w fun x48=>
 oS 4 x48 (Value.bool false) w fun w=>
 LOOPI [6] [(iV 0)] w fun u10 w next10=>
 rF 28 x1 4 w fun x50=>
 rL 26 x50 w fun x51=>
 rN 26 3 x51 w fun x52=>
 rC (u10 6) x52 w fun x53=>
 BR x53
 (NIL x22 <|
 rF 188 x22 1 w fun x58=>
 rL 135 x58 w fun x59=>
 rX 135 x59 (u10 6) w fun x61=>
 rL 4 x61 w fun x62=>
 rD (Op.unary .not x62) w fun x63=>
 BR x63
 (rA (u10 6) (iV 1) w fun x55=>
 next10 [x55] w)
 (rF 28 x1 4 w fun x64=>
 rL 26 x64 w fun x65=>
 rX 26 x65 (u10 6) w fun x67=>
 rL 77 x67 w fun x68=>
 oP (Instr.alloc 77 true (.tuple #[])) w fun x7 w=>
 oS 77 x7 x68 w fun w=>
 NIL x22 <|
 rF 188 x22 2 w fun x71=>
 rL 25 x71 w fun x72=>
 rX 25 x72 (u10 6) w fun x74=>
 rL 3 x74 w fun x75=>
 JOIN [8] (fun J25=>
 rF 77 x7 0 w fun x76=>
 rL 3 x76 w fun x77=>
 rB .eql 3 T0 U0 x77 (iV 6) w fun x79=>
 BR x79
 (rF 77 x7 1 w fun x81=>
 rL 3 x81 w fun x82=>
 cL 161 [x82] w fun x83 w=>
 rB .or 3 T0 T0 x75 x83 w fun x84=>
 J25 [x84] w)
 (rB .eql 3 T0 U0 x77 (iV 7) w fun x86=>
 BR x86
 (rF 77 x7 1 w fun x88=>
 rL 3 x88 w fun x89=>
 cL 161 [x89] w fun x90 w=>
 cL 243 [x75,x90] w fun x91 w=>
 J25 [x91] w)
 (rB .eql 3 T0 U0 x77 (iV 4) w fun x93=>
 BR x93
 (rF 28 x1 3 w fun x95=>
 rL 25 x95 w fun x96=>
 rF 77 x7 1 w fun x97=>
 rL 3 x97 w fun x98=>
 rX 25 x96 x98 w fun x99=>
 rL 3 x99 w fun x100=>
 cL 242 [x22,x100,x75] w fun x102 w=>
 rL 28 x1 w fun x103=>
 rF 77 x7 1 w fun x104=>
 rL 3 x104 w fun x105=>
 cL 213 [x103,x105] w fun x106 w=>
 NIL x22 <|
 rF 188 x22 1 w fun x109=>
 rL 135 x109 w fun x110=>
 rX 135 x110 x106 w fun x112=>
 rL 4 x112 w fun x113=>
 rD (Op.unary .not x113) w fun x114=>
 BR x114
 (rA (u10 6) (iV 1) w fun x55=>
 next10 [x55] w)
 (NIL x22 <|
 rF 188 x22 2 w fun x117=>
 rL 25 x117 w fun x118=>
 rX 25 x118 x106 w fun x120=>
 rL 3 x120 w fun x121=>
 J25 [x121] w))
 (J25 [x75] w)))) (fun u25 w=>
 rL 28 x1 w fun x122=>
 cL 244 [x122,(u10 6)] w fun x124 w=>
 LOOPI [11] [(iV 0)] w fun u27 w next27=>
 rN 25 3 x124 w fun x127=>
 rC (u27 11) x127 w fun x128=>
 BR x128
 (rX 25 x124 (u27 11) w fun x134=>
 rL 3 x134 w fun x135=>
 cL 242 [x22,x135,(u25 8)] w fun x137 w=>
 rA (u27 11) (iV 1) w fun x130=>
 next27 [x130] w)
 (rA (u10 6) (iV 1) w fun x55=>
 next10 [x55] w))))
 (next7 [] w))
 (R x22 w)))) (World.drew1 w)
def cfg176:Cfg:=⟨extL,[(25,5316911983139587933751502326797959936,[8])],[(4,4397979402272,[5]),(7,348449143727040986586495598005732602023872,[]),(10,348449143727040986586495597447180695113664,[6]),(27,348406608431175869278562676184201677506560,[11])],[(6,[0,1,2,3,4,5,6,7,8,9],0)],[(1,8384520,9)],[],[]⟩
theorem F176_call {a0:Value} {w:World} {R:VW} (h:F176 a0 w R):cL 176 [a0] w R:=co (g:=cfg176) Tryz.func176 (by kernel_rfl) (by kernel_rfl) (by kernel_rfl) h
open Rep (rep)
def lkQ (c:DCode) (g1 n:Nat) (w0:World):ParQ:=fun i u T w=>match i with
 | 0=>Is w0 (u 12) c
 | 1=>u 13=.pointer (some ⟨g1,0+4,none⟩)
 | 2=>Is w0 (u 14) c.ins
 | 3=>u 15=.int .i64 (n:Int)
 | 4=>∃ g,u 16=.slice (some ⟨g,0,none⟩) n n∧(T 4).1≤g∧g<(T 4).2∧Mine [g] w (.slice (some ⟨g,0,none⟩) n n) (List.replicate n false)
 | 5=>u 17=.pointer (some ⟨g1,0+4,none⟩)
 | 6=>Is w0 (u 18) c.ins
 | 7=>u 19=.int .i64 (n:Int)
 | 8=>∃ g,u 20=.slice (some ⟨g,0,none⟩) n n∧(T 8).1≤g∧g<(T 8).2∧Mine [g] w (.slice (some ⟨g,0,none⟩) n n) (zaI (List.replicate n 0))
 | _=>True
theorem zrp {w W0:World} {v0:Value} {c:DCode} (h0:Is W0 v0 c) (e0:Ext W0 w) (hc:CodeR c) :
   CALL Tryz.prog 176 [v0] w fun r w'=>Ext w w'∧∃ gw,r=.pointer (some ⟨gw,0,none⟩)∧At w' gw (0+5) (zox c)∧At w' gw (0+6) (zaI (zs2 c)):=by
 refine F176_call ?_
 unfold F176
 have h8:=hc.1.procs8
 have hil:=hc.f.ins
 have hz0:=(zen hc h8.2).2.2
 have hrep:=HP.start (c:=c)
 refine zaV h0 e0 fun w1 hx1 hA=>?_
 have hs1:=hx1.size
 have hn:c.ins.length=c.ins.length:=rfl
 generalize hnn:c.ins.length=n at hn
 rw [hnn] at hil hrep
 have hx1d:=zaj w1
 refine PAR.mk (lkQ c w.heap.size n (World.drew1 w1)) ?_ ?_ ?_
 · intro i u u' T T' wa wb hxa hxb hd hq
   match i,hd,hq with
   | 0,hd,hq=>have:=(hd (0,12) (by decide)).1;show Is _ (u' 12) _;simp only [this];exact hq
   | 1,hd,hq=>exact (hd (1,13) (by decide)).1.trans hq
   | 2,hd,hq=>have:=(hd (2,14) (by decide)).1;show Is _ (u' 14) _;simp only [this];exact hq
   | 3,hd,hq=>exact (hd (3,15) (by decide)).1.trans hq
   | 4,hd,⟨g,q1,q2,q3,q4⟩=>
     obtain ⟨e1,e2⟩:=hd (4,16) (by decide)
     simp only at e1 e2
     exact ⟨g,e1.trans q1,by rw [e2];exact q2,by rw [e2];exact q3,q4.ext hxb⟩
   | 5,hd,hq=>exact (hd (5,17) (by decide)).1.trans hq
   | 6,hd,hq=>have:=(hd (6,18) (by decide)).1;show Is _ (u' 18) _;simp only [this];exact hq
   | 7,hd,hq=>exact (hd (7,19) (by decide)).1.trans hq
   | 8,hd,⟨g,q1,q2,q3,q4⟩=>
     obtain ⟨e1,e2⟩:=hd (8,20) (by decide)
     simp only at e1 e2
     exact ⟨g,e1.trans q1,by rw [e2];exact q2,by rw [e2];exact q3,q4.ext hxb⟩
   | n+9,_,_=>trivial
 · refine ⟨fun u T w' hx _ _=>?_,fun u T w' hx _ _=>?_,fun u T w' hx _ hp=>?_,fun u T w' hx _ hp=>?_,fun u T w' hx _ hp=>?_,fun u T w' hx _ _=>?_,fun u T w' hx _ hp=>?_,fun u T w' hx _ hp=>?_,fun u T w' hx _ hp=>?_,trivial⟩
   · exact zab zbm hA (hx1d.trans hx) fun v6 h6=>⟨Ext.refl _,h6.ext hx1d⟩
   · exact zaa zaG ⟨Ext.refl _,rfl⟩
   · have q0:u 13=_:=hp.1
     rw [q0]
     exact zab zcO (zal hA) (hx1d.trans hx) fun v6 h6=>⟨Ext.refl _,h6.ext hx1d⟩
   · have q1:Is _ (u 14) c.ins:=hp.1
     exact zag u26 q1 (by rw [hnn];exact ⟨Ext.refl _,rfl⟩)
   · have q2:u 15=_:=hp.1
     rw [q2]
     exact zdL (by omega) (by omega) fun w4 hx4 r=>⟨hx4,_,rfl,Nat.le_refl _,r.lt _ (List.mem_singleton.2 rfl),r⟩
   · exact zaa zaG ⟨Ext.refl _,rfl⟩
   · have q0:u 17=_:=hp.1
     rw [q0]
     exact zab zcO (zal hA) (hx1d.trans hx) fun v6 h6=>⟨Ext.refl _,h6.ext hx1d⟩
   · have q1:Is _ (u 18) c.ins:=hp.1
     exact zag u26 q1 (by rw [hnn];exact ⟨Ext.refl _,rfl⟩)
   have q2:u 19=_:=hp.1
   rw [q2]
   exact zdn (by omega) (by omega) fun w4 hx4 r=>⟨hx4,_,rfl,Nat.le_refl _,r.lt _ (List.mem_singleton.2 rfl),r⟩
 rintro u T w2 hx2 hap ⟨hq0,-,-,-,⟨g,q16,hga,hgb,hMg⟩,-,-,-,⟨h,q20,hha,hhb,hMh⟩,-⟩
 have hq0:Is (World.drew1 w1) (u 12) c:=hq0
 have t4:=hap.1 4 (by decide)
 have t8:=hap.1 8 (by decide)
 have d48:=hap.2 4 (by decide) 8 (by decide) (by decide)
 have hx12:=hx1d.trans hx2
 have hsd:(World.drew1 w1).heap.size=w1.heap.size:=rfl
 rw [q16,q20]
 obtain ⟨a0,a1,a2,a3,a4,n0,n1,n2,n3,n4,k0,k1,k2,k3,k4,hcv⟩:=zkd hq0
 rw [hcv]
 refine zaS (cells:=#[.slice a0 n0 k0,.slice a1 n1 k1,.slice a2 n2 k2,.slice a3 n3 k3,.slice a4 n4 k4,.slice (some ⟨g,0,none⟩) n n,.slice (some ⟨h,0,none⟩) n n,.bool true]) (by kernel_rfl) ?_
 refine zkY fun w3 hx3 hB3=>?_
 have H3:LW w1 w3 w2.heap.size g h n [.slice a0 n0 k0,.slice a1 n1 k1,.slice a2 n2 k2,.slice a3 n3 k3,.slice a4 n4 k4] (List.replicate n false) (List.replicate n 0) true:=⟨hx12.trans hx3,hB3,hMg.ext hx3,hMh.ext hx3,rfl,by omega,by omega,by omega,hx12.size,by omega,by omega⟩
 generalize [Value.slice a0 n0 k0,.slice a1 n1 k1,.slice a2 n2 k2,.slice a3 n3 k3,.slice a4 n4 k4]=kc at *
 generalize w2.heap.size=gw at *
 refine zab zbm hA H3.ext fun v23 h23=>?_
 refine (zfk h23 H3.ext hc).mono ?_
 rintro v24 w4 ⟨hx4,ho4⟩
 refine (zek ho4.is (Ext.refl _) (by rw [zam];omega)).mono ?_
 rintro v25 w5 ⟨hx5,ho5⟩
 rw [zam,zfG] at ho5
 have H4:=H3.step hx4
 have H5:=H4.step hx5
 have hL:∀ p,p∈zbn c.procs.length (RootP c)↔RootP c p:=fun p=>by rw [zaT];exact ⟨fun h=>h.2,fun h=>⟨h.lt hc,h⟩⟩
 have hLl:(zbn c.procs.length (RootP c)).length≤8:=Nat.le_trans za6 h8.1
 generalize zbn c.procs.length (RootP c)=L at *
 have hgw4:=H4.blk.lt
 have hg4:=H4.mks.lt g (by simp)
 have hh4:=H4.mine.lt h (by simp)
 have hrl:(List.replicate n 0).length=n:=by simp
 have hr64:∀ x∈List.replicate n 0,x<64:=fun x hx=>by rw [(List.mem_replicate.1 hx).2];omega
 have hset0:∀ i,i<n→(List.replicate n 0).set i (zaw (List.replicate n 0) i ||| 0)=List.replicate n 0:=fun i hi=>by rw [Nat.or_zero,zlr (by rw [hrl];exact hi)]
 have hmz:∀ i l,i<c.ins.length→(zaw (List.replicate n 0) i).testBit l=true→MayP c i l:=fun i l hi hb=>(hrep.snd i l hi hb).1
 generalize List.replicate n 0=out at *
 refine zas L.length (fun k us w'=>∃ ms,us=[.int .i64 (k:Int)]∧k≤L.length∧LW w1 w' gw g h n kc ms out true∧OwnI w4.heap.size w5.heap.size w' v25 (zaI L)∧ms.length=n∧(∀ i,mkd ms i→MetP c i)∧∀ p∈L.take k,mkd ms (eN c p)) 0 (Nat.zero_le _) ⟨_,rfl,Nat.zero_le _,H5,ho5.toI,by simp,fun i h=>absurd h zbz,by simp⟩ ?_
 rintro k mk u6 w6 hkm ⟨ms,hu,hkl,H6,hO6,hl6,hsn6,hrt6⟩
 simp only [List.map_cons,List.map_nil,List.cons.injEq,and_true] at hu
 rw [hu]
 refine zag u25 hO6.is ?_
 rw [zae]
 refine zah ?_
 refine br (fun hlt=>?_) (fun hge=>?_)
 · have hk:k<L.length:=by omega
   have hxd:=zaj w6
   have H7:=H6.step hxd
   have hO7:=hO6.ext hxd
   generalize World.drew1 w6=w7 at *
   refine zaa za1 ?_
   refine zab zcN (zaq hA) H7.ext fun v34 h34=>?_
   refine zad u25 ty3 (i:=k) hO7.is (by rw [zae];exact hk) fun b2 o2 hA2=>?_
   rw [zaM] at hA2
   refine zac ty3 hA2 (Ext.refl _) fun _=>?_
   have htk:=fun x=>zbe hk (x:=x)
   have hrp:=(hL L[k]).1 (List.getElem_mem hk)
   generalize L[k]=p at *
   have hpe:p<c.entry.length:=by rw [hc.2.1.1];exact hrp.lt hc
   obtain ⟨he1,he2,_⟩:=zfp hc hpe
   refine zad u25 ty3 h34 hpe fun b5 o5 hA5=>?_
   rw [zbh hpe,he1] at hA5
   refine zac ty3 hA5 H7.ext fun _=>?_
   refine (zjv (i:=eN c p) (m:=0) H7 (by omega) hl6 hrl hr64 (by omega)).mono ?_
   rintro _ w8 ⟨rfl,H8,hc8⟩
   rw [hset0 _ (by omega)] at H8
   refine zaf (by omega) ?_
   refine ⟨mk-1,by omega,k+1,by omega,_,rfl,by omega,H8,hO7.chgF hc8 (by simp;omega),by simp [hl6],fun i hi=>?_,fun q hq=>?_⟩
   · rcases (zcw (by rw [hl6];omega)).1 hi with h | h
     · exact hsn6 i h
     rw [h];exact .root hrp
   rcases (htk q).1 hq with h | h
   · exact zeo (hrt6 q h)
   rw [h];exact (zcw (by rw [hl6];omega)).2 (.inr rfl)
 have hrt:∀ p,RootP c p→mkd ms (eN c p):=fun p hp=>hrt6 p (by rw [List.take_of_length_le (by omega)];exact (hL p).2 hp)
 have hT:LP c ms out false ms out 0:=⟨by rw [hl6,hnn],by rw [hrl,hnn],hr64,hsn6,hmz,hrt,fun e=>(by cases e),fun _=>⟨rfl,rfl,fun i hi=>by omega⟩⟩
 clear hu hkm hO6 hset0
 refine LOOPI.mk (fun m us w'=>∃ (ms:List Bool) (out:List Nat) (nw:Bool),us=[]∧m=(n*64-(zik ms+out.sum))+(if nw then 1 else 0)∧LW w1 w' gw g h n kc ms out nw∧LP c ms out false ms out 0∧(nw=false→ms=zox c∧out=zs2 c)) (n*64-(zik ms+out.sum)+1) ⟨ms,out,true,rfl,rfl,H6,hT,fun e=>by cases e⟩ ?_
 rintro m u9 w9 ⟨ms,out,nw,hu,hm,H9,hT9,hend⟩
 have hbnd:∀ {ms0 ms:List Bool} {out0 out:List Nat} {nw:Bool} {k:Nat},LP c ms0 out0 nw ms out k→zik ms+out.sum≤n*64:=fun {ms0 ms out0 out nw k} hP=>by
   have h1:=zfF ms
   rw [hP.len,hnn] at h1
   have h2:=zuP (l:=out) (b:=63) fun x hx=>by have:=hP.lt x hx;omega
   rw [hP.leno,hnn] at h2
   omega
 refine NIL.mk rfl ?_
 refine zaa zkG ?_
 refine zaA ty4 H9.blk H9.c7 ?_
 refine zbw (fun hag=>?_) (fun hag=>?_)
 case refine_2=>
   obtain ⟨hm1,hm2⟩:=hend hag
   refine ⟨hx1.trans H9.ext,gw,rfl,zeV H9.blk H9.c5 ?_,zeV H9.blk H9.c6 ?_⟩
   · rw [←hm1];exact H9.mks.is
   rw [←hm2];exact H9.mine.is
 rw [hag,if_pos rfl] at hm
 have hb9:=hbnd hT9
 refine NIL.mk rfl ?_
 refine zaa zkG ?_
 refine zbR (α:=Raw) (lo:=0) (hi:=0) ty4 rfl rfl H9.blk H9.l8 (zcH rfl) fun w10 hc10 hB10=>?_
 have H10:=H9.news hc10.one hB10
 refine zas n (fun k us w'=>∃ (ms':List Bool) (out':List Nat) (nw':Bool),us=[.int .i64 (k:Int)]∧k≤n∧LW w1 w' gw g h n kc ms' out' nw'∧LP c ms out nw' ms' out' k) 0 (Nat.zero_le _) ⟨ms,out,false,rfl,Nat.zero_le _,H10,hT9⟩ ?_
 rintro k mk u11 w11 hkm ⟨ms11,out11,nw11,hu,hkl,H11,hT11⟩
 simp only [List.map_cons,List.map_nil,List.cons.injEq,and_true] at hu
 rw [hu]
 refine zaa zaG ?_
 refine zab zcO (zal hA) H11.ext fun v51 h51=>?_
 refine zag u26 h51 ?_
 rw [hnn]
 refine zah ?_
 refine br (fun hlt=>?_) (fun hge=>?_)
 case refine_2=>
   have hke:k=n:=by omega
   rw [hke] at hT11
   have hb11:=hbnd hT11
   refine ⟨(n*64-(zik ms11+out11.sum))+(if nw11 then 1 else 0),?_,ms11,out11,nw11,rfl,rfl,H11,hT11.again,fun e=>?_⟩
   · cases nw11 with
     | true=>have:=hT11.yes rfl;simp;omega
     | false=>rw [(hT11.no rfl).1,(hT11.no rfl).2.1];simp;omega
   rw [e,←hnn] at hT11
   exact hT11.fin hc
 have hk:k<n:=by omega
 have hkn:k<c.ins.length:=by omega
 have hl11:ms11.length=n:=by rw [hT11.len,hnn]
 have hlo11:out11.length=n:=by rw [hT11.leno,hnn]
 refine NIL.mk rfl ?_
 refine zaa zhk ?_
 refine zaA zdc H11.blk H11.c5 ?_
 refine zad zcX ty4 (i:=k) H11.mks.is (by rw [hl11];exact hk) fun b4 o4 hA4=>?_
 refine zaz ty4 hA4 (Ext.refl _) ?_
 refine zaJ ?_
 have hmk11:=zaO (ms:=ms11) (i:=k) (by rw [hl11];exact hk)
 refine zbw (fun hf=>?_) (fun hf=>?_)
 · have hnm:¬mkd ms11 k:=by rw [hmk11];simpa using hf
   refine zaf (by omega) ?_
   exact ⟨mk-1,by omega,k+1,by omega,ms11,out11,nw11,rfl,by omega,H11,hT11.skip hnm⟩
 have hym:mkd ms11 k:=by rw [hmk11];simpa using hf
 have hMk:=hT11.snd k hym
 refine zaa zaG ?_
 refine zab zcO (zal hA) H11.ext fun v65 h65=>?_
 refine zad u26 zc6 h65 hkn fun b3 o3 hA3=>?_
 rw [zaF] at hA3
 refine zab zc6 hA3 H11.ext fun v32 h32=>?_
 refine zce zpE rfl zc6 rfl h32 H11.ext fun w12 hx12' hAI hV12=>?_
 have H12:=H11.step hx12'
 have hAB12:=zgl h32 hV12 rfl
 refine NIL.mk rfl ?_
 refine zaa zfy ?_
 refine zaA zcN H12.blk H12.c6 ?_
 refine zad u25 ty3 (i:=k) H12.mine.is (by rw [zae,hlo11];exact hk) fun b5 o5 hA5=>?_
 rw [zaK] at hA5
 refine zac ty3 hA5 (Ext.refl _) fun _=>?_
 have hk64:=hT11.lt0 k
 have hkz:nw11=false→zaw out11 k=zaw out k:=fun e=>by rw [(hT11.no e).2.1]
 have hkm8:∀ l,l<6→(zaw out11 k).testBit l=true→MayP c k l:=fun l hl hb=>hT11.sndm k l hkn hb
 generalize hh0:zaw out11 k=h0 at *
 refine JOIN.mk (fun us w'=>∃ (m:Nat) (ms':List Bool) (out':List Nat) (nw':Bool),us=[.int .i64 (m:Int)]∧LW w1 w' gw g h n kc ms' out' nw'∧LP c ms out nw' ms' out' k∧m<64∧CR c out k h0 m nw'∧((zak c k).op=4→mkd ms' (eN c (agN c k))∧zjz h0 (zaw out' (eN c (agN c k))))∧(∀ l,l<6→m.testBit l=true→∀ j∈zax c k,MayP c j l)∧∀ j∈zax c k,MetP c j) ?_ ?_
 · have haf:aft c [] k h0=if (zak c k).op=6 then h0 ||| 2^agN c k else if (zak c k).op=7 then znl h0 (2^agN c k) else if (zak c k).op=4 then (h0 &&& (tbl [] (agN c k)).1) ||| (tbl [] (agN c k)).2 else h0:=rfl
   have hgo:¬(zak c k).op=4→∀ w',LW w1 w' gw g h n kc ms11 out11 nw11→aft c [] k h0<64→∃ (m:Nat) (ms':List Bool) (out':List Nat) (nw':Bool),[Value.int .i64 (aft c [] k h0:Nat)]=[.int .i64 (m:Int)]∧LW w1 w' gw g h n kc ms' out' nw'∧LP c ms out nw' ms' out' k∧m<64∧CR c out k h0 m nw'∧((zak c k).op=4→mkd ms' (eN c (agN c k))∧zjz h0 (zaw out' (eN c (agN c k))))∧(∀ l,l<6→m.testBit l=true→∀ j∈zax c k,MayP c j l)∧∀ j∈zax c k,MetP c j:=fun h4 w' hW' hlt'=>
     ⟨_,ms11,out11,nw11,rfl,hW',hT11,hlt',fun e=>⟨hkz e,fun h=>absurd h h4,fun _=>by rw [hkz e]⟩,fun h=>absurd h h4,fun l hl hb j hj=>ztU h4 hMk hj (hkm8 l hl) hb,fun j hj=>.next hMk h4 hj⟩
   refine zaa zbf ?_
   refine zac ty3 (zay hAI) (Ext.refl _) fun _=>?_
   refine zai ?_
   refine br (fun c6=>?_) (fun c6=>?_)
   · obtain ⟨ha,_,hq⟩:=zfi hc hkn (.inl c6)
     have hp:=zfI hq
     rw [if_pos c6] at haf
     refine zaa zbu ?_
     refine zac ty3 (zaC hAI) (Ext.refl _) fun _=>?_
     rw [ha]
     refine (zfH (by omega)).mono ?_
     rintro _ w13 ⟨hx13,rfl⟩
     refine zge (m:=h0) (n:=2^agN c k) (by omega) (by omega) ?_
     have:=hgo (by omega) w13 (H12.step hx13) (by rw [haf];exact zsZ hk64 hq)
     rw [haf] at this
     exact this
   rw [if_neg c6] at haf
   refine zai ?_
   refine br (fun c7=>?_) (fun c7=>?_)
   · obtain ⟨ha,_,hq⟩:=zfi hc hkn (.inr c7)
     have hp:=zfI hq
     rw [if_pos c7] at haf
     refine zaa zbu ?_
     refine zac ty3 (zaC hAI) (Ext.refl _) fun _=>?_
     rw [ha]
     refine (zfH (by omega)).mono ?_
     rintro _ w13 ⟨hx13,rfl⟩
     refine (zhJ hk64 hp).mono ?_
     rintro _ w14 ⟨hx14,rfl⟩
     rw [zgv hk64 hp]
     have:=hgo (by omega) w14 ((H12.step hx13).step hx14) (by rw [haf];exact Nat.lt_of_le_of_lt (zla _ _) hk64)
     rw [haf] at this
     exact this
   rw [if_neg c7] at haf
   refine zai ?_
   refine br (fun c4=>?_) (fun c4=>?_)
   · obtain ⟨ha1,ha2⟩:=zbN hc hkn (.inl c4)
     have hpe:agN c k<c.entry.length:=by rw [hc.2.1.1];exact ha2
     obtain ⟨he1,he2,_⟩:=zfp hc hpe
     obtain ⟨hz1,hz2,hz3⟩:=zen hc ha2
     refine zaa za1 ?_
     refine zab zcN (zaq hA) H12.ext fun v66 h66=>?_
     refine zaa zbu ?_
     refine zac ty3 (zaC hAI) (Ext.refl _) fun _=>?_
     rw [ha1]
     refine zad u25 ty3 h66 hpe fun b5 o5 hA5=>?_
     rw [zbh hpe,he1] at hA5
     refine zac ty3 hA5 H12.ext fun _=>?_
     refine (zjv (i:=eN c (agN c k)) (m:=h0) H12 (by omega) hl11 hlo11 hT11.lt hk64).mono ?_
     rintro _ w13 ⟨rfl,H13,hc13⟩
     have hmE:MetP c (eN c (agN c k)):=.call hMk c4
     have hT13:=hT11.put he2 hk64 hmE fun l hl hb=>.call hMk c4 (hkm8 l hl hb)
     have hF1:=zh6 (out:=out11) (m:=h0) (i:=eN c (agN c k)) (by rw [hlo11];omega)
     have hF0:mkd (ms11.set (eN c (agN c k)) true) (eN c (agN c k)):=(zcw (by rw [hl11];omega)).2 (.inr rfl)
     have hz13:zrL ms11 out11 nw11 (eN c (agN c k)) h0=false→nw11=false:=zrn
     generalize zrL ms11 out11 nw11 (eN c (agN c k)) h0=nw13 at *
     generalize out11.set (eN c (agN c k)) (zaw out11 (eN c (agN c k)) ||| h0)=out13 at *
     generalize ms11.set (eN c (agN c k)) true=ms13 at *
     have hgI:w11.heap.size<w12.heap.size:=hV12.lt
     have hne:w11.heap.size∉[gw,g,h]:=by have h1:=H11.mks.lt g (by simp);have h2:=H11.mine.lt h (by simp);have h3:=H11.blk.lt;simp;omega
     have hAI13:=(hAB12.keep (hc13.block _ hgI hne)).at H13.ext
     refine zab zbm hA H13.ext fun v76 h76=>?_
     refine zaa zbu ?_
     refine zac ty3 (zaC hAI13) (Ext.refl _) fun _=>?_
     rw [ha1]
     refine (zd2 h76 H13.ext (p:=(agN c k:Int)) (by omega) (by omega) hc.2.1.nonneg).mono ?_
     rintro _ w14 ⟨hx14,rfl⟩
     have H14:=H13.step hx14
     rw [hz2]
     have hl13:ms13.length=n:=by rw [hT13.len,hnn]
     have hlo13:out13.length=n:=by rw [hT13.leno,hnn]
     refine NIL.mk rfl ?_
     refine zaa zhk ?_
     refine zaA zdc H14.blk H14.c5 ?_
     refine zad zcX ty4 (i:=zN c (agN c k)) H14.mks.is (by rw [hl13];omega) fun b6 o6 hA6=>?_
     refine zaz ty4 hA6 (Ext.refl _) ?_
     refine zaJ ?_
     have hmk13:=zaO (ms:=ms13) (i:=zN c (agN c k)) (by rw [hl13];omega)
     refine zbw (fun hf13=>?_) (fun hf13=>?_)
     · have hnm:¬mkd ms13 (zN c (agN c k)):=by rw [hmk13];simpa using hf13
       refine zaf (by omega) ?_
       refine ⟨mk-1,by omega,k+1,by omega,ms13,out13,nw13,rfl,by omega,H14,LP.close (h0:=h0) (m:=zaw out (zN c (agN c k))) hT13 (fun e=>⟨hkz (hz13 e),fun _=>rfl,fun h=>absurd c4 h⟩) (fun _=>⟨hF0,hF1⟩) fun h=>absurd (h c4) hnm⟩
     have hyz:mkd ms13 (zN c (agN c k)):=by rw [hmk13];simpa using hf13
     have hMz:=hT13.snd _ hyz
     refine NIL.mk rfl ?_
     refine zaa zfy ?_
     refine zaA zcN H14.blk H14.c6 ?_
     refine zad u25 ty3 (i:=zN c (agN c k)) H14.mine.is (by rw [zae,hlo13];omega) fun b7 o7 hA7=>?_
     rw [zaK] at hA7
     refine zac ty3 hA7 (Ext.refl _) fun _=>?_
     exact ⟨zaw out13 (zN c (agN c k)),ms13,out13,nw13,rfl,H14,hT13,hT13.lt0 _,fun e=>⟨hkz (hz13 e),fun _=>by rw [(hT13.no e).2.1],fun h=>absurd c4 h⟩,fun _=>⟨hF0,hF1⟩,fun l hl hb j hj=>.back hMk c4 hMz (hT13.sndm _ l (by omega) hb) hj,fun j hj=>.back hMk c4 hMz hj⟩
   rw [if_neg c4] at haf
   have:=hgo c4 w12 H12 (by rw [haf];exact hk64)
   rw [haf] at this
   exact this
 rintro us w14 ⟨m,ms14,out14,nw14,hus,H14,hT14,hm64,hC14,hF14,hmay,hnx⟩
 simp only [List.map_cons,List.map_nil,List.cons.injEq,and_true] at hus
 rw [hus]
 refine zab zbm hA H14.ext fun v122 h122=>?_
 refine (zhD h122 H14.ext hc hkn).mono ?_
 rintro v86 w15 ⟨hx15,ho15⟩
 have H15:=H14.step hx15
 have hl2:=zeO c k
 have hnl:=fun {j:Nat} (hj:j∈zax c k)=>(zcA hc hkn hj).1
 have hclose:=fun {ms o:List Bool} {out0 out1:List Nat} {ag:Bool} (hP:LP c ms out0 ag o out1 k)=>LP.close (h0:=h0) (m:=m) hP
 generalize hNx:zax c k=N at *
 refine zas N.length (fun q us w'=>∃ (ms':List Bool) (out':List Nat) (nw':Bool),us=[.int .i64 (q:Int)]∧q≤N.length∧LW w1 w' gw g h n kc ms' out' nw'∧LP c ms out nw' ms' out' k∧CR c out k h0 m nw'∧((zak c k).op=4→mkd ms' (eN c (agN c k))∧zjz h0 (zaw out' (eN c (agN c k))))∧(∀ j∈N.take q,mkd ms' j∧zjz m (zaw out' j))∧OwnI w14.heap.size w15.heap.size w' v86 (zaI N)) 0 (Nat.zero_le _) ⟨ms14,out14,nw14,rfl,Nat.zero_le _,H15,hT14,hC14,hF14,by simp,ho15.toI⟩ ?_
 rintro q mq u w16 hqm ⟨ms16,out16,nw16,hu,hql,H16,hT16,hC16,hF16,hq16,hO16⟩
 simp only [List.map_cons,List.map_nil,List.cons.injEq,and_true] at hu
 rw [hu]
 refine zag u25 hO16.is ?_
 rw [zae]
 refine zah ?_
 refine br (fun hlt=>?_) (fun hge=>?_)
 case refine_2=>
   refine zaf (by omega) ?_
   rw [List.take_of_length_le (by omega)] at hq16
   exact ⟨mk-1,by omega,k+1,by omega,ms16,out16,nw16,rfl,by omega,H16,hclose hT16 hC16 hF16 fun _=>hNx▸hq16⟩
 have hq:q<N.length:=by omega
 refine zad u25 ty3 (i:=q) hO16.is (by rw [zae];exact hq) fun b7 o7 hA7=>?_
 rw [zaM] at hA7
 refine zac ty3 hA7 (Ext.refl _) fun _=>?_
 have htq:=fun x=>zbe hq (x:=x)
 have hj:=List.getElem_mem hq
 have hjl:=hnl hj
 have hmj:=fun l hl hb=>hmay l hl hb _ hj
 have hmet:=hnx _ hj
 generalize N[q]=j at *
 have hl16:ms16.length=n:=by rw [hT16.len,hnn]
 have hlo16:out16.length=n:=by rw [hT16.leno,hnn]
 refine (zjv (i:=j) (m:=m) H16 (by omega) hl16 hlo16 hT16.lt hm64).mono ?_
 rintro _ w17 ⟨rfl,H17,hc17⟩
 refine zaf (by omega) ?_
 have hg14:=H14.mks.lt g (by simp)
 have hh14:=H14.mine.lt h (by simp)
 have hgw14:=H14.blk.lt
 have hjo:j<out16.length:=by omega
 refine ⟨mq-1,by omega,q+1,by omega,_,_,_,rfl,by omega,H17,hT16.put hjl hm64 hmet hmj,fun e=>hC16 (zrn e),fun h4=>⟨zeo (hF16 h4).1,zro hjo (hF16 h4).2⟩,fun i hi=>?_,hO16.chgF hc17 (by simp;omega)⟩
 rcases (htq i).1 hi with h | h
 · exact ⟨zeo (hq16 i h).1,zro hjo (hq16 i h).2⟩
 subst h;exact ⟨(zcw (by rw [hl16];omega)).2 (.inr rfl),zh6 hjo⟩
end Go.Proofs.YtbnjpfjjmhodnaaGreat
namespace Go.Sh
open Rep (rep)
theorem Blk.uniq {w:World} {g e:Nat} {cs cs':List Value} (h:Blk g e w cs) (h':Blk g e w cs'):cs'=cs:=by
 unfold Blk at h h'
 rw [h] at h'
 simp only [Option.some.injEq,Obj.cells.injEq] at h'
 have:=h'.1
 simpa using this.symm
theorem zoM {w:World} {g e:Nat} {cs ds:List Value} (h:Blk g e w (cs++ds)):w.rangeAt g 0 cs:=(zaD h.range).1
end Go.Sh
namespace Go.Proofs.YtbnjpfjjmhodnaaGreat
open Go Go.Sh Go.Proofs
open Rep (rep)
structure WB (W0 w:World) (b e:Nat) (c:DCode) (kc:List Value) (m:Nat) (x6 x7 x8 x9 x10:Value):Prop where
 ext:Ext W0 w
 blk:Blk b e w (kc++[.slice (some ⟨m,0,none⟩) c.ins.length c.ins.length,x6,x7,x8,x9,x10])
 code:∃ F,rep F W0 kc c
 live:Mine [m] w (.slice (some ⟨m,0,none⟩) c.ins.length c.ins.length) (zbP c.ins.length (zev c))
 b0:W0.heap.size≤b
 m0:W0.heap.size≤m
 ne:b≠m
section
variable {W0 w w':World} {b e m:Nat} {c:DCode} {kc:List Value} {x6 x7 x8 x9 x10:Value}
theorem WB.k5 (h:WB W0 w b e c kc m x6 x7 x8 x9 x10):kc.length=5:=by obtain ⟨F,hr⟩:=h.code;exact Rep.len hr
theorem WB.cell (h:WB W0 w b e c kc m x6 x7 x8 x9 x10) (i:Nat):(kc++[Value.slice (some ⟨m,0,none⟩) c.ins.length c.ins.length,x6,x7,x8,x9,x10])[5+i]?=[Value.slice (some ⟨m,0,none⟩) c.ins.length c.ins.length,x6,x7,x8,x9,x10][i]?:=by
 rw [List.getElem?_append_right (by rw [h.k5];omega),h.k5,Nat.add_sub_cancel_left]
theorem WB.code_at (h:WB W0 w b e c kc m x6 x7 x8 x9 x10):At w b 0 c:=by
 obtain ⟨F,hr⟩:=h.code
 exact ⟨F,kc,zbY hr h.ext,zoM h.blk⟩
theorem WB.wl (h:WB W0 w b e c kc m x6 x7 x8 x9 x10):WL w b c:=⟨h.code_at,zeV h.blk (h.cell 0) h.live.is⟩
theorem WB.step (h:WB W0 w b e c kc m x6 x7 x8 x9 x10) (hx:Ext w w'):WB W0 w' b e c kc m x6 x7 x8 x9 x10:=⟨h.ext.trans hx,h.blk.ext hx,h.code,h.live.ext hx,h.b0,h.m0,h.ne⟩
theorem WB.chg {F:List Nat} (h:WB W0 w b e c kc m x6 x7 x8 x9 x10) (hc:Chg F w w') (hF:∀ x∈F,W0.heap.size≤x∧x≠b∧x≠m):WB W0 w' b e c kc m x6 x7 x8 x9 x10:=
 ⟨h.ext.chgF hc fun x hx=>(hF x hx).1,h.blk.chgF hc fun hb=>(hF b hb).2.1 rfl,h.code,h.live.keep fun x hx=>by
   simp only [List.mem_cons,List.not_mem_nil,or_false] at hx;subst hx
   exact hc.block x (h.live.lt x (by simp)) fun hm=>(hF x hm).2.2 rfl,h.b0,h.m0,h.ne⟩
theorem WB.cells {y6 y7 y8 y9 y10:Value} (h:WB W0 w b e c kc m x6 x7 x8 x9 x10) (hc:ChgI b (b+1) w w') (hB:Blk b e w' (kc++[.slice (some ⟨m,0,none⟩) c.ins.length c.ins.length,y6,y7,y8,y9,y10])):WB W0 w' b e c kc m y6 y7 y8 y9 y10:=
 ⟨h.ext.chgI hc h.b0,hB,h.code,h.live.keep fun x hx=>by
   simp only [List.mem_cons,List.not_mem_nil,or_false] at hx;subst hx
   exact hc.block x (h.live.lt x (by simp)) (by have:=h.ne;omega),h.b0,h.m0,h.ne⟩
theorem WB.set (h:WB W0 w b e c kc m x6 x7 x8 x9 x10) (i:Nat) (v:Value):(kc++[Value.slice (some ⟨m,0,none⟩) c.ins.length c.ins.length,x6,x7,x8,x9,x10]).set (5+i) v=kc++[Value.slice (some ⟨m,0,none⟩) c.ins.length c.ins.length,x6,x7,x8,x9,x10].set i v:=by
 rw [List.set_append_right _ _ (by rw [h.k5];omega),h.k5,Nat.add_sub_cancel_left]
end
def CS (c:DCode) (out:List Nat) (D:Nat→Nat→Prop):Prop:=out.length=c.procs.length∧∀ q,q<c.procs.length→zaw out q=zhc (D q) c.procs.length
theorem CS.mono {c:DCode} {out:List Nat} {D D':Nat→Nat→Prop} (h:CS c out D) (hD:∀ q r,q<c.procs.length→r<c.procs.length→(D q r↔D' q r)):CS c out D':=⟨h.1,fun q hq=>by rw [h.2 q hq];exact zdh fun r hr=>hD q r hq hr⟩
theorem CS.set {c:DCode} {out:List Nat} {D D':Nat→Nat→Prop} (h:CS c out D) {p a:Nat} (hp:p<c.procs.length) (ha:a<c.procs.length) (hD:∀ q r,D' q r↔D q r∨(q=p∧r=a)):CS c (out.set p (zaw out p ||| 2^a)) D':=by
 refine ⟨by simp [h.1],fun q hq=>?_⟩
 rw [zbF (by rw [h.1];exact hp)]
 split
 · rename_i e
   subst e
   rw [h.2 p hp]
   refine zfe fun r=>?_
   rw [Nat.testBit_or,Nat.testBit_two_pow,Bool.or_eq_true,zch,decide_eq_true_eq,hD]
   constructor
   · rintro (⟨h1,h2⟩ | rfl)
     · exact ⟨h1,.inl h2⟩
     exact ⟨ha,.inr ⟨rfl,rfl⟩⟩
   rintro ⟨h1,h2 | ⟨_,h2⟩⟩
   · exact .inl ⟨h1,h2⟩
   exact .inr h2.symm
 rename_i e
 rw [h.2 q hq]
 exact zdh fun r hr=>⟨fun h=>(hD q r).2 (.inl h),fun h=>((hD q r).1 h).resolve_right fun h=>e h.1.symm⟩
theorem CS.lt0 {c:DCode} {out:List Nat} {D:Nat→Nat→Prop} (h:CS c out D) (h8:c.procs.length≤8) {q:Nat} (hq:q<c.procs.length):zaw out q<256:=by rw [h.2 q hq];exact zaY h8
theorem CS.zero {c:DCode} {D:Nat→Nat→Prop} (hD:∀ q r,¬D q r):CS c (List.replicate c.procs.length 0) D:=⟨by simp,fun q hq=>by
 rw [←zaU (by simp;exact hq),List.getElem_replicate]
 exact zfe fun r=>by simp [hD]⟩
theorem CS.eq_cls {c:DCode} {out:List Nat} {op:Int} (h:CS c out fun q r=>zil c q op r):out=cls c op:=by
 refine List.ext_getElem (by rw [h.1,zfK]) fun i h1 h2=>?_
 have hi:i<c.procs.length:=by rw [←h.1];exact h1
 rw [zaU h1,zaU h2,zs3 hi,h.2 i hi]
def zpu (j:Nat):Nat:=if j=11 then 6 else if j=14 then 7 else 8
def zul (j:Nat):Prop:=j=11∨j=14∨j=17
def fcB (W:World) (b e:Nat) (hd:List Value) (t9 t10:Value) (w:World):Prop:=ChgI b (b+1) W w∧∃ x6 x7 x8,Blk b e w (hd++[x6,x7,x8,t9,t10])
def fcR (b e:Nat) (j:Nat) (w w':World):Prop:=(zul j∧ChgI b (b+1) w w'∧∀ cs,Blk b e w cs→∃ v,Blk b e w' (cs.set (zpu j) v))∨(¬zul j∧Ext w w')
def fcQ (b e n:Nat):ParQ:=fun i u T w=>match i with
 | 0=>u 17=.pointer (some ⟨b,0,none⟩)
 | 1=>u 18=.pointer (some ⟨b,0,none⟩)
 | 2=>u 19=.pointer (some ⟨b,0,none⟩)
 | 3=>u 20=.int .i64 (n:Int)
 | 4=>∃ g,u 21=.slice (some ⟨g,0,none⟩) n n∧(T 4).1≤g∧g<(T 4).2∧g≠b∧Mine [g] w (.slice (some ⟨g,0,none⟩) n n) (zaI (List.replicate n 0))
 | 5=>u 22=.int .i64 (n:Int)
 | 6=>∃ g,u 23=.slice (some ⟨g,0,none⟩) n n∧(T 6).1≤g∧g<(T 6).2∧g≠b∧Mine [g] w (.slice (some ⟨g,0,none⟩) n n) (zaI (List.replicate n 0))
 | 7=>u 24=.int .i64 (n:Int)
 | 8=>∃ g,u 25=.slice (some ⟨g,0,none⟩) n n∧(T 8).1≤g∧g<(T 8).2∧g≠b∧Mine [g] w (.slice (some ⟨g,0,none⟩) n n) (zaI (List.replicate n 0))
 | 9=>u 26=.pointer (some ⟨b,0,none⟩)
 | 10=>u 27=.pointer (some ⟨b,0+6,none⟩)
 | 11=>∃ cs,Blk b e w cs∧cs[6]?=some (u 21)
 | 12=>u 28=.pointer (some ⟨b,0,none⟩)
 | 13=>u 29=.pointer (some ⟨b,0+7,none⟩)
 | 14=>∃ cs,Blk b e w cs∧cs[7]?=some (u 23)
 | 15=>u 30=.pointer (some ⟨b,0,none⟩)
 | 16=>u 31=.pointer (some ⟨b,0+8,none⟩)
 | 17=>∃ cs,Blk b e w cs∧cs[8]?=some (u 25)
 | _=>True
section
variable {b e n:Nat} {w w':World}
theorem fcR.sz {j:Nat} (h:fcR b e j w w'):w.heap.size≤w'.heap.size:=by
 rcases h with ⟨_,h,_⟩ | ⟨_,h⟩
 · exact h.size
 exact h.size
theorem fcR.chg {j:Nat} (h:fcR b e j w w'):ChgI b (b+1) w w':=by
 rcases h with ⟨_,h,_⟩ | ⟨_,h⟩
 · exact h
 exact h.toI
theorem fcR.mine {j g:Nat} {l:List Int} {v:Value} (h:fcR b e j w w') (hg:g≠b) (hm:Mine [g] w v l):Mine [g] w' v l:=hm.keep fun x hx=>by
 simp only [List.mem_cons,List.not_mem_nil,or_false] at hx;subst hx
 exact h.chg.block x (hm.lt x (by simp)) (by omega)
theorem fcR.cell {j:Nat} {u:Value} {k:Nat} (h:fcR b e j w w') (hij:zul j→zpu j≠k) (hc:∃ cs,Blk b e w cs∧cs[k]?=some u):∃ cs,Blk b e w' cs∧cs[k]?=some u:=by
 obtain ⟨cs,hB,hk⟩:=hc
 rcases h with ⟨hs,_,h⟩ | ⟨_,h⟩
 · obtain ⟨v,hv⟩:=h cs hB
   exact ⟨_,hv,by rw [List.getElem?_set_ne (hij hs)];exact hk⟩
 exact ⟨cs,hB.ext h,hk⟩
theorem fcB.step {W:World} {hd:List Value} {t9 t10:Value} {j:Nat} (h6:hd.length=6) (h:fcB W b e hd t9 t10 w) (hR:fcR b e j w w'):fcB W b e hd t9 t10 w':=by
 obtain ⟨hc,x6,x7,x8,hB⟩:=h
 refine ⟨hc.trans hR.chg,?_⟩
 rcases hR with ⟨hs,_,hR⟩ | ⟨_,hR⟩
 · obtain ⟨v,hv⟩:=hR _ hB
   rcases hs with rfl | rfl | rfl
   · refine ⟨v,x7,x8,?_⟩
     rw [List.set_append_right _ _ (by rw [h6];decide),h6] at hv
     exact hv
   · refine ⟨x6,v,x8,?_⟩
     rw [List.set_append_right _ _ (by rw [h6];decide),h6] at hv
     exact hv
   refine ⟨x6,x7,v,?_⟩
   rw [List.set_append_right _ _ (by rw [h6];decide),h6] at hv
   exact hv
 exact ⟨x6,x7,x8,hB.ext hR⟩
theorem fcR.ext {j:Nat} (hj:¬zul j) (hx:Ext w w'):fcR b e j w w':=.inr ⟨hj,hx⟩
end
theorem zls {W:World} {b e n j:Nat} {hd:List Value} {t9 t10:Value} {w:World} {g:Nat} {K:World→Prop} (hs:zul j) (h6:hd.length=6) (hB:fcB W b e hd t9 t10 w) (k:∀ w',fcR b e j w w'→(∃ cs,Blk b e w' cs∧cs[zpu j]?=some (.slice (some ⟨g,0,none⟩) n n))→K w') :
   OPU Tryz.prog (Instr.storeAt 25 (.pointer (some ⟨b,0+zpu j,none⟩)) (.slice (some ⟨g,0,none⟩) n n)) w K:=by
 obtain ⟨hc,x6,x7,x8,hB⟩:=hB
 have hlt:zpu j<(hd++[x6,x7,x8,t9,t10]).length:=by
   rw [List.length_append,h6]
   show zpu j<11
   rcases hs with rfl | rfl | rfl<;>decide
 rw [Nat.zero_add]
 refine zbR (α:=Raw) (lo:=0) (hi:=0) zcN rfl rfl hB hlt (zcH rfl) fun w2 hc2 hB2=>?_
 have hR:fcR b e j w w2:=.inl ⟨hs,hc2,fun cs hcs=>by
   have:=hB.uniq hcs
   subst this
   exact ⟨_,hB2⟩⟩
 exact k w2 hR ⟨_,hB2,by rw [List.getElem?_set_self hlt]⟩
theorem ztZ {sets:List Nat} {r:Nat} (l:List Int):(orL sets l).testBit r=true↔∃ x∈l,(zaw sets x.toNat).testBit r=true:=by
 have key:∀ (l:List Int) (a:Nat),(l.foldl (fun a i=>a ||| sets.getD i.toNat 0) a).testBit r=true↔a.testBit r=true∨∃ x∈l,(zaw sets x.toNat).testBit r=true:=fun l=>by
   induction l with
   | nil=>simp
   | cons i l ih=>
     intro a
     rw [List.foldl_cons,ih,Nat.testBit_or,Bool.or_eq_true,or_assoc]
     refine or_congr Iff.rfl ?_
     simp only [List.mem_cons,exists_eq_or_imp]
     exact Iff.rfl
 have:=key l 0
 simpa [orL] using this
theorem zg8 {sets:List Nat} {m n r:Nat} (hm:m<2^n) (hn:n≤62):(orL sets (zcd m)).testBit r=true↔∃ i,i<n∧m.testBit i=true∧(zaw sets i).testBit r=true:=by
 rw [ztZ,zlb hm (by omega)]
 constructor
 · rintro ⟨x,hx,h⟩
   obtain ⟨i,h1,rfl,h3⟩:=zdT.1 hx
   exact ⟨i,h1,h3,by simpa using h⟩
 rintro ⟨i,h1,h2,h3⟩
 exact ⟨(i:Int),zdT.2 ⟨i,h1,rfl,h2⟩,by simpa using h3⟩
theorem znE {m n:Nat} (h:∀ r,m.testBit r=true→r<n):m<2^n:=Nat.lt_pow_two_of_testBit _ fun i hi=>by
 cases e:m.testBit i
 · rfl
 have:=h i e;omega
def F171 (a0:Value) (w:World) (R:VW):Prop:=
 NIL a0 <|
 rF 180 a0 0 w fun x13=>
 rF 28 x13 2 w fun x14=>
 rL 24 x14 w fun x15=>
 rN 24 3 x15 w fun x16=>
 (fun w0=>GPAR w0 [[(0,17)],[(1,18)],[(2,19)],[(3,20)],[(4,21),(3,20),(3,20)],[(5,22)],[(6,23),(5,22),(5,22)],[(7,24)],[(8,25),(7,24),(7,24)],[(9,26),(0,17),(0,17),(3,20),(4,21)],[(10,27),(9,26),(0,17),(3,20),(4,21)],[(10,27),(4,21),(0,17),(3,20),(4,21)],[(12,28),(1,18),(0,17),(1,18),(3,20),(4,21),(5,22),(6,23),(9,26),(10,27)],[(13,29),(12,28),(0,17),(1,18),(3,20),(4,21),(5,22),(6,23),(9,26),(10,27)],[(13,29),(6,23),(0,17),(1,18),(3,20),(4,21),(5,22),(6,23),(9,26),(10,27)],[(15,30),(2,19),(0,17),(1,18),(2,19),(3,20),(4,21),(5,22),(6,23),(7,24),(8,25),(9,26),(10,27),(12,28),(13,29)],[(16,31),(15,30),(0,17),(1,18),(2,19),(3,20),(4,21),(5,22),(6,23),(7,24),(8,25),(9,26),(10,27),(12,28),(13,29)],[(16,31),(8,25),(0,17),(1,18),(2,19),(3,20),(4,21),(5,22),(6,23),(7,24),(8,25),(9,26),(10,27),(12,28),(13,29)]] (fun B R Q=>
 (∀ (u1:Env) (T:Nat→Nat×Nat) (w:World),B w→w0.heap.size≤w.heap.size→zbx [] w0.heap.size w.heap.size T→(True)→(fun w1=>R 0 w1 w∧Q 0 (upd u1 17 a0) (zcQ T 0 (w1.heap.size,w.heap.size)) w) w) ∧
 (∀ (u1:Env) (T:Nat→Nat×Nat) (w:World),B w→w0.heap.size≤w.heap.size→zbx [] w0.heap.size w.heap.size T→(True)→(fun w1=>R 1 w1 w∧Q 1 (upd u1 18 a0) (zcQ T 1 (w1.heap.size,w.heap.size)) w) w) ∧
 (∀ (u1:Env) (T:Nat→Nat×Nat) (w:World),B w→w0.heap.size≤w.heap.size→zbx [] w0.heap.size w.heap.size T→(True)→(fun w1=>R 2 w1 w∧Q 2 (upd u1 19 a0) (zcQ T 2 (w1.heap.size,w.heap.size)) w) w) ∧
 (∀ (u1:Env) (T:Nat→Nat×Nat) (w:World),B w→w0.heap.size≤w.heap.size→zbx [] w0.heap.size w.heap.size T→(True)→(fun w1=>R 3 w1 w∧Q 3 (upd u1 20 x16) (zcQ T 3 (w1.heap.size,w.heap.size)) w) w) ∧
 (∀ (u1:Env) (T:Nat→Nat×Nat) (w:World),B w→w0.heap.size≤w.heap.size→zbx [3,3] w0.heap.size w.heap.size T→(Q 3 u1 T w∧Q 3 u1 T w∧True)→(fun w1=>oP (Instr.makeSlice 25 (u1 20) (u1 20)) w fun x21 w=>
 R 4 w1 w∧Q 4 (upd u1 21 x21) (zcQ T 4 (w1.heap.size,w.heap.size)) w) w) ∧
 (∀ (u1:Env) (T:Nat→Nat×Nat) (w:World),B w→w0.heap.size≤w.heap.size→zbx [] w0.heap.size w.heap.size T→(True)→(fun w1=>R 5 w1 w∧Q 5 (upd u1 22 x16) (zcQ T 5 (w1.heap.size,w.heap.size)) w) w) ∧
 (∀ (u1:Env) (T:Nat→Nat×Nat) (w:World),B w→w0.heap.size≤w.heap.size→zbx [5,5] w0.heap.size w.heap.size T→(Q 5 u1 T w∧Q 5 u1 T w∧True)→(fun w1=>oP (Instr.makeSlice 25 (u1 22) (u1 22)) w fun x23 w=>
 R 6 w1 w∧Q 6 (upd u1 23 x23) (zcQ T 6 (w1.heap.size,w.heap.size)) w) w) ∧
 (∀ (u1:Env) (T:Nat→Nat×Nat) (w:World),B w→w0.heap.size≤w.heap.size→zbx [] w0.heap.size w.heap.size T→(True)→(fun w1=>R 7 w1 w∧Q 7 (upd u1 24 x16) (zcQ T 7 (w1.heap.size,w.heap.size)) w) w) ∧
 (∀ (u1:Env) (T:Nat→Nat×Nat) (w:World),B w→w0.heap.size≤w.heap.size→zbx [7,7] w0.heap.size w.heap.size T→(Q 7 u1 T w∧Q 7 u1 T w∧True)→(fun w1=>oP (Instr.makeSlice 25 (u1 24) (u1 24)) w fun x25 w=>
 R 8 w1 w∧Q 8 (upd u1 25 x25) (zcQ T 8 (w1.heap.size,w.heap.size)) w) w) ∧
 (∀ (u1:Env) (T:Nat→Nat×Nat) (w:World),B w→w0.heap.size≤w.heap.size→zbx [0,0,3,4] w0.heap.size w.heap.size T→(Q 0 u1 T w∧Q 0 u1 T w∧Q 3 u1 T w∧Q 4 u1 T w∧True)→(fun w1=>NIL (u1 17) <|
 R 9 w1 w∧Q 9 (upd u1 26 (u1 17)) (zcQ T 9 (w1.heap.size,w.heap.size)) w) w) ∧
 (∀ (u1:Env) (T:Nat→Nat×Nat) (w:World),B w→w0.heap.size≤w.heap.size→zbx [9,0,3,4] w0.heap.size w.heap.size T→(Q 9 u1 T w∧Q 0 u1 T w∧Q 3 u1 T w∧Q 4 u1 T w∧True)→(fun w1=>rF 180 (u1 26) 2 w fun x27=>
 R 10 w1 w∧Q 10 (upd u1 27 x27) (zcQ T 10 (w1.heap.size,w.heap.size)) w) w) ∧
 (∀ (u1:Env) (T:Nat→Nat×Nat) (w:World),B w→w0.heap.size≤w.heap.size→zbx [10,4,0,3,4] w0.heap.size w.heap.size T→(Q 10 u1 T w∧Q 4 u1 T w∧Q 0 u1 T w∧Q 3 u1 T w∧Q 4 u1 T w∧True)→(fun w1=>oS 25 (u1 27) (u1 21) w fun w=>
 R 11 w1 w∧Q 11 u1 (zcQ T 11 (w1.heap.size,w.heap.size)) w) w) ∧
 (∀ (u1:Env) (T:Nat→Nat×Nat) (w:World),B w→w0.heap.size≤w.heap.size→zbx [1,0,1,3,4,5,6,9,10,11] w0.heap.size w.heap.size T→(Q 1 u1 T w∧Q 0 u1 T w∧Q 1 u1 T w∧Q 3 u1 T w∧Q 4 u1 T w∧Q 5 u1 T w∧Q 6 u1 T w∧Q 9 u1 T w∧Q 10 u1 T w∧Q 11 u1 T w∧True)→(fun w1=>NIL (u1 18) <|
 R 12 w1 w∧Q 12 (upd u1 28 (u1 18)) (zcQ T 12 (w1.heap.size,w.heap.size)) w) w) ∧
 (∀ (u1:Env) (T:Nat→Nat×Nat) (w:World),B w→w0.heap.size≤w.heap.size→zbx [12,0,1,3,4,5,6,9,10,11] w0.heap.size w.heap.size T→(Q 12 u1 T w∧Q 0 u1 T w∧Q 1 u1 T w∧Q 3 u1 T w∧Q 4 u1 T w∧Q 5 u1 T w∧Q 6 u1 T w∧Q 9 u1 T w∧Q 10 u1 T w∧Q 11 u1 T w∧True)→(fun w1=>rF 180 (u1 28) 3 w fun x29=>
 R 13 w1 w∧Q 13 (upd u1 29 x29) (zcQ T 13 (w1.heap.size,w.heap.size)) w) w) ∧
 (∀ (u1:Env) (T:Nat→Nat×Nat) (w:World),B w→w0.heap.size≤w.heap.size→zbx [13,6,11,0,1,3,4,5,6,9,10,11] w0.heap.size w.heap.size T→(Q 13 u1 T w∧Q 6 u1 T w∧Q 11 u1 T w∧Q 0 u1 T w∧Q 1 u1 T w∧Q 3 u1 T w∧Q 4 u1 T w∧Q 5 u1 T w∧Q 6 u1 T w∧Q 9 u1 T w∧Q 10 u1 T w∧Q 11 u1 T w∧True)→(fun w1=>oS 25 (u1 29) (u1 23) w fun w=>
 R 14 w1 w∧Q 14 u1 (zcQ T 14 (w1.heap.size,w.heap.size)) w) w) ∧
 (∀ (u1:Env) (T:Nat→Nat×Nat) (w:World),B w→w0.heap.size≤w.heap.size→zbx [2,0,1,2,3,4,5,6,7,8,9,10,11,12,13,14] w0.heap.size w.heap.size T→(Q 2 u1 T w∧Q 0 u1 T w∧Q 1 u1 T w∧Q 2 u1 T w∧Q 3 u1 T w∧Q 4 u1 T w∧Q 5 u1 T w∧Q 6 u1 T w∧Q 7 u1 T w∧Q 8 u1 T w∧Q 9 u1 T w∧Q 10 u1 T w∧Q 11 u1 T w∧Q 12 u1 T w∧Q 13 u1 T w∧Q 14 u1 T w∧True)→(fun w1=>NIL (u1 19) <|
 R 15 w1 w∧Q 15 (upd u1 30 (u1 19)) (zcQ T 15 (w1.heap.size,w.heap.size)) w) w) ∧
 (∀ (u1:Env) (T:Nat→Nat×Nat) (w:World),B w→w0.heap.size≤w.heap.size→zbx [15,0,1,2,3,4,5,6,7,8,9,10,11,12,13,14] w0.heap.size w.heap.size T→(Q 15 u1 T w∧Q 0 u1 T w∧Q 1 u1 T w∧Q 2 u1 T w∧Q 3 u1 T w∧Q 4 u1 T w∧Q 5 u1 T w∧Q 6 u1 T w∧Q 7 u1 T w∧Q 8 u1 T w∧Q 9 u1 T w∧Q 10 u1 T w∧Q 11 u1 T w∧Q 12 u1 T w∧Q 13 u1 T w∧Q 14 u1 T w∧True)→(fun w1=>rF 180 (u1 30) 4 w fun x31=>
 R 16 w1 w∧Q 16 (upd u1 31 x31) (zcQ T 16 (w1.heap.size,w.heap.size)) w) w) ∧
 (∀ (u1:Env) (T:Nat→Nat×Nat) (w:World),B w→w0.heap.size≤w.heap.size→zbx [16,8,14,0,1,2,3,4,5,6,7,8,9,10,11,12,13,14] w0.heap.size w.heap.size T→(Q 16 u1 T w∧Q 8 u1 T w∧Q 14 u1 T w∧Q 0 u1 T w∧Q 1 u1 T w∧Q 2 u1 T w∧Q 3 u1 T w∧Q 4 u1 T w∧Q 5 u1 T w∧Q 6 u1 T w∧Q 7 u1 T w∧Q 8 u1 T w∧Q 9 u1 T w∧Q 10 u1 T w∧Q 11 u1 T w∧Q 12 u1 T w∧Q 13 u1 T w∧Q 14 u1 T w∧True)→(fun w1=>oS 25 (u1 31) (u1 25) w fun w=>
 R 17 w1 w∧Q 17 u1 (zcQ T 17 (w1.heap.size,w.heap.size)) w) w) ∧
 True)
 (fun B Q=>∀ (u1:Env) (T:Nat→Nat×Nat) (w:World),B w→w0.heap.size≤w.heap.size→zbx [0,1,2,3,4,5,6,7,8,9,10,11,12,13,14,15,16,17] w0.heap.size w.heap.size T→(Q 0 u1 T w∧Q 1 u1 T w∧Q 2 u1 T w∧Q 3 u1 T w∧Q 4 u1 T w∧Q 5 u1 T w∧Q 6 u1 T w∧Q 7 u1 T w∧Q 8 u1 T w∧Q 9 u1 T w∧Q 10 u1 T w∧Q 11 u1 T w∧Q 12 u1 T w∧Q 13 u1 T w∧Q 14 u1 T w∧Q 15 u1 T w∧Q 16 u1 T w∧Q 17 u1 T w∧True) →
 LOOPI [33] [(iV 0)] w fun u3 w next3=>
 rC (u3 33) x16 w fun x34=>
 BR x34
 (cL 234 [a0,(u3 33)] w fun x38 w=>
 rN 25 3 x38 w fun x39=>
 LOOPI [40] [(iV 0)] w fun u6 w next6=>
 rC (u6 40) x39 w fun x41=>
 BR x41
 (rX 25 x38 (u6 40) w fun x42=>
 rL 3 x42 w fun x43=>
 NIL a0 <|
 rF 180 a0 0 w fun x46=>
 rF 28 x46 4 w fun x47=>
 rL 26 x47 w fun x48=>
 rX 26 x48 x43 w fun x50=>
 rL 77 x50 w fun x51=>
 oP (Instr.alloc 77 true (.tuple #[])) w fun x6 w=>
 oS 77 x6 x51 w fun w=>
 JOIN [] (fun J11=>
 rF 77 x6 0 w fun x52=>
 rL 3 x52 w fun x53=>
 rB .eql 3 T0 U0 x53 (iV 4) w fun x54=>
 BR x54
 ((fun w=>NIL a0 <|
 rF 180 a0 2 w fun x57=>
 rL 25 x57 w fun x58=>
 rX 25 x58 (u3 33) w fun x60=>
 rL 3 x60 w fun x61=>
 rF 77 x6 1 w fun x62=>
 rL 3 x62 w fun x63=>
 rD (convert 3 97 x63) w fun x64=>
 rB .shl 3 U0 T0 (iV 1) x64 w fun x65=>
 rB .or 3 T0 T0 x61 x65 w fun x66=>
 rX 25 x58 (u3 33) w fun x67=>
 oS 3 x67 x66 w fun w=>
 J11 [] w) (World.drew1 w))
 (J11 [] w)) (fun u11 w=>
 rF 77 x6 0 w fun x68=>
 rL 3 x68 w fun x69=>
 rB .eql 3 T0 U0 x69 (iV 5) w fun x70=>
 BR x70
 ((fun w=>NIL a0 <|
 rF 180 a0 3 w fun x73=>
 rL 25 x73 w fun x74=>
 rX 25 x74 (u3 33) w fun x76=>
 rL 3 x76 w fun x77=>
 rF 77 x6 1 w fun x78=>
 rL 3 x78 w fun x79=>
 rD (convert 3 97 x79) w fun x80=>
 rB .shl 3 U0 T0 (iV 1) x80 w fun x81=>
 rB .or 3 T0 T0 x77 x81 w fun x82=>
 rX 25 x74 (u3 33) w fun x83=>
 oS 3 x83 x82 w fun w=>
 rA (u6 40) (iV 1) w fun x84=>
 next6 [x84] w) (World.drew1 w))
 (rA (u6 40) (iV 1) w fun x84=>
 next6 [x84] w)))
 (rA (u3 33) (iV 1) w fun x85=>
 next3 [x85] w))
 (LOOPI [87] [(iV 0)] w fun u16 w next16=>
 rC (u16 87) x16 w fun x88=>
 BR x88
 (rD (convert 3 97 (u16 87)) w fun x91=>
 rB .shl 3 U0 T0 (iV 1) x91 w fun x92=>
 LOOPI [8,9] [x92,(Value.bool true)] w fun u20 w next20=>
 BR (u20 9)
 (NIL a0 <|
 rF 180 a0 2 w fun x97=>
 rL 25 x97 w fun x98=>
 cL 235 [x98,(u20 8)] w fun x100 w=>
 rB .or 3 T0 T0 (u20 8) x100 w fun x101=>
 rB .neq 3 T0 T0 x101 (u20 8) w fun x104=>
 next20 [x101,x104] w)
 (NIL a0 <|
 rF 180 a0 4 w fun x108=>
 rL 25 x108 w fun x109=>
 rX 25 x109 (u16 87) w fun x112=>
 oS 3 x112 (u20 8) w fun w=>
 rA (u16 87) (iV 1) w fun x113=>
 next16 [x113] w))
 (R (Value.tuple #[]) w)))) (World.drew1 w)
def cfg171:Cfg:={ ext:=extL,joins:=[(11,295143401579725455360,[])],loops:=[(3,77371252455336258591260776,[33]),(6,38685626227667034078969952,[40]),(16,20769187279396805603449450954491776,[87]),(20,81119734894292398653589812152064,[8,9])],draws:=[(10,[0,1,2,3,4,5,6,7,8,9,10,11,12,13],0),(12,[0,1,2,3,4,5,6,7,8,9,10,11,12,13],0)],pars:=[],gpars:=[(1,4294836224)] }
theorem F171_call {a0:Value} {w:World} {R:VW} (h:F171 a0 w R):cL 171 [a0] w R:=co (g:=cfg171) Tryz.func171 (by kernel_rfl) (by kernel_rfl) (by kernel_rfl) h
open Rep (rep)
abbrev sl (g n:Nat):Value:=.slice (some ⟨g,0,none⟩) n n
structure FC (W0 w:World) (b e:Nat) (c:DCode) (kc:List Value) (m g6 g7 g8:Nat) (c6 c7 c8:List Nat) (x9 x10:Value):Prop where
 wb:WB W0 w b e c kc m (sl g6 c.procs.length) (sl g7 c.procs.length) (sl g8 c.procs.length) x9 x10
 m6:Mine [g6] w (sl g6 c.procs.length) (zaI c6)
 m7:Mine [g7] w (sl g7 c.procs.length) (zaI c7)
 m8:Mine [g8] w (sl g8 c.procs.length) (zaI c8)
 n6:W0.heap.size≤g6∧g6≠b∧g6≠m
 n7:W0.heap.size≤g7∧g7≠b∧g7≠m
 n8:W0.heap.size≤g8∧g8≠b∧g8≠m
 d67:g6≠g7
 d68:g6≠g8
 d78:g7≠g8
section
variable {W0 w w':World} {b e m g6 g7 g8:Nat} {c:DCode} {kc:List Value} {c6 c7 c8:List Nat} {x9 x10:Value}
theorem zdN {F:List Nat} {g:Nat} {v:Value} {l:List Int} (hm:Mine [g] w v l) (hc:Chg F w w') (hg:g∉F):Mine [g] w' v l:=hm.keep fun x hx=>by
 simp only [List.mem_cons,List.not_mem_nil,or_false] at hx;subst hx
 exact hc.block x (hm.lt x (by simp)) hg
theorem FC.step (h:FC W0 w b e c kc m g6 g7 g8 c6 c7 c8 x9 x10) (hx:Ext w w'):FC W0 w' b e c kc m g6 g7 g8 c6 c7 c8 x9 x10:=⟨h.wb.step hx,h.m6.ext hx,h.m7.ext hx,h.m8.ext hx,h.n6,h.n7,h.n8,h.d67,h.d68,h.d78⟩
theorem FC.set6 {i v:Nat} (h:FC W0 w b e c kc m g6 g7 g8 c6 c7 c8 x9 x10) (hc:Chg [g6] w w') (hm:Mine [g6] w' (sl g6 c.procs.length) ((zaI c6).set i (v:Int))):FC W0 w' b e c kc m g6 g7 g8 (c6.set i v) c7 c8 x9 x10:=
 ⟨h.wb.chg hc (by simp [h.n6]),by rw [zfh];exact hm,zdN h.m7 hc (by simp [Ne.symm h.d67]),zdN h.m8 hc (by simp [Ne.symm h.d68]),h.n6,h.n7,h.n8,h.d67,h.d68,h.d78⟩
theorem FC.set7 {i v:Nat} (h:FC W0 w b e c kc m g6 g7 g8 c6 c7 c8 x9 x10) (hc:Chg [g7] w w') (hm:Mine [g7] w' (sl g7 c.procs.length) ((zaI c7).set i (v:Int))):FC W0 w' b e c kc m g6 g7 g8 c6 (c7.set i v) c8 x9 x10:=
 ⟨h.wb.chg hc (by simp [h.n7]),zdN h.m6 hc (by simp [h.d67]),by rw [zfh];exact hm,zdN h.m8 hc (by simp [Ne.symm h.d78]),h.n6,h.n7,h.n8,h.d67,h.d68,h.d78⟩
theorem FC.set8 {i v:Nat} (h:FC W0 w b e c kc m g6 g7 g8 c6 c7 c8 x9 x10) (hc:Chg [g8] w w') (hm:Mine [g8] w' (sl g8 c.procs.length) ((zaI c8).set i (v:Int))):FC W0 w' b e c kc m g6 g7 g8 c6 c7 (c8.set i v) x9 x10:=
 ⟨h.wb.chg hc (by simp [h.n8]),zdN h.m6 hc (by simp [h.d68]),zdN h.m7 hc (by simp [h.d78]),by rw [zfh];exact hm,h.n6,h.n7,h.n8,h.d67,h.d68,h.d78⟩
end
theorem WB.ins {W0 w:World} {b e m:Nat} {c:DCode} {kc:List Value} {x6 x7 x8 x9 x10:Value} (h:WB W0 w b e c kc m x6 x7 x8 x9 x10):∃ v,(kc++[Value.slice (some ⟨m,0,none⟩) c.ins.length c.ins.length,x6,x7,x8,x9,x10])[0+0+4]?=some v∧Is W0 v c.ins:=by
 obtain ⟨F,hr⟩:=h.code
 obtain ⟨F0,c0,F1,c1,F2,c2,F3,c3,F4,c4,rfl,rfl,⟨_,_,_,_,rfl,_⟩,⟨_,_,_,_,rfl,_⟩,⟨_,_,_,_,rfl,_⟩,⟨_,_,_,_,rfl,_⟩,hr4⟩:=zlN hr
 have hr4':=hr4
 obtain ⟨_,_,_,_,rfl,_⟩:=hr4
 exact ⟨_,rfl,_,_,hr4',rfl⟩
def fcD (c:DCode) (op:Int) (p:Nat) (M:List Nat) (j:Nat):Nat→Nat→Prop:=fun q r=>(q<p∧zil c q op r)∨(q=p∧∃ i∈M.take j,(zak c i).op=op∧agN c i=r)
theorem zs7 {c:DCode} {op:Int} {p:Nat} {M:List Nat} {j i:Nat} (htj:∀ x,x∈M.take (j+1)↔x∈M.take j∨x=i) (hn:¬(zak c i).op=op) (q r:Nat):fcD c op p M j q r↔fcD c op p M (j+1) q r:=by
 unfold fcD
 refine or_congr Iff.rfl (and_congr Iff.rfl ?_)
 constructor
 · rintro ⟨x,hx,h⟩;exact ⟨x,(htj x).2 (.inl hx),h⟩
 rintro ⟨x,hx,h⟩
 rcases (htj x).1 hx with hx | rfl
 · exact ⟨x,hx,h⟩
 exact absurd h.1 hn
theorem zrq {c:DCode} {op:Int} {p:Nat} {M:List Nat} {j i:Nat} (htj:∀ x,x∈M.take (j+1)↔x∈M.take j∨x=i) (hy:(zak c i).op=op) (q r:Nat):fcD c op p M (j+1) q r↔fcD c op p M j q r∨(q=p∧r=agN c i):=by
 unfold fcD
 constructor
 · rintro (h | ⟨h1,x,hx,h⟩)
   · exact .inl (.inl h)
   rcases (htj x).1 hx with hx | rfl
   · exact .inl (.inr ⟨h1,x,hx,h⟩)
   exact .inr ⟨h1,h.2.symm⟩
 rintro ((h | ⟨h1,x,hx,h⟩) | ⟨h1,h2⟩)
 · exact .inl h
 · exact .inr ⟨h1,x,(htj x).2 (.inl hx),h⟩
 exact .inr ⟨h1,i,(htj i).2 (.inr rfl),hy,h2.symm⟩
theorem zrr {c:DCode} (hc:CodeR c) {op:Int} (hop:op=4∨op=5) {p:Nat} {M:List Nat} (hp:p<c.procs.length) (hM:∀ i,i∈M↔zaB c p i) (q r:Nat):fcD c op p M M.length q r↔fcD c op (p+1) [] 0 q r:=by
 have key:(∃ i∈M.take M.length,(zak c i).op=op∧agN c i=r)↔zil c p op r:=by
   rw [List.take_length]
   constructor
   · rintro ⟨i,hi,h1,h2⟩
     have hl:=(hM i).1 hi
     have hin:=(zbq hc (by rw [hc.2.1.1];exact hp) hl).1
     exact ⟨i,hin,hl,h1,by rw [(zbN hc hin (by omega)).1,h2]⟩
   rintro ⟨i,hin,hl,h1,h2⟩
   have:=(zbN hc hin (by omega)).1
   exact ⟨i,(hM i).2 hl,h1,by omega⟩
 unfold fcD
 constructor
 · rintro (h | ⟨rfl,h⟩)
   · exact .inl ⟨by omega,h.2⟩
   exact .inl ⟨by omega,key.1 h⟩
 rintro (⟨h1,h2⟩ | ⟨_,x,hx,_⟩)
 · by_cases e:q=p
   · subst e;exact .inr ⟨rfl,key.2 h2⟩
   exact .inl ⟨by omega,h2⟩
 simp at hx
theorem zrs {c:DCode} {op:Int} {p:Nat} {M:List Nat} (q r:Nat):fcD c op p [] 0 q r↔fcD c op p M 0 q r:=by
 unfold fcD;simp
theorem CS.done {c:DCode} {op:Int} {out:List Nat} (h:CS c out (fcD c op c.procs.length [] 0)):out=cls c op:=
 CS.eq_cls (op:=op) (h.mono fun q r hq hr=>by unfold fcD;simp [hq])
structure UM (c:DCode) (p m:Nat):Prop where
 lt:m<2^c.procs.length
 self:m.testBit p=true
 snd:∀ r,m.testBit r=true→FromP c p r
theorem UM.start {c:DCode} {p:Nat} (hp:p<c.procs.length):UM c p (2^p):=⟨Nat.pow_lt_pow_right (by omega) hp,by simp [Nat.testBit_two_pow],fun r hr=>by simp [Nat.testBit_two_pow] at hr;exact .inl hr.symm⟩
theorem zhN {c:DCode} {op:Int} {q r:Nat} (hq:q<c.procs.length):(zaw (cls c op) q).testBit r=true↔r<c.procs.length∧zil c q op r:=by rw [zs3 hq,zch]
theorem UM.more {c:DCode} (h8:c.procs.length≤8) {p m:Nat} (h:UM c p m):UM c p (m ||| orL (cls c 4) (zcd m)):=by
 have hb:∀ r,(orL (cls c 4) (zcd m)).testBit r=true→∃ i,i<c.procs.length∧m.testBit i=true∧r<c.procs.length∧zil c i 4 r:=fun r hr=>by
   obtain ⟨i,h1,h2,h3⟩:=(zg8 h.lt (by omega)).1 hr
   exact ⟨i,h1,h2,(zhN h1).1 h3⟩
 refine ⟨Nat.or_lt_two_pow h.lt (znE fun r hr=>by obtain ⟨i,_,_,h3,_⟩:=hb r hr;exact h3),by rw [Nat.testBit_or,h.self];rfl,fun r hr=>?_⟩
 rw [Nat.testBit_or,Bool.or_eq_true] at hr
 rcases hr with hr | hr
 · exact h.snd r hr
 obtain ⟨i,h1,h2,h3,h4⟩:=hb r hr
 exact (h.snd i h2).call h3 h4
theorem UM.fin {c:DCode} (h8:c.procs.length≤8) {p m:Nat} (h:UM c p m) (he:m ||| orL (cls c 4) (zcd m)=m):m=zhc (FromP c p) c.procs.length:=by
 have hlt:∀ r,m.testBit r=true→r<c.procs.length:=fun r hr=>Decidable.byContradiction fun hn=>by
   have:=Nat.testBit_lt_two_pow (Nat.lt_of_lt_of_le h.lt (Nat.pow_le_pow_right (by omega) (by omega:c.procs.length≤r)))
   rw [this] at hr;cases hr
 refine zfe fun r=>⟨fun hr=>⟨hlt r hr,h.snd r hr⟩,fun ⟨_,hf⟩=>?_⟩
 have step:∀ i j,m.testBit i=true→j∈zjl c i→m.testBit j=true:=fun i j hi hj=>by
   obtain ⟨hj1,hj2⟩:=zaT.1 hj
   rw [←he,Nat.testBit_or,(zg8 h.lt (by omega)).2 ⟨i,hlt i hi,hi,(zhN (hlt i hi)).2 ⟨hj1,hj2⟩⟩]
   simp
 rcases hf with rfl | hf
 · exact h.self
 exact hf.keeps (p:=fun i=>m.testBit i=true) h.self step
theorem zoN {c:DCode} (h8:c.procs.length≤8) (op:Int):∀ x∈cls c op,x<256:=fun x hx=>by
 obtain ⟨q,_,rfl⟩:=List.mem_map.1 hx
 exact zaY h8
theorem zuX {c:DCode} (h8:c.procs.length≤8):∀ x∈frs c,x<256:=fun x hx=>by
 obtain ⟨q,_,rfl⟩:=List.mem_map.1 hx
 exact zaY h8
theorem zmy {w W0:World} {b e m:Nat} {c:DCode} {kc:List Value} {x6 x7 x8 x9 x10:Value} (H:WB W0 w b e c kc m x6 x7 x8 x9 x10) (hc:CodeR c) :
   CALL Tryz.prog 171 [.pointer (some ⟨b,0,none⟩)] w fun r w'=>r=.tuple #[]∧∃ g6 g7 g8,FC W0 w' b e c kc m g6 g7 g8 (cls c 4) (cls c 5) (frs c) x9 x10:=by
 refine F171_call ?_
 unfold F171
 have h8:=hc.1.procs8
 have hil:=hc.f.ins
 refine NIL.mk rfl ?_
 refine zaa za5 ?_
 refine zaa zbb ?_
 refine zab zcj (zat H.code_at) (Ext.refl _) fun v15 h15=>?_
 refine zag u24 h15 ?_
 have hxd:=zaj w
 have H1:=H.step hxd
 have h6:(kc++[sl m c.ins.length]).length=6:=by rw [List.length_append,H.k5];rfl
 have hB0:fcB (World.drew1 w) b e (kc++[sl m c.ins.length]) x9 x10 (World.drew1 w):=⟨ChgI.refl _,x6,x7,x8,by rw [List.append_assoc];exact H1.blk⟩
 have hbl:=H1.blk.lt
 have hsd:(World.drew1 w).heap.size=w.heap.size:=rfl
 refine GPAR.mk (fcB (World.drew1 w) b e (kc++[sl m c.ins.length]) x9 x10) (fcR b e) (fcQ b e c.procs.length) hB0 (fun j w1 w2 h1 h2=>h1.step h6 h2) (fun j w1 w2 h=>h.sz) ?_ ?_ ?_
 · intro i j u u' T T' wa wb hij hBa hR hd hq
   match i,hij,hd,hq with
   | 0,_,hd,hq=>exact (hd (0,17) (by decide)).1.trans hq
   | 1,_,hd,hq=>exact (hd (1,18) (by decide)).1.trans hq
   | 2,_,hd,hq=>exact (hd (2,19) (by decide)).1.trans hq
   | 3,_,hd,hq=>exact (hd (3,20) (by decide)).1.trans hq
   | 4,_,hd,⟨g,q1,q2,q3,q4,q5⟩=>
     obtain ⟨e1,e2⟩:=hd (4,21) (by decide)
     simp only at e1 e2
     exact ⟨g,e1.trans q1,by rw [e2];exact q2,by rw [e2];exact q3,q4,hR.mine q4 q5⟩
   | 5,_,hd,hq=>exact (hd (5,22) (by decide)).1.trans hq
   | 6,_,hd,⟨g,q1,q2,q3,q4,q5⟩=>
     obtain ⟨e1,e2⟩:=hd (6,23) (by decide)
     simp only at e1 e2
     exact ⟨g,e1.trans q1,by rw [e2];exact q2,by rw [e2];exact q3,q4,hR.mine q4 q5⟩
   | 7,_,hd,hq=>exact (hd (7,24) (by decide)).1.trans hq
   | 8,_,hd,⟨g,q1,q2,q3,q4,q5⟩=>
     obtain ⟨e1,e2⟩:=hd (8,25) (by decide)
     simp only at e1 e2
     exact ⟨g,e1.trans q1,by rw [e2];exact q2,by rw [e2];exact q3,q4,hR.mine q4 q5⟩
   | 9,_,hd,hq=>exact (hd (9,26) (by decide)).1.trans hq
   | 10,_,hd,hq=>exact (hd (10,27) (by decide)).1.trans hq
   | 11,hij,hd,hq=>
     have e1:=(hd (4,21) (by decide)).1
     simp only at e1
     show ∃ cs,Blk b e wb cs∧cs[6]?=some (u' 21)
     rw [e1]
     exact hR.cell (fun hs=>by rcases hs with rfl | rfl | rfl<;>first | exact absurd rfl hij | decide) hq
   | 12,_,hd,hq=>exact (hd (12,28) (by decide)).1.trans hq
   | 13,_,hd,hq=>exact (hd (13,29) (by decide)).1.trans hq
   | 14,hij,hd,hq=>
     have e1:=(hd (6,23) (by decide)).1
     simp only at e1
     show ∃ cs,Blk b e wb cs∧cs[7]?=some (u' 23)
     rw [e1]
     exact hR.cell (fun hs=>by rcases hs with rfl | rfl | rfl<;>first | exact absurd rfl hij | decide) hq
   | 15,_,hd,hq=>exact (hd (15,30) (by decide)).1.trans hq
   | 16,_,hd,hq=>exact (hd (16,31) (by decide)).1.trans hq
   | 17,hij,hd,hq=>
     have e1:=(hd (8,25) (by decide)).1
     simp only at e1
     show ∃ cs,Blk b e wb cs∧cs[8]?=some (u' 25)
     rw [e1]
     exact hR.cell (fun hs=>by rcases hs with rfl | rfl | rfl<;>first | exact absurd rfl hij | decide) hq
   | n+18,_,_,_=>trivial
 · have nf:∀ j,j≠11→j≠14→j≠17→¬zul j:=fun j a b d h=>by rcases h with h | h | h<;>contradiction
   refine ⟨?_,?_,?_,?_,?_,?_,?_,?_,?_,?_,?_,?_,?_,?_,?_,?_,?_,?_,trivial⟩
   · exact fun u T w' hB hs _ _=>⟨.ext (nf _ (by decide) (by decide) (by decide)) (Ext.refl _),rfl⟩
   · exact fun u T w' hB hs _ _=>⟨.ext (nf _ (by decide) (by decide) (by decide)) (Ext.refl _),rfl⟩
   · exact fun u T w' hB hs _ _=>⟨.ext (nf _ (by decide) (by decide) (by decide)) (Ext.refl _),rfl⟩
   · exact fun u T w' hB hs _ _=>⟨.ext (nf _ (by decide) (by decide) (by decide)) (Ext.refl _),rfl⟩
   · intro u T w' hB hs _ hp
     have q2:u 20=_:=hp.1
     rw [q2]
     exact zdn h8.2 (by omega) fun w4 hx4 r=>⟨.ext (nf _ (by decide) (by decide) (by decide)) hx4,_,rfl,Nat.le_refl _,r.lt _ (List.mem_singleton.2 rfl),by obtain ⟨_,_,_,_,hb⟩:=hB;have:=hb.lt;omega,r⟩
   · exact fun u T w' hB hs _ _=>⟨.ext (nf _ (by decide) (by decide) (by decide)) (Ext.refl _),rfl⟩
   · intro u T w' hB hs _ hp
     have q2:u 22=_:=hp.1
     rw [q2]
     exact zdn h8.2 (by omega) fun w4 hx4 r=>⟨.ext (nf _ (by decide) (by decide) (by decide)) hx4,_,rfl,Nat.le_refl _,r.lt _ (List.mem_singleton.2 rfl),by obtain ⟨_,_,_,_,hb⟩:=hB;have:=hb.lt;omega,r⟩
   · exact fun u T w' hB hs _ _=>⟨.ext (nf _ (by decide) (by decide) (by decide)) (Ext.refl _),rfl⟩
   · intro u T w' hB hs _ hp
     have q2:u 24=_:=hp.1
     rw [q2]
     exact zdn h8.2 (by omega) fun w4 hx4 r=>⟨.ext (nf _ (by decide) (by decide) (by decide)) hx4,_,rfl,Nat.le_refl _,r.lt _ (List.mem_singleton.2 rfl),by obtain ⟨_,_,_,_,hb⟩:=hB;have:=hb.lt;omega,r⟩
   · intro u T w' hB hs _ hp
     have q:u 17=_:=hp.1
     rw [q]
     exact NIL.mk rfl ⟨.ext (nf _ (by decide) (by decide) (by decide)) (Ext.refl _),rfl⟩
   · intro u T w' hB hs _ hp
     have q:u 26=_:=hp.1
     rw [q]
     exact zaa zkF ⟨.ext (nf _ (by decide) (by decide) (by decide)) (Ext.refl _),rfl⟩
   · intro u T w' hB hs _ hp
     have q:u 27=_:=hp.1
     obtain ⟨g,q1,_⟩:=hp.2.1
     rw [q,q1]
     refine zls (j:=11) (.inl rfl) h6 hB fun w2 hR hQ=>⟨hR,?_⟩
     show ∃ cs,Blk b e w2 cs∧cs[6]?=some (u 21)
     rw [q1];exact hQ
   · intro u T w' hB hs _ hp
     have q:u 18=_:=hp.1
     rw [q]
     exact NIL.mk rfl ⟨.ext (nf _ (by decide) (by decide) (by decide)) (Ext.refl _),rfl⟩
   · intro u T w' hB hs _ hp
     have q:u 28=_:=hp.1
     rw [q]
     exact zaa zm2 ⟨.ext (nf _ (by decide) (by decide) (by decide)) (Ext.refl _),rfl⟩
   · intro u T w' hB hs _ hp
     have q:u 29=_:=hp.1
     obtain ⟨g,q1,_⟩:=hp.2.1
     rw [q,q1]
     refine zls (j:=14) (.inr (.inl rfl)) h6 hB fun w2 hR hQ=>⟨hR,?_⟩
     show ∃ cs,Blk b e w2 cs∧cs[7]?=some (u 23)
     rw [q1];exact hQ
   · intro u T w' hB hs _ hp
     have q:u 19=_:=hp.1
     rw [q]
     exact NIL.mk rfl ⟨.ext (nf _ (by decide) (by decide) (by decide)) (Ext.refl _),rfl⟩
   · intro u T w' hB hs _ hp
     have q:u 30=_:=hp.1
     rw [q]
     exact zaa ziJ ⟨.ext (nf _ (by decide) (by decide) (by decide)) (Ext.refl _),rfl⟩
   intro u T w' hB hs _ hp
   have q:u 31=_:=hp.1
   obtain ⟨g,q1,_⟩:=hp.2.1
   rw [q,q1]
   refine zls (j:=17) (.inr (.inr rfl)) h6 hB fun w2 hR hQ=>⟨hR,?_⟩
   show ∃ cs,Blk b e w2 cs∧cs[8]?=some (u 25)
   rw [q1];exact hQ
 rintro u T w2 hB hs hap ⟨-,-,-,-,⟨g6,q21,ha6,hb6,hn6,hM6⟩,-,⟨g7,q23,ha7,hb7,hn7,hM7⟩,-,⟨g8,q25,ha8,hb8,hn8,hM8⟩,-,-,⟨cs6,hB6,hc6⟩,-,-,⟨cs7,hB7,hc7⟩,-,-,⟨cs8,hB8,hc8⟩,-⟩
 have t4:=hap.1 4 (by decide)
 have t6:=hap.1 6 (by decide)
 have t8:=hap.1 8 (by decide)
 have d46:=hap.2 4 (by decide) 6 (by decide) (by decide)
 have d48:=hap.2 4 (by decide) 8 (by decide) (by decide)
 have d68:=hap.2 6 (by decide) 8 (by decide) (by decide)
 obtain ⟨hch,y6,y7,y8,hBB⟩:=hB
 have u6:=hBB.uniq hB6
 have u7:=hBB.uniq hB7
 have u8:=hBB.uniq hB8
 subst u6 u7 u8
 rw [List.getElem?_append_right (by rw [h6];decide),h6,q21] at hc6
 rw [List.getElem?_append_right (by rw [h6];decide),h6,q23] at hc7
 rw [List.getElem?_append_right (by rw [h6];decide),h6,q25] at hc8
 have e6:y6=sl g6 c.procs.length:=by simpa using hc6
 have e7:y7=sl g7 c.procs.length:=by simpa using hc7
 have e8:y8=sl g8 c.procs.length:=by simpa using hc8
 subst e6 e7 e8
 rw [List.append_assoc] at hBB
 have hW2:=H1.cells hch hBB
 have hml:=H1.live.lt m (by simp)
 have hb0:=H.b0
 have hF2:FC W0 w2 b e c kc m g6 g7 g8 (List.replicate c.procs.length 0) (List.replicate c.procs.length 0) (List.replicate c.procs.length 0) x9 x10:=⟨hW2,hM6,hM7,hM8,⟨by omega,hn6,by omega⟩,⟨by omega,hn7,by omega⟩,⟨by omega,hn8,by omega⟩,by omega,by omega,by omega⟩
 clear hc6 hc7 hc8 hB6 hB7 hB8 hBB hW2 hch H1 hB0 hap d46 d48 d68 t4 t6 t8
 have hz:∀ op,CS c (List.replicate c.procs.length 0) (fcD c op 0 [] 0):=fun op=>CS.zero fun q r h=>by unfold fcD at h;simp at h
 have hz4:=hz 4
 have hz5:=hz 5
 have hc8l:(List.replicate c.procs.length 0).length=c.procs.length:=by simp
 refine zas c.procs.length (fun k us w'=>∃ c6 c7,us=[.int .i64 (k:Int)]∧k≤c.procs.length∧FC W0 w' b e c kc m g6 g7 g8 c6 c7 (List.replicate c.procs.length 0) x9 x10∧CS c c6 (fcD c 4 k [] 0)∧CS c c7 (fcD c 5 k [] 0)) 0 (Nat.zero_le _) ⟨_,_,rfl,Nat.zero_le _,hF2,hz4,hz5⟩ ?_
 rintro p mk u3 w3 hkm ⟨c6,c7,hu,hkl,hF3,hC6,hC7⟩
 simp only [List.map_cons,List.map_nil,List.cons.injEq,and_true] at hu
 rw [hu]
 refine zah ?_
 refine br (fun hlt=>?_) (fun hge=>?_)
 · have hp:p<c.procs.length:=by omega
   have hpe:p<c.entry.length:=by rw [hc.2.1.1];exact hp
   refine (zfJ hF3.wb.wl (Ext.refl _) hc hp).mono ?_
   rintro v38 w4 ⟨hx4,ho4⟩
   have hF4:=hF3.step hx4
   have hM:∀ i,i∈zbn c.ins.length (zaB c p)↔zaB c p i:=fun i=>by rw [zaT];exact ⟨fun h=>h.2,fun h=>⟨(zbq hc hpe h).1,h⟩⟩
   have hMl:(zbn c.ins.length (zaB c p)).length≤1500:=Nat.le_trans za6 hil
   generalize zbn c.ins.length (zaB c p)=M at *
   have hg6:=hF3.m6.lt g6 (by simp)
   have hg7:=hF3.m7.lt g7 (by simp)
   refine zag u25 ho4.is ?_
   rw [zae]
   refine zas M.length (fun j us w'=>∃ c6 c7,us=[.int .i64 (j:Int)]∧j≤M.length∧FC W0 w' b e c kc m g6 g7 g8 c6 c7 (List.replicate c.procs.length 0) x9 x10∧CS c c6 (fcD c 4 p M j)∧CS c c7 (fcD c 5 p M j)∧OwnI w3.heap.size w4.heap.size w' v38 (zaI M)) 0 (Nat.zero_le _) ⟨c6,c7,rfl,Nat.zero_le _,hF4,hC6.mono fun q r _ _=>zrs q r,hC7.mono fun q r _ _=>zrs q r,ho4.toI⟩ ?_
   rintro j mj u5 w5 hjm ⟨c65,c75,hu,hjl,hF5,hC65,hC75,hO5⟩
   simp only [List.map_cons,List.map_nil,List.cons.injEq,and_true] at hu
   rw [hu]
   refine zah ?_
   refine br (fun hlt5=>?_) (fun hge5=>?_)
   case refine_2=>
     have hje:j=M.length:=by omega
     rw [hje] at hC65 hC75
     refine zaf (by omega) ?_
     exact ⟨mk-1,by omega,p+1,by omega,c65,c75,rfl,by omega,hF5,hC65.mono fun q r _ _=>zrr hc (.inl rfl) hp hM q r,hC75.mono fun q r _ _=>zrr hc (.inr rfl) hp hM q r⟩
   have hj:j<M.length:=by omega
   refine zad u25 ty3 (i:=j) hO5.is (by rw [zae];exact hj) fun b2 o2 hA2=>?_
   rw [zaM] at hA2
   refine zac ty3 hA2 (Ext.refl _) fun _=>?_
   have htj:=fun x=>zbe hj (x:=x)
   have hiv:=(hM M[j]).1 (List.getElem_mem hj)
   generalize M[j]=i at *
   have hin:=(zbq hc hpe hiv).1
   obtain ⟨v4,hv4,hi4⟩:=hF5.wb.ins
   refine NIL.mk rfl ?_
   refine zaa za5 ?_
   refine zaa zaG ?_
   refine zaA zcO hF5.wb.blk hv4 ?_
   refine zad u26 zc6 hi4 hin fun b3 o3 hA3=>?_
   rw [zaF] at hA3
   refine zab zc6 hA3 hF5.wb.ext fun v51 h51=>?_
   refine zce zpE rfl zc6 rfl h51 hF5.wb.ext fun w6 hx6 hAI hV6=>?_
   have hF6:=hF5.step hx6
   have hO6:=hO5.ext hx6
   have hAB6:=zgl h51 hV6 rfl
   have hgI:=hV6.lt
   have hgI0:w5.heap.size≠g6:=by have:=hF5.m6.lt g6 (by simp);omega
   generalize w5.heap.size=gI at *
   refine JOIN.mk (fun us w'=>∃ c6',FC W0 w' b e c kc m g6 g7 g8 c6' c75 (List.replicate c.procs.length 0) x9 x10∧CS c c6' (fcD c 4 p M (j+1))∧OwnI w3.heap.size w4.heap.size w' v38 (zaI M)∧AtB W0 w' gI 0 (zak c i)) ?_ ?_
   · refine zaa zbf ?_
     refine zac ty3 (zay hAI) (Ext.refl _) fun _=>?_
     refine zai ?_
     refine br (fun c4=>?_) (fun c4=>?_)
     · obtain ⟨ha1,ha2⟩:=zbN hc hin (.inl c4)
       have hxd:=zaj w6
       have hF7:=hF6.step hxd
       have hO7:=hO6.ext hxd
       have hAB7:=hAB6.ext hxd
       have hgI7:gI<(World.drew1 w6).heap.size:=Nat.lt_of_lt_of_le hgI hxd.size
       generalize World.drew1 w6=w7 at *
       have hpl:p<c65.length:=by rw [hC65.1];exact hp
       refine NIL.mk rfl ?_
       refine zaa zkF ?_
       refine zaA zcN hF7.wb.blk (hF7.wb.cell 1) ?_
       refine zad u25 ty3 (i:=p) hF7.m6.is (by rw [zae];exact hpl) fun b4 o4 hA4=>?_
       rw [zaK] at hA4
       refine zac ty3 hA4 (Ext.refl _) fun _=>?_
       have h256:=hC65.lt0 h8.1 hp
       refine zaa zbu ?_
       refine zac ty3 (zaC hAI) hxd fun _=>?_
       rw [ha1]
       have hpw:2^agN c i<256:=Nat.lt_of_lt_of_le (Nat.pow_lt_pow_right (by omega) ha2) (Nat.pow_le_pow_right (n:=2) (by omega) h8.1)
       refine zdA (by kernel_rfl) u97 (by omega) ?_
       refine zer (by omega) ?_
       refine zge (m:=zaw c65 p) (n:=2^agN c i) (by omega) (by omega) ?_
       have hor:zaw c65 p ||| 2^agN c i<256:=Nat.or_lt_two_pow (n:=8) h256 hpw
       refine zbv (α:=Int) rfl u25 ty3 hp ?_
       refine za0 (α:=Int) rfl ty3 hF7.m6 (by rw [zae,hC65.1]) hp (zbt (v:=zaw c65 p ||| 2^agN c i) (by omega)) fun w8 hc8 hm8=>?_
       have hF8:=hF7.set6 (v:=zaw c65 p ||| 2^agN c i) hc8 hm8
       exact ⟨_,hF8,hC65.set hp ha2 fun q r=>zrq htj c4 q r,hO7.chgF hc8 (by simp;omega),hAB7.keep (hc8.block gI hgI7 (by simp;exact hgI0))⟩
     exact ⟨c65,hF6,hC65.mono fun q r _ _=>zs7 htj c4 q r,hO6,hAB6⟩
   rintro u9 w9 ⟨c69,hF9,hC69,hO9,hAB9⟩
   have hAI9:=hAB9.at hF9.wb.ext
   refine zaa zbf ?_
   refine zac ty3 (zay hAI9) (Ext.refl _) fun _=>?_
   refine zai ?_
   refine br (fun c5=>?_) (fun c5=>?_)
   · obtain ⟨ha1,ha2⟩:=zbN hc hin (.inr c5)
     have hxd:=zaj w9
     have hF10:=hF9.step hxd
     have hO10:=hO9.ext hxd
     generalize World.drew1 w9=w10 at *
     have hpl:p<c75.length:=by rw [hC75.1];exact hp
     refine NIL.mk rfl ?_
     refine zaa zm2 ?_
     refine zaA zcN hF10.wb.blk (hF10.wb.cell 2) ?_
     refine zad u25 ty3 (i:=p) hF10.m7.is (by rw [zae];exact hpl) fun b4 o4 hA4=>?_
     rw [zaK] at hA4
     refine zac ty3 hA4 (Ext.refl _) fun _=>?_
     have h256:=hC75.lt0 h8.1 hp
     refine zaa zbu ?_
     refine zac ty3 (zaC hAI9) hxd fun _=>?_
     rw [ha1]
     have hpw:2^agN c i<256:=Nat.lt_of_lt_of_le (Nat.pow_lt_pow_right (by omega) ha2) (Nat.pow_le_pow_right (n:=2) (by omega) h8.1)
     refine zdA (by kernel_rfl) u97 (by omega) ?_
     refine zer (by omega) ?_
     refine zge (m:=zaw c75 p) (n:=2^agN c i) (by omega) (by omega) ?_
     have hor:zaw c75 p ||| 2^agN c i<256:=Nat.or_lt_two_pow (n:=8) h256 hpw
     refine zbv (α:=Int) rfl u25 ty3 hp ?_
     refine za0 (α:=Int) rfl ty3 hF10.m7 (by rw [zae,hC75.1]) hp (zbt (v:=zaw c75 p ||| 2^agN c i) (by omega)) fun w11 hc11 hm11=>?_
     have hF11:=hF10.set7 (v:=zaw c75 p ||| 2^agN c i) hc11 hm11
     refine zaf (by omega) ?_
     exact ⟨mj-1,by omega,j+1,by omega,c69,_,rfl,by omega,hF11,hC69,hC75.set hp ha2 fun q r=>zrq htj c5 q r,hO10.chgF hc11 (by simp;omega)⟩
   refine zaf (by omega) ?_
   exact ⟨mj-1,by omega,j+1,by omega,c69,c75,rfl,by omega,hF9,hC69,hC75.mono fun q r _ _=>zs7 htj c5 q r,hO9⟩
 have hke:p=c.procs.length:=by omega
 rw [hke] at hC6 hC7
 rw [hC6.done,hC7.done] at hF3
 clear hC6 hC7 hF2 hkm hu
 have hCz:CS c (List.replicate c.procs.length 0) (fun q r=>q<0∧FromP c q r):=CS.zero fun q r h=>by omega
 generalize List.replicate c.procs.length 0=c8 at *
 refine zas c.procs.length (fun k us w'=>∃ c8,us=[.int .i64 (k:Int)]∧k≤c.procs.length∧FC W0 w' b e c kc m g6 g7 g8 (cls c 4) (cls c 5) c8 x9 x10∧CS c c8 (fun q r=>q<k∧FromP c q r)) 0 (Nat.zero_le _) ⟨_,rfl,Nat.zero_le _,hF3,hCz⟩ ?_
 rintro k mk u4 w4 hkm ⟨c84,hu,hkl,hF4,hC84⟩
 simp only [List.map_cons,List.map_nil,List.cons.injEq,and_true] at hu
 rw [hu]
 refine zah ?_
 refine br (fun hlt4=>?_) (fun hge4=>?_)
 case refine_2=>
   have hke:k=c.procs.length:=by omega
   rw [hke] at hC84
   have:c84=frs c:=by
     refine List.ext_getElem (by rw [hC84.1,zhM]) fun i h1 h2=>?_
     have hi:i<c.procs.length:=by rw [←hC84.1];exact h1
     rw [zaU h1,zaU h2,zoz hi,hC84.2 i hi]
     exact zdh fun r _=>⟨fun h=>h.2,fun h=>⟨hi,h⟩⟩
   rw [this] at hF4
   exact ⟨rfl,g6,g7,g8,hF4⟩
 have hk:k<c.procs.length:=by omega
 refine zdA (by kernel_rfl) u97 (by omega) ?_
 refine zer (by omega) ?_
 have hU:=UM.start (c:=c) hk
 have h8':2^c.procs.length≤256:=Nat.pow_le_pow_right (n:=2) (by omega) h8.1
 refine LOOPI.mk (fun mm us w'=>∃ (s:Nat) (ag:Bool),us=[.int .i64 (s:Int),.bool ag]∧mm=(256-s)+(if ag then 1 else 0)∧FC W0 w' b e c kc m g6 g7 g8 (cls c 4) (cls c 5) c84 x9 x10∧UM c k s∧(ag=false→s=zhc (FromP c k) c.procs.length)) (256-2^k+1) ⟨2^k,true,rfl,rfl,hF4,hU,fun e=>by cases e⟩ ?_
 rintro mm u5 w5 ⟨s,ag,hu,hm,hF5,hU5,hend⟩
 obtain ⟨hu1,hu2⟩:=zcC hu
 rw [hu1,hu2]
 have hs256:s<256:=Nat.lt_of_lt_of_le hU5.lt h8'
 refine zbw (fun hag=>?_) (fun hag=>?_)
 · rw [hag,if_pos rfl] at hm
   refine NIL.mk rfl ?_
   refine zaa zkF ?_
   refine zaA zcN hF5.wb.blk (hF5.wb.cell 1) ?_
   refine (zf0 hF5.m6.is (Ext.refl _) (zoN h8.1 4) (by rw [zfK];exact h8.1) (m:=s) (by rw [zfK];exact hU5.lt)).mono ?_
   rintro _ w6 ⟨hx6,rfl⟩
   have hF6:=hF5.step hx6
   have hor:=zot (zoN h8.1 4) (zcd s)
   have hU6:=hU5.more h8.1
   have hfin:=hU5.fin h8.1
   have hgt:=fun h=>zsr (m:=orL (cls c 4) (zcd s)) (n:=s) h
   refine zge (m:=s) (n:=orL (cls c 4) (zcd s)) (by omega) (by omega) ?_
   have hor2:s ||| orL (cls c 4) (zcd s)<256:=Nat.or_lt_two_pow (n:=8) hs256 hor
   generalize s ||| orL (cls c 4) (zcd s)=t at *
   refine zaN ?_
   by_cases hts:t=s
   · refine ⟨256-t,by omega,t,_,rfl,?_,hF6,hU6,fun _=>by rw [hts];exact hfin hts⟩
     rw [hts];simp
   have hd:decide ((t:Int)≠(s:Int))=true:=decide_eq_true fun h=>hts (Int.ofNat_inj.1 h)
   have:=hgt hts
   rw [hd]
   exact ⟨256-t+1,by omega,t,true,rfl,rfl,hF6,hU6,fun e=>by cases e⟩
 have hse:=hend hag
 have hpl:k<c84.length:=by rw [hC84.1];exact hk
 refine NIL.mk rfl ?_
 refine zaa ziJ ?_
 refine zaA zcN hF5.wb.blk (hF5.wb.cell 3) ?_
 refine zbv (α:=Int) rfl u25 ty3 hk ?_
 refine za0 (α:=Int) rfl ty3 hF5.m8 (by rw [zae,hC84.1]) hk (zbt (v:=s) (by omega)) fun w6 hc6 hm6=>?_
 have hF6:=hF5.set8 (v:=s) hc6 hm6
 refine zaf (by omega) ?_
 refine ⟨mk-1,by omega,k+1,by omega,_,rfl,by omega,hF6,by simp [hC84.1],fun q hq=>?_⟩
 rw [zbF hpl]
 split
 · rename_i e
   subst e
   rw [hse]
   exact zdh fun r _=>⟨fun h=>⟨by omega,h⟩,fun h=>h.2⟩
 rename_i e
 rw [hC84.2 q hq]
 exact zdh fun r _=>⟨fun h=>⟨by omega,h.2⟩,fun h=>⟨by omega,h.2⟩⟩
def F236 (a0:Value) (w:World) (R:VW):Prop:=
 NIL a0 <|
 rF 180 a0 0 w fun x5=>
 rF 28 x5 2 w fun x6=>
 rL 24 x6 w fun x7=>
 cL 134 [x7,(Value.string (ByteArray.mk #[109,97,105,110]))] w fun x8 w=>
 R x8 w
def cfg236:Cfg:=⟨extL,[],[],[],[],[],[]⟩
theorem F236_call {a0:Value} {w:World} {R:VW} (h:F236 a0 w R):cL 236 [a0] w R:=co (g:=cfg236) Tryz.func236 (by kernel_rfl) (by kernel_rfl) (by kernel_rfl) h
def F172 (a0:Value) (w:World) (R:VW):Prop:=
 cL 236 [a0] w fun x6 w=>
 rD (convert 3 97 x6) w fun x7=>
 rB .shl 3 U0 T0 (iV 1) x7 w fun x8=>
 LOOPI [2,3] [x8,(Value.bool true)] w fun u2 w next2=>
 BR (u2 3)
 (NIL a0 <|
 rF 180 a0 4 w fun x13=>
 rL 25 x13 w fun x14=>
 cL 235 [x14,(u2 2)] w fun x16 w=>
 NIL a0 <|
 rF 180 a0 6 w fun x18=>
 oS 3 x18 x16 w fun w=>
 (fun w=>NIL a0 <|
 rF 180 a0 3 w fun x22=>
 rL 25 x22 w fun x23=>
 NIL a0 <|
 rF 180 a0 6 w fun x26=>
 rL 3 x26 w fun x27=>
 (fun w_=>cL 235 [x23,x27] w_ fun x28 w=>
 Ext w_ w ∧
 rB .or 3 T0 T0 (u2 2) x28 w fun x29=>
 rB .neq 3 T0 T0 x29 (u2 2) w fun x32=>
 next2 [x29,x32] w) w) (World.drew1 w))
 (NIL a0 <|
 rF 180 a0 5 w fun x37=>
 oS 3 x37 (u2 2) w fun w=>
 R (Value.tuple #[]) w)
def cfg172:Cfg:=⟨extL,[],[(2,17179868700,[2,3])],[(4,[0,1,2,3,4,5,6,7,8,9,10,11],512)],[],[],[]⟩
theorem F172_call {a0:Value} {w:World} {R:VW} (h:F172 a0 w R):cL 172 [a0] w R:=co (g:=cfg172) Tryz.func172 (by kernel_rfl) (by kernel_rfl) (by kernel_rfl) h
def F109 (a0:Value) (w:World) (R:VW):Prop:=
 oP (Instr.box 28 a0) w fun x1 w=>
 rL 28 x1 w fun x7=>
 cL 72 [x7] w fun x8 w=>
 rD (Op.unary .not x8) w fun x9=>
 BR x9
 (R (Value.tuple #[(Value.pointer none),(Value.bool false)]) w)
 ((fun w=>rL 28 x1 w fun x10=>
 rF 28 x1 4 w fun x11=>
 rL 26 x11 w fun x12=>
 rN 26 3 x12 w fun x13=>
 (fun w_=>oP (Instr.makeSlice 135 x13 x13) w_ fun x14 w=>
 Ext w_ w ∧
 (rD (Instr.build 180 #[(0,x10),(1,x14)]) w fun x15=>
 oP (Instr.box 180 x15) w fun x16 w=>
 rF 28 x1 3 w fun x17=>
 rL 25 x17 w fun x18=>
 rN 25 3 x18 w fun x19=>
 LOOPI [20] [(iV 0)] w fun u5 w next5=>
 rC (u5 20) x19 w fun x21=>
 BR x21
 (rX 25 x18 (u5 20) w fun x22=>
 rL 3 x22 w fun x23=>
 NIL x16 <|
 rF 180 x16 1 w fun x26=>
 rL 135 x26 w fun x27=>
 rX 135 x27 x23 w fun x29=>
 oS 4 x29 (Value.bool true) w fun w=>
 NIL x16 <|
 rF 180 x16 1 w fun x33=>
 rL 135 x33 w fun x34=>
 cL 170 [x16,x34,x23] w fun x36 w=>
 rA (u5 20) (iV 1) w fun x37=>
 next5 [x37] w)
 (cL 171 [x16] w fun x39 w=>
 cL 172 [x16] w fun x41 w=>
 R (Value.tuple #[x16,(Value.bool true)]) w))) w) (World.drew1 w))
def cfg109:Cfg:=⟨extL,[],[(5,274876858432,[20])],[(3,[0,1,2,3,4,5,6,7],16)],[],[],[]⟩
theorem F109_call {a0:Value} {w:World} {R:VW} (h:F109 a0 w R):cL 109 [a0] w R:=co (g:=cfg109) Tryz.func109 (by kernel_rfl) (by kernel_rfl) (by kernel_rfl) h
open Rep (rep)
theorem zs8 {w:World} {g e o:Nat} {cs:List Value} {x:Int} (hB:Blk g e w cs) (ho:cs[o]?=some (.int .i64 x)) (hx:I64 x):At w g o x:=by
 refine ⟨[],[.int .i64 x],⟨rfl,rfl,hx⟩,fun i u hi=>?_⟩
 have:i=0:=by
   cases i with
   | zero=>rfl
   | succ i=>simp at hi
 subst this
 simp only [List.getElem?_cons_zero,Option.some.injEq] at hi
 subst hi
 have:=hB.range o _ ho
 rw [Nat.zero_add] at this
 exact this
section
variable {W0 w w':World} {b e m g6 g7 g8:Nat} {c:DCode} {kc:List Value} {c6 c7 c8:List Nat} {x9 x10 y9 y10:Value}
theorem FC.cells (h:FC W0 w b e c kc m g6 g7 g8 c6 c7 c8 x9 x10) (hc:ChgI b (b+1) w w') (hB:Blk b e w' (kc++[.slice (some ⟨m,0,none⟩) c.ins.length c.ins.length,sl g6 c.procs.length,sl g7 c.procs.length,sl g8 c.procs.length,y9,y10])):FC W0 w' b e c kc m g6 g7 g8 c6 c7 c8 y9 y10:=
 ⟨h.wb.cells hc hB,zdN h.m6 hc.one (by simp [h.n6]),zdN h.m7 hc.one (by simp [h.n7]),zdN h.m8 hc.one (by simp [h.n8]),h.n6,h.n7,h.n8,h.d67,h.d68,h.d78⟩
theorem FC.store9 {x:Nat} {K:World→Prop} (h:FC W0 w b e c kc m g6 g7 g8 c6 c7 c8 x9 x10) (k:∀ w',FC W0 w' b e c kc m g6 g7 g8 c6 c7 c8 (.int .i64 (x:Int)) x10→K w'):OPU Tryz.prog (Instr.storeAt 3 (.pointer (some ⟨b,0+9,none⟩)) (.int .i64 (x:Int))) w K:=by
 have hl:9<(kc++[Value.slice (some ⟨m,0,none⟩) c.ins.length c.ins.length,sl g6 c.procs.length,sl g7 c.procs.length,sl g8 c.procs.length,x9,x10]).length:=by rw [List.length_append,h.wb.k5];simp
 refine zbR (α:=Raw) (lo:=0) (hi:=0) ty3 rfl rfl h.wb.blk hl (zcH rfl) fun w2 hc2 hB2=>?_
 have:=h.wb.set 4 (.int .i64 (x:Int))
 rw [show 5+4=0+9 by omega] at this
 rw [this] at hB2
 exact k w2 (h.cells hc2 hB2)
theorem FC.store10 {x:Nat} {K:World→Prop} (h:FC W0 w b e c kc m g6 g7 g8 c6 c7 c8 x9 x10) (k:∀ w',FC W0 w' b e c kc m g6 g7 g8 c6 c7 c8 x9 (.int .i64 (x:Int))→K w'):OPU Tryz.prog (Instr.storeAt 3 (.pointer (some ⟨b,0+10,none⟩)) (.int .i64 (x:Int))) w K:=by
 have hl:10<(kc++[Value.slice (some ⟨m,0,none⟩) c.ins.length c.ins.length,sl g6 c.procs.length,sl g7 c.procs.length,sl g8 c.procs.length,x9,x10]).length:=by rw [List.length_append,h.wb.k5];simp
 refine zbR (α:=Raw) (lo:=0) (hi:=0) ty3 rfl rfl h.wb.blk hl (zcH rfl) fun w2 hc2 hB2=>?_
 have:=h.wb.set 5 (.int .i64 (x:Int))
 rw [show 5+5=0+10 by omega] at this
 rw [this] at hB2
 exact k w2 (h.cells hc2 hB2)
end
theorem zgx {w:World} {b:Nat} {c:DCode} (hA:At w b 0 c) (hc:CodeR c) :
   CALL Tryz.prog 236 [.pointer (some ⟨b,0,none⟩)] w fun r w'=>Ext w w'∧r=.int .i64 (zb4 c:Nat):=by
 refine F236_call ?_
 unfold F236
 refine NIL.mk rfl ?_
 refine zaa za5 ?_
 refine zaa zbb ?_
 refine zab zcj (zat hA) (Ext.refl _) fun v15 h15=>?_
 refine (ziQ h15 (Ext.refl _)).mono ?_
 rintro _ w2 ⟨hx2,rfl⟩
 have:=(zdM hc).1
 unfold zgo at this
 rw [this]
 exact ⟨hx2,rfl⟩
structure RM (c:DCode) (r:Nat):Prop where
 lt:r<2^c.procs.length
 self:r.testBit (zb4 c)=true
 snd:∀ q,r.testBit q=true→RootP c q
noncomputable def usR (c:DCode) (r:Nat):Nat:=orL (frs c) (zcd r)
theorem znF {c:DCode} {q r:Nat} (hq:q<c.procs.length):(zaw (frs c) q).testBit r=true↔r<c.procs.length∧FromP c q r:=by rw [zoz hq,zch]
theorem zlt {c:DCode} (h8:c.procs.length≤8) {r p:Nat} (h:RM c r):(usR c r).testBit p=true↔∃ q,q<c.procs.length∧r.testBit q=true∧p<c.procs.length∧FromP c q p:=by
 unfold usR
 rw [zg8 h.lt (by omega)]
 exact ⟨fun ⟨i,h1,h2,h3⟩=>⟨i,h1,h2,(znF h1).1 h3⟩,fun ⟨i,h1,h2,h3⟩=>⟨i,h1,h2,(znF h1).2 h3⟩⟩
theorem zs9 {c:DCode} (h8:c.procs.length≤8) {r:Nat} (h:RM c r):usR c r<2^c.procs.length:=znE fun p hp=>by
 obtain ⟨_,_,_,h3,_⟩:=(zlt h8 h).1 hp;exact h3
theorem RM.start {c:DCode} (hc:CodeR c):RM c (2^zb4 c):=⟨Nat.pow_lt_pow_right (by omega) (zdM hc).2,by simp [Nat.testBit_two_pow],fun q hq=>by simp [Nat.testBit_two_pow] at hq;exact hq▸.main⟩
theorem RM.more_bit {c:DCode} (h8:c.procs.length≤8) {r q:Nat} (h:RM c r):(orL (cls c 5) (zcd (usR c r))).testBit q=true↔∃ p,p<c.procs.length∧(usR c r).testBit p=true∧q<c.procs.length∧zil c p 5 q:=by
 rw [zg8 (zs9 h8 h) (by omega)]
 exact ⟨fun ⟨i,h1,h2,h3⟩=>⟨i,h1,h2,(zhN h1).1 h3⟩,fun ⟨i,h1,h2,h3⟩=>⟨i,h1,h2,(zhN h1).2 h3⟩⟩
theorem RM.more {c:DCode} (h8:c.procs.length≤8) {r:Nat} (h:RM c r):RM c (r ||| orL (cls c 5) (zcd (usR c r))):=by
 refine ⟨Nat.or_lt_two_pow h.lt (znE fun q hq=>by obtain ⟨_,_,_,h3,_⟩:=(h.more_bit h8).1 hq;exact h3),by rw [Nat.testBit_or,h.self];rfl,fun q hq=>?_⟩
 rw [Nat.testBit_or,Bool.or_eq_true] at hq
 rcases hq with hq | hq
 · exact h.snd q hq
 obtain ⟨p,h1,h2,h3,h4⟩:=(h.more_bit h8).1 hq
 obtain ⟨s,h5,h6,_,h7⟩:=(zlt h8 h).1 h2
 exact .spawn (h.snd s h6) h7 h4 h3
theorem RM.fin {c:DCode} (hc:CodeR c) (h8:c.procs.length≤8) {r:Nat} (h:RM c r) (he:r ||| orL (cls c 5) (zcd (usR c r))=r):r=zci c∧usR c r=zdD c:=by
 have hall:∀ q,RootP c q→r.testBit q=true:=fun q hq=>by
   induction hq with
   | main=>exact h.self
   | @spawn s p q h0 h1 h2 hq ih=>
     have hs:=h0.lt hc
     rw [←he,Nat.testBit_or,(h.more_bit h8).2 ⟨p,h1.lt hs,(zlt h8 h).2 ⟨s,hs,ih,h1.lt hs,h1⟩,hq,h2⟩]
     simp
 refine ⟨zfe fun q=>⟨fun hq=>⟨(h.snd q hq).lt hc,h.snd q hq⟩,fun hq=>hall q hq.2⟩,zfe fun p=>?_⟩
 rw [zlt h8 h]
 constructor
 · rintro ⟨q,h1,h2,h3,h4⟩
   exact ⟨h3,q,h.snd q h2,h4⟩
 rintro ⟨h3,q,h1,h2⟩
 exact ⟨q,h1.lt hc,hall q h1,h3,h2⟩
theorem zmz {w W0:World} {b e m g6 g7 g8:Nat} {c:DCode} {kc:List Value} {x9 x10:Value} (H:FC W0 w b e c kc m g6 g7 g8 (cls c 4) (cls c 5) (frs c) x9 x10) (hc:CodeR c) :
   CALL Tryz.prog 172 [.pointer (some ⟨b,0,none⟩)] w fun r w'=>r=.tuple #[]∧FC W0 w' b e c kc m g6 g7 g8 (cls c 4) (cls c 5) (frs c) (.int .i64 (zci c:Nat)) (.int .i64 (zdD c:Nat)):=by
 refine F172_call ?_
 unfold F172
 have h8:=hc.1.procs8
 have hml:=(zdM hc).2
 refine (zgx H.wb.code_at hc).mono ?_
 rintro _ w1 ⟨hx1,rfl⟩
 have H1:=H.step hx1
 refine zdA (by kernel_rfl) u97 (by omega) ?_
 refine zer (by omega) ?_
 have hR:=RM.start hc
 have h8':2^c.procs.length≤256:=Nat.pow_le_pow_right (n:=2) (by omega) h8.1
 refine LOOPI.mk (fun mm us w'=>∃ (s:Nat) (ag:Bool) (y:Value),us=[.int .i64 (s:Int),.bool ag]∧mm=(256-s)+(if ag then 1 else 0)∧FC W0 w' b e c kc m g6 g7 g8 (cls c 4) (cls c 5) (frs c) x9 y∧RM c s∧(ag=false→s=zci c∧y=.int .i64 (zdD c:Nat))) (256-2^zb4 c+1) ⟨2^zb4 c,true,x10,rfl,rfl,H1,hR,fun e=>by cases e⟩ ?_
 rintro mm u2 w2 ⟨s,ag,y,hu,hm,H2,hR2,hend⟩
 obtain ⟨hu1,hu2⟩:=zcC hu
 rw [hu1,hu2]
 have hs256:s<256:=Nat.lt_of_lt_of_le hR2.lt h8'
 refine zbw (fun hag=>?_) (fun hag=>?_)
 · rw [hag,if_pos rfl] at hm
   refine NIL.mk rfl ?_
   refine zaa ziJ ?_
   refine zaA zcN H2.wb.blk (H2.wb.cell 3) ?_
   refine (zf0 H2.m8.is (Ext.refl _) (zuX h8.1) (by rw [zhM];exact h8.1) (m:=s) (by rw [zhM];exact hR2.lt)).mono ?_
   rintro _ w3 ⟨hx3,rfl⟩
   have H3:=H2.step hx3
   have hul:=zs9 h8.1 hR2
   have hu256:usR c s<256:=Nat.lt_of_lt_of_le hul h8'
   have hue:orL (frs c) (zcd s)=usR c s:=rfl
   rw [hue]
   refine NIL.mk rfl ?_
   refine zaa zgk ?_
   refine H3.store10 fun w4 H4=>?_
   have hxd:=zaj w4
   have H5:=H4.step hxd
   generalize World.drew1 w4=w5 at *
   refine NIL.mk rfl ?_
   refine zaa zm2 ?_
   refine zaA zcN H5.wb.blk (H5.wb.cell 2) ?_
   refine NIL.mk rfl ?_
   refine zaa zgk ?_
   refine zaA ty3 H5.wb.blk (H5.wb.cell 5) ?_
   refine (zf0 H5.m7.is (Ext.refl _) (zoN h8.1 5) (by rw [zfK];exact h8.1) (m:=usR c s) (by rw [zfK];exact hul)).mono ?_
   rintro _ w6 ⟨hx6,rfl⟩
   have H6:=H5.step hx6
   have hor:=zot (zoN h8.1 5) (zcd (usR c s))
   have hR6:=hR2.more h8.1
   have hfin:=hR2.fin hc h8.1
   have hgt:=fun h=>zsr (m:=orL (cls c 5) (zcd (usR c s))) (n:=s) h
   refine ⟨hx6,?_⟩
   refine zge (m:=s) (n:=orL (cls c 5) (zcd (usR c s))) (by omega) (by omega) ?_
   have hor2:s ||| orL (cls c 5) (zcd (usR c s))<256:=Nat.or_lt_two_pow (n:=8) hs256 hor
   generalize s ||| orL (cls c 5) (zcd (usR c s))=t at *
   refine zaN ?_
   by_cases hts:t=s
   · refine ⟨256-t,by omega,t,_,_,rfl,?_,H6,hR6,fun _=>?_⟩
     · rw [hts];simp
     rw [(hfin hts).2]
     exact ⟨by rw [hts];exact (hfin hts).1,rfl⟩
   have hd:decide ((t:Int)≠(s:Int))=true:=decide_eq_true fun h=>hts (Int.ofNat_inj.1 h)
   have:=hgt hts
   rw [hd]
   exact ⟨256-t+1,by omega,t,true,_,rfl,rfl,H6,hR6,fun e=>by cases e⟩
 obtain ⟨hse,hye⟩:=hend hag
 rw [hye] at H2
 refine NIL.mk rfl ?_
 refine zaa zgj ?_
 refine H2.store9 fun w3 H3=>?_
 rw [hse] at H3
 exact ⟨rfl,H3⟩
theorem FC.wat {W0 w:World} {b e m g6 g7 g8:Nat} {c:DCode} {kc:List Value} (H:FC W0 w b e c kc m g6 g7 g8 (cls c 4) (cls c 5) (frs c) (.int .i64 (zci c:Nat)) (.int .i64 (zdD c:Nat))) (h8:c.procs.length≤8):WAt w b c:=by
 have h1:zci c<256:=zaY h8
 have h2:zdD c<256:=zaY h8
 exact ⟨H.wb.wl,zeV H.wb.blk (H.wb.cell 1) H.m6.is,zeV H.wb.blk (H.wb.cell 2) H.m7.is,zeV H.wb.blk (H.wb.cell 3) H.m8.is,zs8 H.wb.blk (H.wb.cell 4) (by unfold I64;omega),zs8 H.wb.blk (H.wb.cell 5) (by unfold I64;omega)⟩
theorem zke {w W0:World} {v0:Value} {c:DCode} (h0:Is W0 v0 c) (e0:Ext W0 w) :
   CALL Tryz.prog 109 [v0] w fun r w'=>Ext w w'∧((¬CodeR c∧r=.tuple #[.pointer none,.bool false])∨(CodeR c∧∃ b,r=.tuple #[.pointer (some ⟨b,0,none⟩),.bool true]∧WAt w' b c)):=by
 refine F109_call ?_
 unfold F109
 refine zaV h0 e0 fun w1 hx1 hA=>?_
 refine zab zbm hA (Ext.refl _) fun v7 h7=>?_
 refine (zkT h7 (Ext.refl _)).mono ?_
 rintro _ w2 ⟨hx2,rfl⟩
 refine zaX ?_
 refine br (fun hn=>?_) (fun hy=>?_)
 · exact ⟨hx1.trans hx2,.inl ⟨hn,rfl⟩⟩
 have hc:CodeR c:=Decidable.not_not.1 hy
 have h8:=hc.1.procs8
 have hil:=hc.f.ins
 have hz0:=(zen hc h8.2).2.2
 have hxd:=zaj w2
 have hx3:=hx2.trans hxd
 generalize World.drew1 w2=w3 at *
 refine zab zbm hA hx3 fun v10 h10=>?_
 refine zaa zaG ?_
 refine zab zcO (zal hA) hx3 fun v12 h12=>?_
 refine zag u26 h12 ?_
 refine zdL (by omega) (by omega) fun w4 hx4 hM4=>?_
 have hs4:=hx4.size
 have hm4:=hM4.lt _ (List.mem_singleton.2 rfl)
 generalize hm:w3.heap.size=m at *
 have h10':=h10.ext hx3
 have hcells:=zkd h10'
 obtain ⟨F,kc,hr,hkc⟩:=h10'
 obtain ⟨a0,a1,a2,a3,a4,n0,n1,n2,n3,n4,k0,k1,k2,k3,k4,hcv⟩:=hcells
 have hkce:kc=[.slice a0 n0 k0,.slice a1 n1 k1,.slice a2 n2 k2,.slice a3 n3 k3,.slice a4 n4 k4]:=by
   rw [hkc] at hcv
   have:(Value.agg kc.toArray)=.agg #[.slice a0 n0 k0,.slice a1 n1 k1,.slice a2 n2 k2,.slice a3 n3 k3,.slice a4 n4 k4]:=hcv
   simpa using this
 rw [hcv]
 refine ⟨hx4,?_⟩
 refine zaS (cells:=#[.slice a0 n0 k0,.slice a1 n1 k1,.slice a2 n2 k2,.slice a3 n3 k3,.slice a4 n4 k4,sl m c.ins.length,.slice none 0 0,.slice none 0 0,.slice none 0 0,.int .i64 0,.int .i64 0]) (by kernel_rfl) ?_
 refine zkY fun w5 hx5 hB5=>?_
 have hB5':Blk w4.heap.size 180 w5 (kc++[sl m c.ins.length,.slice none 0 0,.slice none 0 0,.slice none 0 0,.int .i64 0,.int .i64 0]):=by rw [hkce];exact hB5
 have hk5:kc.length=5:=Rep.len hr
 clear hB5 hcv hkc
 have hM5:=hM4.ext hx5
 have hx35:Ext w3 w5:=hx4.trans hx5
 generalize hb:w4.heap.size=b at *
 refine zaa za1 ?_
 refine zab zcN (zaq hA) (hx3.trans hx35) fun v18 h18=>?_
 have h18:=h18.ext hx3
 refine zag u25 h18 ?_
 have hel:c.entry.length=c.procs.length:=hc.2.1.1
 rw [hel]
 have hrep0:List.replicate c.ins.length false=zbP c.ins.length (fun i=>∃ p,p<0∧zaB c p i):=zdm _ fun i ⟨p,h,_⟩=>by omega
 rw [hrep0] at hM5
 have hcell0:∀ {x1 x2 x3 x4 x5:Value},(kc++[sl m c.ins.length,x1,x2,x3,x4,x5])[0+5]?=some (sl m c.ins.length):=by intros;rw [List.getElem?_append_right (by rw [hk5];omega),hk5];rfl
 refine zas c.procs.length (fun k us w'=>us=[.int .i64 (k:Int)]∧k≤c.procs.length∧Ext w3 w'∧Blk b 180 w' (kc++[sl m c.ins.length,.slice none 0 0,.slice none 0 0,.slice none 0 0,.int .i64 0,.int .i64 0])∧Mine [m] w' (sl m c.ins.length) (zbP c.ins.length fun i=>∃ p,p<k∧zaB c p i)) 0 (Nat.zero_le _) ⟨rfl,Nat.zero_le _,hx35,hB5',hM5⟩ ?_
 rintro k mk u w6 hkm ⟨hu,hkl,hx6,hB6,hM6⟩
 simp only [List.map_cons,List.map_nil,List.cons.injEq,and_true] at hu
 rw [hu]
 refine zah ?_
 refine br (fun hlt=>?_) (fun hge=>?_)
 · have hk:k<c.procs.length:=by omega
   have hke:k<c.entry.length:=by omega
   obtain ⟨he1,he2,he3⟩:=zfp hc hke
   refine zad u25 ty3 (i:=k) h18 hke fun b5 o5 hA5=>?_
   rw [zbh hke,he1] at hA5
   refine zac ty3 hA5 hx6 fun _=>?_
   refine NIL.mk rfl ?_
   refine zaa zkE ?_
   refine zaA zdc hB6 hcell0 ?_
   refine zbv (α:=Bool) rfl zcX ty4 he2 ?_
   refine za0 (α:=Bool) rfl ty4 hM6 zam he2 zbl fun w7 hc7 hm7=>?_
   have hB7:=hB6.chgF hc7 (by simp;omega)
   have hx7:Ext w3 w7:=hx6.chgF hc7 (by simp [hm])
   have hmk7:∀ i,mkd ((zbP c.ins.length fun i=>∃ p,p<k∧zaB c p i).set (eN c k) true) i↔(i<c.ins.length∧∃ p,p<k∧zaB c p i)∨i=eN c k:=fun i=>by
     rw [zcw (by rw [zam];exact he2),zaH]
   have hl7:((zbP c.ins.length fun i=>∃ p,p<k∧zaB c p i).set (eN c k) true).length=c.ins.length:=by rw [List.length_set,zam]
   generalize (zbP c.ins.length fun i=>∃ p,p<k∧zaB c p i).set (eN c k) true=ms7 at *
   refine NIL.mk rfl ?_
   refine zaa zkE ?_
   refine zaA zdc hB7 hcell0 ?_
   have hK7:KAt w3 w7 b c:=⟨F,kc,hr,zoM hB7,hB7.lt⟩
   refine (zmp hK7 hx7 hc rfl he2 hm7 hl7 (by omega) (by omega) ?_).mono ?_
   · intro i hi hne j hj
     rcases (hmk7 i).1 hi with ⟨h1,p,h2,h3⟩ | h
     · have hil:=zcA hc h1 hj
       exact (hmk7 j).2 (.inl ⟨hil.1,p,h2,zqT h3 hj⟩)
     exact absurd h hne
   rintro _ w8 ⟨rfl,hc8,hM8⟩
   have hset:(zbP c.ins.length fun i=>mkd ms7 i∨RP (zax c) (eN c k) i)=zbP c.ins.length fun i=>∃ p,p<k+1∧zaB c p i:=zbD fun i hi=>by
     rw [hmk7]
     constructor
     · rintro ((⟨_,p,h2,h3⟩ | h) | h)
       · exact ⟨p,by omega,h3⟩
       · exact ⟨k,by omega,.inl h⟩
       exact ⟨k,by omega,.inr h⟩
     rintro ⟨p,h2,h3⟩
     by_cases e:p=k
     · subst e
       rcases h3 with h3 | h3
       · exact .inl (.inr h3)
       exact .inr h3
     exact .inl (.inl ⟨hi,p,by omega,h3⟩)
   rw [hset] at hM8
   refine zaf (by omega) ?_
   exact ⟨mk-1,by omega,k+1,by omega,rfl,by omega,hx7.chgI hc8 (by omega),hB7.chgI hc8 (by omega),hM8⟩
 have hke:k=c.procs.length:=by omega
 have hal:(zbP c.ins.length fun i=>∃ p,p<k∧zaB c p i)=zbP c.ins.length (zev c):=by rw [hke];rfl
 rw [hal] at hM6
 have HW:WB w3 w6 b 180 c kc m (.slice none 0 0) (.slice none 0 0) (.slice none 0 0) (.int .i64 0) (.int .i64 0):=⟨hx6,hB6,⟨F,hr⟩,hM6,by omega,by omega,by omega⟩
 refine (zmy HW hc).mono ?_
 rintro _ w7 ⟨rfl,g6,g7,g8,H7⟩
 refine (zmz H7 hc).mono ?_
 rintro _ w8 ⟨rfl,H8⟩
 exact ⟨hx1.trans (hx3.trans H8.wb.ext),.inr ⟨hc,b,rfl,H8.wat h8.1⟩⟩
theorem zg9 {l:List Int} {k:Nat} {y:Int} (hk:k<l.length) (h:y∉l.take k) (c:¬l[k]=y):y∉l.take (k+1):=by
 rw [List.take_succ_eq_append_getElem hk]
 simp only [List.mem_append,List.mem_cons,List.not_mem_nil,or_false,not_or]
 exact ⟨h,fun e=>c e.symm⟩
def F303 (a0 a1:Value) (w:World) (R:VW):Prop:=
 LOOPI [5] [(iV 0)] w fun u2 w next2=>
 rN 25 3 a0 w fun x8=>
 rC (u2 5) x8 w fun x9=>
 BR x9
 (rX 25 a0 (u2 5) w fun x14=>
 rL 3 x14 w fun x15=>
 rB .eql 3 T0 T0 x15 a1 w fun x17=>
 BR x17
 (R (Value.bool true) w)
 (rA (u2 5) (iV 1) w fun x11=>
 next2 [x11] w))
 (R (Value.bool false) w)
def cfg303:Cfg:=⟨extL,[],[(2,262128,[5])],[],[],[],[]⟩
theorem F303_call {a0 a1:Value} {w:World} {R:VW} (h:F303 a0 a1 w R):cL 303 [a0,a1] w R:=co (g:=cfg303) Tryz.func303 (by kernel_rfl) (by kernel_rfl) (by kernel_rfl) h
theorem zrt {w:World} {v0:Value} {W0:World} {l:(List Int)} {y:Int}  (h0:Is W0 v0 l) (e0:Ext W0 w)  :
   CALL Tryz.prog 303 [v0,.int .i64 y] w fun r w'=>Ext w w'∧(r=.bool (decide (y∈l))):=by
 refine F303_call ?_
 unfold F303
 refine zas (l.length) (fun k us w'=>us=[.int .i64 (k:Int)]∧Ext w w'∧(y∉l.take k)) (0) (by omega) ⟨by simp,Ext.refl w,by simp⟩ ?_
 rintro k m2 uu2 w1_ hk2 ⟨hu,hx1_,hinv⟩
 simp only [List.map_cons,List.map_nil,List.cons.injEq,and_true] at hu
 try rw [hu]
 try clear hu
 have hln8:=zan h0
 refine zag u25 h0 ?_
 refine zah ?_
 refine br (fun c1=>?_) (fun c1=>?_)
 · refine zad u25 ty3 h0 (by omega) fun b14 o14 h14=>?_
   refine zac ty3 h14 (e0.trans hx1_) fun hI15=>?_
   refine zai ?_
   refine br (fun c2=>?_) (fun c2=>?_)
   · refine ⟨hx1_,?_⟩
     have:y∈l:=c2▸List.getElem_mem _
     simp [this]
   refine zaf (by omega) ?_
   refine ⟨m2-1,by omega,k+1,by omega,by simp,hx1_,?_⟩
   exact zg9 (by omega) hinv c2
 refine ⟨hx1_,?_⟩
 rw [List.take_of_length_le (by omega)] at hinv
 simp [hinv]
end Go.Proofs.YtbnjpfjjmhodnaaGreat
