/-
  Parts of the proof, put together by program.
-/
import Derived.Test.YtakjaofncelghaaGreatPFnRankedRuns7
set_option linter.unusedVariables false
set_option linter.unusedSimpArgs false
set_option linter.unusedSectionVars false
namespace Go.Sh
open Rep (rep)
theorem Blk.uniq {w:World} {g e:Nat} {cs cs':List Value} (h:Blk g e w cs) (h':Blk g e w cs'):cs'=cs:=by
 unfold Blk at h h';rw [h] at h';simp only [Option.some.injEq,Obj.cells.injEq] at h';have:=h'.1;simpa using this.symm
theorem zqf {w:World} {g e:Nat} {cs ds:List Value} (h:Blk g e w (cs++ds)):w.rangeAt g 0 cs:=(zaz h.range).1
end Go.Sh
namespace Go.Proofs.YtakjaofncelghaaGreat
open Go Go.Sh Go.Proofs
open Rep (rep)
structure WB (W0 w:World) (b e:Nat) (c:DCode) (kc:List Value) (m:Nat) (x6 x7 x8 x9 x10:Value):Prop where
 ext:Ext W0 w
 blk:Blk b e w (kc++[.slice (some ⟨m,0,none⟩) c.ins.length c.ins.length,x6,x7,x8,x9,x10])
 code:∃ F,rep F W0 kc c
 live:Mine [m] w (.slice (some ⟨m,0,none⟩) c.ins.length c.ins.length) (zdf c.ins.length (zjZ c))
 b0:W0.heap.size≤b
 m0:W0.heap.size≤m
 ne:b≠m
section
variable {W0 w w':World} {b e m:Nat} {c:DCode} {kc:List Value} {x6 x7 x8 x9 x10:Value}
theorem WB.k5 (h:WB W0 w b e c kc m x6 x7 x8 x9 x10):kc.length=5:=by obtain ⟨F,hr⟩:=h.code;exact Rep.len hr
theorem WB.cell (h:WB W0 w b e c kc m x6 x7 x8 x9 x10) (i:Nat):(kc++[Value.slice (some ⟨m,0,none⟩) c.ins.length c.ins.length,x6,x7,x8,x9,x10])[5+i]?=[Value.slice (some ⟨m,0,none⟩) c.ins.length c.ins.length,x6,x7,x8,x9,x10][i]?:=by
 rw [List.getElem?_append_right (by rw [h.k5];omega),h.k5,Nat.add_sub_cancel_left]
theorem WB.code_at (h:WB W0 w b e c kc m x6 x7 x8 x9 x10):At w b 0 c:=by
 obtain ⟨F,hr⟩:=h.code;exact ⟨F,kc,zb8 hr h.ext,zqf h.blk⟩
theorem WB.wl (h:WB W0 w b e c kc m x6 x7 x8 x9 x10):WL w b c:=⟨h.code_at,zfj h.blk (h.cell 0) h.live.is⟩
theorem WB.step (h:WB W0 w b e c kc m x6 x7 x8 x9 x10) (hx:Ext w w'):WB W0 w' b e c kc m x6 x7 x8 x9 x10:=⟨h.ext.trans hx,h.blk.ext hx,h.code,h.live.ext hx,h.b0,h.m0,h.ne⟩
theorem WB.chg {F:List Nat} (h:WB W0 w b e c kc m x6 x7 x8 x9 x10) (hc:Chg F w w') (hF:∀ x∈F,W0.heap.size≤x∧x≠b∧x≠m):WB W0 w' b e c kc m x6 x7 x8 x9 x10:=
 ⟨h.ext.chgF hc λx hx=>(hF x hx).1,h.blk.chgF hc λhb=>(hF b hb).2.1 rfl,h.code,h.live.keep λx hx=>by
   simp only [List.mem_cons,List.not_mem_nil,or_false] at hx;subst hx;exact hc.block x (h.live.lt x (by simp)) λhm=>(hF x hm).2.2 rfl,h.b0,h.m0,h.ne⟩
theorem WB.cells {y6 y7 y8 y9 y10:Value} (h:WB W0 w b e c kc m x6 x7 x8 x9 x10) (hc:ChgI b (b+1) w w') (hB:Blk b e w' (kc++[.slice (some ⟨m,0,none⟩) c.ins.length c.ins.length,y6,y7,y8,y9,y10])):WB W0 w' b e c kc m y6 y7 y8 y9 y10:=
 ⟨h.ext.chgI hc h.b0,hB,h.code,h.live.keep λx hx=>by
   simp only [List.mem_cons,List.not_mem_nil,or_false] at hx;subst hx;exact hc.block x (h.live.lt x (by simp)) (by have:=h.ne;omega),h.b0,h.m0,h.ne⟩
theorem WB.set (h:WB W0 w b e c kc m x6 x7 x8 x9 x10) (i:Nat) (v:Value):(kc++[Value.slice (some ⟨m,0,none⟩) c.ins.length c.ins.length,x6,x7,x8,x9,x10]).set (5+i) v=kc++[Value.slice (some ⟨m,0,none⟩) c.ins.length c.ins.length,x6,x7,x8,x9,x10].set i v:=by
 rw [List.set_append_right _ _ (by rw [h.k5];omega),h.k5,Nat.add_sub_cancel_left]
end
def CS (c:DCode) (out:List Nat) (D:Nat→Nat→Prop):Prop:=out.length=c.procs.length∧∀ q,q<c.procs.length→za5 out q=zcF (D q) c.procs.length
theorem CS.mono {c:DCode} {out:List Nat} {D D':Nat→Nat→Prop} (h:CS c out D) (hD:∀ q r,q<c.procs.length→r<c.procs.length→(D q r↔D' q r)):CS c out D':=⟨h.1,λq hq=>by rw [h.2 q hq];exact zbx λr hr=>hD q r hq hr⟩
theorem CS.set {c:DCode} {out:List Nat} {D D':Nat→Nat→Prop} (h:CS c out D) {p a:Nat} (hp:p<c.procs.length) (ha:a<c.procs.length) (hD:∀ q r,D' q r↔D q r∨(q=p∧r=a)):CS c (out.set p (za5 out p ||| 2^a)) D':=by
 refine ⟨by simp [h.1],λq hq=>?_⟩;rw [zeL (by rw [h.1];exact hp)];split
 · rename_i e
   subst e;rw [h.2 p hp];refine zew λr=>?_;rw [Nat.testBit_or,Nat.testBit_two_pow,Bool.or_eq_true,zaY,decide_eq_true_eq,hD];constructor
   · rintro (⟨h1,h2⟩ | rfl)
     · exact ⟨h1,.inl h2⟩
     exact ⟨ha,.inr ⟨rfl,rfl⟩⟩
   rintro ⟨h1,h2 | ⟨_,h2⟩⟩
   · exact .inl ⟨h1,h2⟩
   exact .inr h2.symm
 rename_i e
 rw [h.2 q hq];exact zbx λr hr=>⟨λh=>(hD q r).2 (.inl h),λh=>((hD q r).1 h).resolve_right λh=>e h.1.symm⟩
theorem CS.lt0 {c:DCode} {out:List Nat} {D:Nat→Nat→Prop} (h:CS c out D) (h8:c.procs.length≤8) {q:Nat} (hq:q<c.procs.length):za5 out q<256:=by rw [h.2 q hq];exact zeh h8
theorem CS.zero {c:DCode} {D:Nat→Nat→Prop} (hD:∀ q r,¬D q r):CS c (List.replicate c.procs.length 0) D:=⟨by simp,λq hq=>by
 rw [←zcI (by simp;exact hq),List.getElem_replicate];exact zew λr=>by simp [hD]⟩
theorem CS.eq_cls {c:DCode} {out:List Nat} {op:Int} (h:CS c out λq r=>znj c q op r):out=cls c op:=by
 refine List.ext_getElem (by rw [h.1,zif]) λi h1 h2=>?_;have hi:i<c.procs.length:=by rw [←h.1];exact h1
 rw [zcI h1,zcI h2,zvo hi,h.2 i hi]
def zrd (j:Nat):Nat:=if j=11 then 6 else if j=14 then 7 else 8
def zwM (j:Nat):Prop:=j=11∨j=14∨j=17
def fcB (W:World) (b e:Nat) (hd:List Value) (t9 t10:Value) (w:World):Prop:=ChgI b (b+1) W w∧∃ x6 x7 x8,Blk b e w (hd++[x6,x7,x8,t9,t10])
def fcR (b e:Nat) (j:Nat) (w w':World):Prop:=(zwM j∧ChgI b (b+1) w w'∧∀ cs,Blk b e w cs→∃ v,Blk b e w' (cs.set (zrd j) v))∨(¬zwM j∧Ext w w')
def fcQ (b e n:Nat):ParQ:=λi u T w=>match i with
 | 0=>u 17=.pointer (some ⟨b,0,none⟩)
 | 1=>u 18=.pointer (some ⟨b,0,none⟩)
 | 2=>u 19=.pointer (some ⟨b,0,none⟩)
 | 3=>u 20=.int .i64 (n:Int)
 | 4=>∃ g,u 21=.slice (some ⟨g,0,none⟩) n n∧(T 4).1≤g∧g<(T 4).2∧g≠b∧Mine [g] w (.slice (some ⟨g,0,none⟩) n n) (za9 (List.replicate n 0))
 | 5=>u 22=.int .i64 (n:Int)
 | 6=>∃ g,u 23=.slice (some ⟨g,0,none⟩) n n∧(T 6).1≤g∧g<(T 6).2∧g≠b∧Mine [g] w (.slice (some ⟨g,0,none⟩) n n) (za9 (List.replicate n 0))
 | 7=>u 24=.int .i64 (n:Int)
 | 8=>∃ g,u 25=.slice (some ⟨g,0,none⟩) n n∧(T 8).1≤g∧g<(T 8).2∧g≠b∧Mine [g] w (.slice (some ⟨g,0,none⟩) n n) (za9 (List.replicate n 0))
 | 9=>u 26=.pointer (some ⟨b,0,none⟩)
 | 10=>u 27=.pointer (some ⟨b,0+6,none⟩)
 | 11=>∃ cs,Blk b e w cs∧cs[6]?=some (u 21)
 | 12=>u 28=.pointer (some ⟨b,0,none⟩)
 | 13=>u 29=.pointer (some ⟨b,0+7,none⟩)
 | 14=>∃ cs,Blk b e w cs∧cs[7]?=some (u 23)
 | 15=>u 30=.pointer (some ⟨b,0,none⟩)
 | 16=>u 31=.pointer (some ⟨b,0+8,none⟩)
 | 17=>∃ cs,Blk b e w cs∧cs[8]?=some (u 25)
 | _=>True
section
variable {b e n:Nat} {w w':World}
theorem fcR.sz {j:Nat} (h:fcR b e j w w'):w.heap.size≤w'.heap.size:=by
 rcases h with ⟨_,h,_⟩ | ⟨_,h⟩
 · exact h.size
 exact h.size
theorem fcR.chg {j:Nat} (h:fcR b e j w w'):ChgI b (b+1) w w':=by
 rcases h with ⟨_,h,_⟩ | ⟨_,h⟩
 · exact h
 exact h.toI
theorem fcR.mine {j g:Nat} {l:List Int} {v:Value} (h:fcR b e j w w') (hg:g≠b) (hm:Mine [g] w v l):Mine [g] w' v l:=hm.keep λx hx=>by
 simp only [List.mem_cons,List.not_mem_nil,or_false] at hx;subst hx;exact h.chg.block x (hm.lt x (by simp)) (by omega)
theorem fcR.cell {j:Nat} {u:Value} {k:Nat} (h:fcR b e j w w') (hij:zwM j→zrd j≠k) (hc:∃ cs,Blk b e w cs∧cs[k]?=some u):∃ cs,Blk b e w' cs∧cs[k]?=some u:=by
 obtain ⟨cs,hB,hk⟩:=hc;rcases h with ⟨hs,_,h⟩ | ⟨_,h⟩
 · obtain ⟨v,hv⟩:=h cs hB
   exact ⟨_,hv,by rw [List.getElem?_set_ne (hij hs)];exact hk⟩
 exact ⟨cs,hB.ext h,hk⟩
theorem fcB.step {W:World} {hd:List Value} {t9 t10:Value} {j:Nat} (h6:hd.length=6) (h:fcB W b e hd t9 t10 w) (hR:fcR b e j w w'):fcB W b e hd t9 t10 w':=by
 obtain ⟨hc,x6,x7,x8,hB⟩:=h;refine ⟨hc.trans hR.chg,?_⟩;rcases hR with ⟨hs,_,hR⟩ | ⟨_,hR⟩
 · obtain ⟨v,hv⟩:=hR _ hB
   rcases hs with rfl | rfl | rfl
   · refine ⟨v,x7,x8,?_⟩
     rw [List.set_append_right _ _ (by rw [h6];decide),h6] at hv;exact hv
   · refine ⟨x6,v,x8,?_⟩
     rw [List.set_append_right _ _ (by rw [h6];decide),h6] at hv;exact hv
   refine ⟨x6,x7,v,?_⟩;rw [List.set_append_right _ _ (by rw [h6];decide),h6] at hv;exact hv
 exact ⟨x6,x7,x8,hB.ext hR⟩
theorem fcR.ext {j:Nat} (hj:¬zwM j) (hx:Ext w w'):fcR b e j w w':=.inr ⟨hj,hx⟩
end
theorem zma {W:World} {b e n j:Nat} {hd:List Value} {t9 t10:Value} {w:World} {g:Nat} {K:World→Prop} (hs:zwM j) (h6:hd.length=6) (hB:fcB W b e hd t9 t10 w) (k:∀ w',fcR b e j w w'→(∃ cs,Blk b e w' cs∧cs[zrd j]?=some (.slice (some ⟨g,0,none⟩) n n))→K w') :
   OPU tp (Instr.storeAt 25 (.pointer (some ⟨b,0+zrd j,none⟩)) (.slice (some ⟨g,0,none⟩) n n)) w K:=by
 obtain ⟨hc,x6,x7,x8,hB⟩:=hB
 have hlt:zrd j<(hd++[x6,x7,x8,t9,t10]).length:=by
   rw [List.length_append,h6];show zrd j<11;rcases hs with rfl | rfl | rfl<;>decide
 rw [Nat.zero_add];refine zbp (α:=Raw) (lo:=0) (hi:=0) zaK rfl rfl hB hlt (zcJ rfl) λw2 hc2 hB2=>?_
 have hR:fcR b e j w w2:=.inl ⟨hs,hc2,λcs hcs=>by
   have:=hB.uniq hcs;subst this;exact ⟨_,hB2⟩⟩
 exact k w2 hR ⟨_,hB2,by rw [List.getElem?_set_self hlt]⟩
theorem zwm {sets:List Nat} {r:Nat} (l:List Int):(orL sets l).testBit r=true↔∃ x∈l,(za5 sets x.toNat).testBit r=true:=by
 have key:∀ (l:List Int) (a:Nat),(l.foldl (λa i=>a ||| sets.getD i.toNat 0) a).testBit r=true↔a.testBit r=true∨∃ x∈l,(za5 sets x.toNat).testBit r=true:=λl=>by
   induction l with
   | nil=>simp
   | cons i l ih=>
     intro a;rw [List.foldl_cons,ih,Nat.testBit_or,Bool.or_eq_true,or_assoc];refine or_congr Iff.rfl ?_;simp only [List.mem_cons,exists_eq_or_imp];exact Iff.rfl
 have:=key l 0;simpa [orL] using this
theorem zi7 {sets:List Nat} {m n r:Nat} (hm:m<2^n) (hn:n≤62):(orL sets (zbL m)).testBit r=true↔∃ i,i<n∧m.testBit i=true∧(za5 sets i).testBit r=true:=by
 rw [zwm,zi1 hm (by omega)];constructor
 · rintro ⟨x,hx,h⟩
   obtain ⟨i,h1,rfl,h3⟩:=zdh.1 hx;exact ⟨i,h1,h3,by simpa using h⟩
 rintro ⟨i,h1,h2,h3⟩;exact ⟨(i:Int),zdh.2 ⟨i,h1,rfl,h2⟩,by simpa using h3⟩
theorem zo8 {m n:Nat} (h:∀ r,m.testBit r=true→r<n):m<2^n:=Nat.lt_pow_two_of_testBit _ λi hi=>by
 cases e:m.testBit i
 · rfl
 have:=h i e;omega
def F74 (a0:Value) (w:World) (R:VW):Prop:=
 NIL a0 <|
 rF 101 a0 0 w λx13=>
 rF 28 x13 2 w λx14=>
 rL 24 x14 w λx15=>
 rN 24 3 x15 w λx16=>
 (λw0=>GPAR w0 [[(0,17)],[(1,18)],[(2,19)],[(3,20)],[(4,21),(3,20),(3,20)],[(5,22)],[(6,23),(5,22),(5,22)],[(7,24)],[(8,25),(7,24),(7,24)],[(9,26),(0,17),(0,17),(3,20),(4,21)],[(10,27),(9,26),(0,17),(3,20),(4,21)],[(10,27),(4,21),(0,17),(3,20),(4,21)],[(12,28),(1,18),(0,17),(1,18),(3,20),(4,21),(5,22),(6,23),(9,26),(10,27)],[(13,29),(12,28),(0,17),(1,18),(3,20),(4,21),(5,22),(6,23),(9,26),(10,27)],[(13,29),(6,23),(0,17),(1,18),(3,20),(4,21),(5,22),(6,23),(9,26),(10,27)],[(15,30),(2,19),(0,17),(1,18),(2,19),(3,20),(4,21),(5,22),(6,23),(7,24),(8,25),(9,26),(10,27),(12,28),(13,29)],[(16,31),(15,30),(0,17),(1,18),(2,19),(3,20),(4,21),(5,22),(6,23),(7,24),(8,25),(9,26),(10,27),(12,28),(13,29)],[(16,31),(8,25),(0,17),(1,18),(2,19),(3,20),(4,21),(5,22),(6,23),(7,24),(8,25),(9,26),(10,27),(12,28),(13,29)]] (λB R Q=>
 (∀ (u1:Env) (T:Nat→Nat×Nat) (w:World),B w→w0.heap.size≤w.heap.size→zaL [] w0.heap.size w.heap.size T→(True)→(λw1=>R 0 w1 w∧Q 0 (upd u1 17 a0) (zbS T 0 (w1.heap.size,w.heap.size)) w) w) ∧
 (∀ (u1:Env) (T:Nat→Nat×Nat) (w:World),B w→w0.heap.size≤w.heap.size→zaL [] w0.heap.size w.heap.size T→(True)→(λw1=>R 1 w1 w∧Q 1 (upd u1 18 a0) (zbS T 1 (w1.heap.size,w.heap.size)) w) w) ∧
 (∀ (u1:Env) (T:Nat→Nat×Nat) (w:World),B w→w0.heap.size≤w.heap.size→zaL [] w0.heap.size w.heap.size T→(True)→(λw1=>R 2 w1 w∧Q 2 (upd u1 19 a0) (zbS T 2 (w1.heap.size,w.heap.size)) w) w) ∧
 (∀ (u1:Env) (T:Nat→Nat×Nat) (w:World),B w→w0.heap.size≤w.heap.size→zaL [] w0.heap.size w.heap.size T→(True)→(λw1=>R 3 w1 w∧Q 3 (upd u1 20 x16) (zbS T 3 (w1.heap.size,w.heap.size)) w) w) ∧
 (∀ (u1:Env) (T:Nat→Nat×Nat) (w:World),B w→w0.heap.size≤w.heap.size→zaL [3,3] w0.heap.size w.heap.size T→(Q 3 u1 T w∧Q 3 u1 T w∧True)→(λw1=>oP (Instr.makeSlice 25 (u1 20) (u1 20)) w λx21 w=>
 R 4 w1 w∧Q 4 (upd u1 21 x21) (zbS T 4 (w1.heap.size,w.heap.size)) w) w) ∧
 (∀ (u1:Env) (T:Nat→Nat×Nat) (w:World),B w→w0.heap.size≤w.heap.size→zaL [] w0.heap.size w.heap.size T→(True)→(λw1=>R 5 w1 w∧Q 5 (upd u1 22 x16) (zbS T 5 (w1.heap.size,w.heap.size)) w) w) ∧
 (∀ (u1:Env) (T:Nat→Nat×Nat) (w:World),B w→w0.heap.size≤w.heap.size→zaL [5,5] w0.heap.size w.heap.size T→(Q 5 u1 T w∧Q 5 u1 T w∧True)→(λw1=>oP (Instr.makeSlice 25 (u1 22) (u1 22)) w λx23 w=>
 R 6 w1 w∧Q 6 (upd u1 23 x23) (zbS T 6 (w1.heap.size,w.heap.size)) w) w) ∧
 (∀ (u1:Env) (T:Nat→Nat×Nat) (w:World),B w→w0.heap.size≤w.heap.size→zaL [] w0.heap.size w.heap.size T→(True)→(λw1=>R 7 w1 w∧Q 7 (upd u1 24 x16) (zbS T 7 (w1.heap.size,w.heap.size)) w) w) ∧
 (∀ (u1:Env) (T:Nat→Nat×Nat) (w:World),B w→w0.heap.size≤w.heap.size→zaL [7,7] w0.heap.size w.heap.size T→(Q 7 u1 T w∧Q 7 u1 T w∧True)→(λw1=>oP (Instr.makeSlice 25 (u1 24) (u1 24)) w λx25 w=>
 R 8 w1 w∧Q 8 (upd u1 25 x25) (zbS T 8 (w1.heap.size,w.heap.size)) w) w) ∧
 (∀ (u1:Env) (T:Nat→Nat×Nat) (w:World),B w→w0.heap.size≤w.heap.size→zaL [0,0,3,4] w0.heap.size w.heap.size T→(Q 0 u1 T w∧Q 0 u1 T w∧Q 3 u1 T w∧Q 4 u1 T w∧True)→(λw1=>NIL (u1 17) <|
 R 9 w1 w∧Q 9 (upd u1 26 (u1 17)) (zbS T 9 (w1.heap.size,w.heap.size)) w) w) ∧
 (∀ (u1:Env) (T:Nat→Nat×Nat) (w:World),B w→w0.heap.size≤w.heap.size→zaL [9,0,3,4] w0.heap.size w.heap.size T→(Q 9 u1 T w∧Q 0 u1 T w∧Q 3 u1 T w∧Q 4 u1 T w∧True)→(λw1=>rF 101 (u1 26) 2 w λx27=>
 R 10 w1 w∧Q 10 (upd u1 27 x27) (zbS T 10 (w1.heap.size,w.heap.size)) w) w) ∧
 (∀ (u1:Env) (T:Nat→Nat×Nat) (w:World),B w→w0.heap.size≤w.heap.size→zaL [10,4,0,3,4] w0.heap.size w.heap.size T→(Q 10 u1 T w∧Q 4 u1 T w∧Q 0 u1 T w∧Q 3 u1 T w∧Q 4 u1 T w∧True)→(λw1=>oS 25 (u1 27) (u1 21) w λw=>
 R 11 w1 w∧Q 11 u1 (zbS T 11 (w1.heap.size,w.heap.size)) w) w) ∧
 (∀ (u1:Env) (T:Nat→Nat×Nat) (w:World),B w→w0.heap.size≤w.heap.size→zaL [1,0,1,3,4,5,6,9,10,11] w0.heap.size w.heap.size T→(Q 1 u1 T w∧Q 0 u1 T w∧Q 1 u1 T w∧Q 3 u1 T w∧Q 4 u1 T w∧Q 5 u1 T w∧Q 6 u1 T w∧Q 9 u1 T w∧Q 10 u1 T w∧Q 11 u1 T w∧True)→(λw1=>NIL (u1 18) <|
 R 12 w1 w∧Q 12 (upd u1 28 (u1 18)) (zbS T 12 (w1.heap.size,w.heap.size)) w) w) ∧
 (∀ (u1:Env) (T:Nat→Nat×Nat) (w:World),B w→w0.heap.size≤w.heap.size→zaL [12,0,1,3,4,5,6,9,10,11] w0.heap.size w.heap.size T→(Q 12 u1 T w∧Q 0 u1 T w∧Q 1 u1 T w∧Q 3 u1 T w∧Q 4 u1 T w∧Q 5 u1 T w∧Q 6 u1 T w∧Q 9 u1 T w∧Q 10 u1 T w∧Q 11 u1 T w∧True)→(λw1=>rF 101 (u1 28) 3 w λx29=>
 R 13 w1 w∧Q 13 (upd u1 29 x29) (zbS T 13 (w1.heap.size,w.heap.size)) w) w) ∧
 (∀ (u1:Env) (T:Nat→Nat×Nat) (w:World),B w→w0.heap.size≤w.heap.size→zaL [13,6,11,0,1,3,4,5,6,9,10,11] w0.heap.size w.heap.size T→(Q 13 u1 T w∧Q 6 u1 T w∧Q 11 u1 T w∧Q 0 u1 T w∧Q 1 u1 T w∧Q 3 u1 T w∧Q 4 u1 T w∧Q 5 u1 T w∧Q 6 u1 T w∧Q 9 u1 T w∧Q 10 u1 T w∧Q 11 u1 T w∧True)→(λw1=>oS 25 (u1 29) (u1 23) w λw=>
 R 14 w1 w∧Q 14 u1 (zbS T 14 (w1.heap.size,w.heap.size)) w) w) ∧
 (∀ (u1:Env) (T:Nat→Nat×Nat) (w:World),B w→w0.heap.size≤w.heap.size→zaL [2,0,1,2,3,4,5,6,7,8,9,10,11,12,13,14] w0.heap.size w.heap.size T→(Q 2 u1 T w∧Q 0 u1 T w∧Q 1 u1 T w∧Q 2 u1 T w∧Q 3 u1 T w∧Q 4 u1 T w∧Q 5 u1 T w∧Q 6 u1 T w∧Q 7 u1 T w∧Q 8 u1 T w∧Q 9 u1 T w∧Q 10 u1 T w∧Q 11 u1 T w∧Q 12 u1 T w∧Q 13 u1 T w∧Q 14 u1 T w∧True)→(λw1=>NIL (u1 19) <|
 R 15 w1 w∧Q 15 (upd u1 30 (u1 19)) (zbS T 15 (w1.heap.size,w.heap.size)) w) w) ∧
 (∀ (u1:Env) (T:Nat→Nat×Nat) (w:World),B w→w0.heap.size≤w.heap.size→zaL [15,0,1,2,3,4,5,6,7,8,9,10,11,12,13,14] w0.heap.size w.heap.size T→(Q 15 u1 T w∧Q 0 u1 T w∧Q 1 u1 T w∧Q 2 u1 T w∧Q 3 u1 T w∧Q 4 u1 T w∧Q 5 u1 T w∧Q 6 u1 T w∧Q 7 u1 T w∧Q 8 u1 T w∧Q 9 u1 T w∧Q 10 u1 T w∧Q 11 u1 T w∧Q 12 u1 T w∧Q 13 u1 T w∧Q 14 u1 T w∧True)→(λw1=>rF 101 (u1 30) 4 w λx31=>
 R 16 w1 w∧Q 16 (upd u1 31 x31) (zbS T 16 (w1.heap.size,w.heap.size)) w) w) ∧
 (∀ (u1:Env) (T:Nat→Nat×Nat) (w:World),B w→w0.heap.size≤w.heap.size→zaL [16,8,14,0,1,2,3,4,5,6,7,8,9,10,11,12,13,14] w0.heap.size w.heap.size T→(Q 16 u1 T w∧Q 8 u1 T w∧Q 14 u1 T w∧Q 0 u1 T w∧Q 1 u1 T w∧Q 2 u1 T w∧Q 3 u1 T w∧Q 4 u1 T w∧Q 5 u1 T w∧Q 6 u1 T w∧Q 7 u1 T w∧Q 8 u1 T w∧Q 9 u1 T w∧Q 10 u1 T w∧Q 11 u1 T w∧Q 12 u1 T w∧Q 13 u1 T w∧Q 14 u1 T w∧True)→(λw1=>oS 25 (u1 31) (u1 25) w λw=>
 R 17 w1 w∧Q 17 u1 (zbS T 17 (w1.heap.size,w.heap.size)) w) w) ∧
 True)
 (λB Q=>∀ (u1:Env) (T:Nat→Nat×Nat) (w:World),B w→w0.heap.size≤w.heap.size→zaL [0,1,2,3,4,5,6,7,8,9,10,11,12,13,14,15,16,17] w0.heap.size w.heap.size T→(Q 0 u1 T w∧Q 1 u1 T w∧Q 2 u1 T w∧Q 3 u1 T w∧Q 4 u1 T w∧Q 5 u1 T w∧Q 6 u1 T w∧Q 7 u1 T w∧Q 8 u1 T w∧Q 9 u1 T w∧Q 10 u1 T w∧Q 11 u1 T w∧Q 12 u1 T w∧Q 13 u1 T w∧Q 14 u1 T w∧Q 15 u1 T w∧Q 16 u1 T w∧Q 17 u1 T w∧True) →
 LOOPI [33] [(iV 0)] w λu3 w n3=>
 rC (u3 33) x16 w λx34=>
 BR x34
 (cL 139 [a0,(u3 33)] w λx38 w=>
 rN 25 3 x38 w λx39=>
 LOOPI [40] [(iV 0)] w λu6 w n6=>
 rC (u6 40) x39 w λx41=>
 BR x41
 (rX 25 x38 (u6 40) w λx42=>
 rL 3 x42 w λx43=>
 NIL a0 <|
 rF 101 a0 0 w λx46=>
 rF 28 x46 4 w λx47=>
 rL 26 x47 w λx48=>
 rX 26 x48 x43 w λx50=>
 rL 118 x50 w λx51=>
 oP (aL 118) w λx6 w=>
 oS 118 x6 x51 w λw=>
 JOIN [] (λJ11=>
 rF 118 x6 0 w λx52=>
 rL 3 x52 w λx53=>
 rQ x53 (iV 4) w λx54=>
 BR x54
 ((λw=>NIL a0 <|
 rF 101 a0 2 w λx57=>
 rL 25 x57 w λx58=>
 rX 25 x58 (u3 33) w λx60=>
 rL 3 x60 w λx61=>
 rF 118 x6 1 w λx62=>
 rL 3 x62 w λx63=>
 rD (convert 3 77 x63) w λx64=>
 rB .shl 3 U0 T0 (iV 1) x64 w λx65=>
 rB .or 3 T0 T0 x61 x65 w λx66=>
 rX 25 x58 (u3 33) w λx67=>
 oS 3 x67 x66 w λw=>
 J11 [] w) (World.drew1 w))
 (J11 [] w)) (λu11 w=>
 rF 118 x6 0 w λx68=>
 rL 3 x68 w λx69=>
 rQ x69 (iV 5) w λx70=>
 BR x70
 ((λw=>NIL a0 <|
 rF 101 a0 3 w λx73=>
 rL 25 x73 w λx74=>
 rX 25 x74 (u3 33) w λx76=>
 rL 3 x76 w λx77=>
 rF 118 x6 1 w λx78=>
 rL 3 x78 w λx79=>
 rD (convert 3 77 x79) w λx80=>
 rB .shl 3 U0 T0 (iV 1) x80 w λx81=>
 rB .or 3 T0 T0 x77 x81 w λx82=>
 rX 25 x74 (u3 33) w λx83=>
 oS 3 x83 x82 w λw=>
 rI (u6 40) w λx84=>
 n6 [x84] w) (World.drew1 w))
 (rI (u6 40) w λx84=>
 n6 [x84] w)))
 (rI (u3 33) w λx85=>
 n3 [x85] w))
 (LOOPI [87] [(iV 0)] w λu16 w n16=>
 rC (u16 87) x16 w λx88=>
 BR x88
 (rD (convert 3 77 (u16 87)) w λx91=>
 rB .shl 3 U0 T0 (iV 1) x91 w λx92=>
 LOOPI [8,9] [x92,vT] w λu20 w n20=>
 BR (u20 9)
 (NIL a0 <|
 rF 101 a0 2 w λx97=>
 rL 25 x97 w λx98=>
 cL 140 [x98,(u20 8)] w λx100 w=>
 rB .or 3 T0 T0 (u20 8) x100 w λx101=>
 rB .neq 3 T0 T0 x101 (u20 8) w λx104=>
 n20 [x101,x104] w)
 (NIL a0 <|
 rF 101 a0 4 w λx108=>
 rL 25 x108 w λx109=>
 rX 25 x109 (u16 87) w λx112=>
 oS 3 x112 (u20 8) w λw=>
 rI (u16 87) w λx113=>
 n16 [x113] w))
 (R (Value.tuple #[]) w)))) (World.drew1 w)
def cfg74:Cfg:={ ext:=extL,joins:=[(11,295143401579725455360,[])],loops:=[(3,77371252455336258591260776,[33]),(6,38685626227667034078969952,[40]),(16,20769187279396805603449450954491776,[87]),(20,81119734894292398653589812152064,[8,9])],draws:=[(10,[0,1,2,3,4,5,6,7,8,9,10,11,12,13],0),(12,[0,1,2,3,4,5,6,7,8,9,10,11,12,13],0)],pars:=[],gpars:=[(1,4294836224)] }
theorem F74_call {a0 w R} (h:F74 a0 w R):cL 74 [a0] w R:=co (g:=cfg74) Tryz.func74 h
open Rep (rep)
abbrev sl (g n:Nat):Value:=.slice (some ⟨g,0,none⟩) n n
structure FC (W0 w:World) (b e:Nat) (c:DCode) (kc:List Value) (m g6 g7 g8:Nat) (c6 c7 c8:List Nat) (x9 x10:Value):Prop where
 wb:WB W0 w b e c kc m (sl g6 c.procs.length) (sl g7 c.procs.length) (sl g8 c.procs.length) x9 x10
 m6:Mine [g6] w (sl g6 c.procs.length) (za9 c6)
 m7:Mine [g7] w (sl g7 c.procs.length) (za9 c7)
 m8:Mine [g8] w (sl g8 c.procs.length) (za9 c8)
 n6:W0.heap.size≤g6∧g6≠b∧g6≠m
 n7:W0.heap.size≤g7∧g7≠b∧g7≠m
 n8:W0.heap.size≤g8∧g8≠b∧g8≠m
 d67:g6≠g7
 d68:g6≠g8
 d78:g7≠g8
section
variable {W0 w w':World} {b e m g6 g7 g8:Nat} {c:DCode} {kc:List Value} {c6 c7 c8:List Nat} {x9 x10:Value}
theorem zed {F:List Nat} {g:Nat} {v:Value} {l:List Int} (hm:Mine [g] w v l) (hc:Chg F w w') (hg:g∉F):Mine [g] w' v l:=hm.keep λx hx=>by
 simp only [List.mem_cons,List.not_mem_nil,or_false] at hx;subst hx;exact hc.block x (hm.lt x (by simp)) hg
theorem FC.step (h:FC W0 w b e c kc m g6 g7 g8 c6 c7 c8 x9 x10) (hx:Ext w w'):FC W0 w' b e c kc m g6 g7 g8 c6 c7 c8 x9 x10:=⟨h.wb.step hx,h.m6.ext hx,h.m7.ext hx,h.m8.ext hx,h.n6,h.n7,h.n8,h.d67,h.d68,h.d78⟩
theorem FC.set6 {i v:Nat} (h:FC W0 w b e c kc m g6 g7 g8 c6 c7 c8 x9 x10) (hc:Chg [g6] w w') (hm:Mine [g6] w' (sl g6 c.procs.length) ((za9 c6).set i (v:Int))):FC W0 w' b e c kc m g6 g7 g8 (c6.set i v) c7 c8 x9 x10:=
 ⟨h.wb.chg hc (by simp [h.n6]),by rw [zht];exact hm,zed h.m7 hc (by simp [Ne.symm h.d67]),zed h.m8 hc (by simp [Ne.symm h.d68]),h.n6,h.n7,h.n8,h.d67,h.d68,h.d78⟩
theorem FC.set7 {i v:Nat} (h:FC W0 w b e c kc m g6 g7 g8 c6 c7 c8 x9 x10) (hc:Chg [g7] w w') (hm:Mine [g7] w' (sl g7 c.procs.length) ((za9 c7).set i (v:Int))):FC W0 w' b e c kc m g6 g7 g8 c6 (c7.set i v) c8 x9 x10:=
 ⟨h.wb.chg hc (by simp [h.n7]),zed h.m6 hc (by simp [h.d67]),by rw [zht];exact hm,zed h.m8 hc (by simp [Ne.symm h.d78]),h.n6,h.n7,h.n8,h.d67,h.d68,h.d78⟩
theorem FC.set8 {i v:Nat} (h:FC W0 w b e c kc m g6 g7 g8 c6 c7 c8 x9 x10) (hc:Chg [g8] w w') (hm:Mine [g8] w' (sl g8 c.procs.length) ((za9 c8).set i (v:Int))):FC W0 w' b e c kc m g6 g7 g8 c6 c7 (c8.set i v) x9 x10:=
 ⟨h.wb.chg hc (by simp [h.n8]),zed h.m6 hc (by simp [h.d68]),zed h.m7 hc (by simp [h.d78]),by rw [zht];exact hm,h.n6,h.n7,h.n8,h.d67,h.d68,h.d78⟩
end
theorem WB.ins {W0 w:World} {b e m:Nat} {c:DCode} {kc:List Value} {x6 x7 x8 x9 x10:Value} (h:WB W0 w b e c kc m x6 x7 x8 x9 x10):∃ v,(kc++[Value.slice (some ⟨m,0,none⟩) c.ins.length c.ins.length,x6,x7,x8,x9,x10])[0+0+4]?=some v∧Is W0 v c.ins:=by
 obtain ⟨F,hr⟩:=h.code;obtain ⟨F0,c0,F1,c1,F2,c2,F3,c3,F4,c4,rfl,rfl,⟨_,_,_,_,rfl,_⟩,⟨_,_,_,_,rfl,_⟩,⟨_,_,_,_,rfl,_⟩,⟨_,_,_,_,rfl,_⟩,hr4⟩:=zmD hr;have hr4':=hr4;obtain ⟨_,_,_,_,rfl,_⟩:=hr4;exact ⟨_,rfl,_,_,hr4',rfl⟩
def fcD (c:DCode) (op:Int) (p:Nat) (M:List Nat) (j:Nat):Nat→Nat→Prop:=λq r=>(q<p∧znj c q op r)∨(q=p∧∃ i∈M.take j,(zan c i).op=op∧agN c i=r)
theorem zvx {c:DCode} {op:Int} {p:Nat} {M:List Nat} {j i:Nat} (htj:∀ x,x∈M.take (j+1)↔x∈M.take j∨x=i) (hn:¬(zan c i).op=op) (q r:Nat):fcD c op p M j q r↔fcD c op p M (j+1) q r:=by
 unfold fcD;refine or_congr Iff.rfl (and_congr Iff.rfl ?_);constructor
 · rintro ⟨x,hx,h⟩;exact ⟨x,(htj x).2 (.inl hx),h⟩
 rintro ⟨x,hx,h⟩;rcases (htj x).1 hx with hx | rfl
 · exact ⟨x,hx,h⟩
 exact absurd h.1 hn
theorem ztn {c:DCode} {op:Int} {p:Nat} {M:List Nat} {j i:Nat} (htj:∀ x,x∈M.take (j+1)↔x∈M.take j∨x=i) (hy:(zan c i).op=op) (q r:Nat):fcD c op p M (j+1) q r↔fcD c op p M j q r∨(q=p∧r=agN c i):=by
 unfold fcD;constructor
 · rintro (h | ⟨h1,x,hx,h⟩)
   · exact .inl (.inl h)
   rcases (htj x).1 hx with hx | rfl
   · exact .inl (.inr ⟨h1,x,hx,h⟩)
   exact .inr ⟨h1,h.2.symm⟩
 rintro ((h | ⟨h1,x,hx,h⟩) | ⟨h1,h2⟩)
 · exact .inl h
 · exact .inr ⟨h1,x,(htj x).2 (.inl hx),h⟩
 exact .inr ⟨h1,i,(htj i).2 (.inr rfl),hy,h2.symm⟩
theorem zto {c:DCode} (hc:CodeR c) {op:Int} (hop:op=4∨op=5) {p:Nat} {M:List Nat} (hp:p<c.procs.length) (hM:∀ i,i∈M↔zct c p i) (q r:Nat):fcD c op p M M.length q r↔fcD c op (p+1) [] 0 q r:=by
 have key:(∃ i∈M.take M.length,(zan c i).op=op∧agN c i=r)↔znj c p op r:=by
   rw [List.take_length];constructor
   · rintro ⟨i,hi,h1,h2⟩
     have hl:=(hM i).1 hi;have hin:=(zjY hc (by rw [hc.2.1.1];exact hp) hl).1;exact ⟨i,hin,hl,h1,by rw [(zey hc hin (by omega)).1,h2]⟩
   rintro ⟨i,hin,hl,h1,h2⟩;have:=(zey hc hin (by omega)).1;exact ⟨i,(hM i).2 hl,h1,by omega⟩
 unfold fcD;constructor
 · rintro (h | ⟨rfl,h⟩)
   · exact .inl ⟨by omega,h.2⟩
   exact .inl ⟨by omega,key.1 h⟩
 rintro (⟨h1,h2⟩ | ⟨_,x,hx,_⟩)
 · by_cases e:q=p
   · subst e;exact .inr ⟨rfl,key.2 h2⟩
   exact .inl ⟨by omega,h2⟩
 simp at hx
theorem ztp {c:DCode} {op:Int} {p:Nat} {M:List Nat} (q r:Nat):fcD c op p [] 0 q r↔fcD c op p M 0 q r:=by
 unfold fcD;simp
theorem CS.done {c:DCode} {op:Int} {out:List Nat} (h:CS c out (fcD c op c.procs.length [] 0)):out=cls c op:=
 CS.eq_cls (op:=op) (h.mono λq r hq hr=>by unfold fcD;simp [hq])
structure UM (c:DCode) (p m:Nat):Prop where
 lt:m<2^c.procs.length
 self:m.testBit p=true
 snd:∀ r,m.testBit r=true→FromP c p r
theorem UM.start {c:DCode} {p:Nat} (hp:p<c.procs.length):UM c p (2^p):=⟨Nat.pow_lt_pow_right (by omega) hp,by simp [Nat.testBit_two_pow],λr hr=>by simp [Nat.testBit_two_pow] at hr;exact .inl hr.symm⟩
theorem zmb {c:DCode} {op:Int} {q r:Nat} (hq:q<c.procs.length):(za5 (cls c op) q).testBit r=true↔r<c.procs.length∧znj c q op r:=by rw [zvo hq,zaY]
theorem UM.more {c:DCode} (h8:c.procs.length≤8) {p m:Nat} (h:UM c p m):UM c p (m ||| orL (cls c 4) (zbL m)):=by
 have hb:∀ r,(orL (cls c 4) (zbL m)).testBit r=true→∃ i,i<c.procs.length∧m.testBit i=true∧r<c.procs.length∧znj c i 4 r:=λr hr=>by
   obtain ⟨i,h1,h2,h3⟩:=(zi7 h.lt (by omega)).1 hr;exact ⟨i,h1,h2,(zmb h1).1 h3⟩
 refine ⟨Nat.or_lt_two_pow h.lt (zo8 λr hr=>by obtain ⟨i,_,_,h3,_⟩:=hb r hr;exact h3),by rw [Nat.testBit_or,h.self];rfl,λr hr=>?_⟩;rw [Nat.testBit_or,Bool.or_eq_true] at hr;rcases hr with hr | hr
 · exact h.snd r hr
 obtain ⟨i,h1,h2,h3,h4⟩:=hb r hr;exact (h.snd i h2).call h3 h4
theorem UM.fin {c:DCode} (h8:c.procs.length≤8) {p m:Nat} (h:UM c p m) (he:m ||| orL (cls c 4) (zbL m)=m):m=zcF (FromP c p) c.procs.length:=by
 have hlt:∀ r,m.testBit r=true→r<c.procs.length:=λr hr=>Decidable.byContradiction λhn=>by
   have:=Nat.testBit_lt_two_pow (Nat.lt_of_lt_of_le h.lt (Nat.pow_le_pow_right (by omega) (by omega:c.procs.length≤r)));rw [this] at hr;cases hr
 refine zew λr=>⟨λhr=>⟨hlt r hr,h.snd r hr⟩,λ⟨_,hf⟩=>?_⟩
 have step:∀ i j,m.testBit i=true→j∈znn c i→m.testBit j=true:=λi j hi hj=>by
   obtain ⟨hj1,hj2⟩:=zbq.1 hj;rw [←he,Nat.testBit_or,(zi7 h.lt (by omega)).2 ⟨i,hlt i hi,hi,(zmb (hlt i hi)).2 ⟨hj1,hj2⟩⟩];simp
 rcases hf with rfl | hf
 · exact h.self
 exact hf.keeps (p:=λi=>m.testBit i=true) h.self step
theorem zqg {c:DCode} (h8:c.procs.length≤8) (op:Int):∀ x∈cls c op,x<256:=λx hx=>by
 obtain ⟨q,_,rfl⟩:=List.mem_map.1 hx;exact zeh h8
theorem zxk {c:DCode} (h8:c.procs.length≤8):∀ x∈frs c,x<256:=λx hx=>by
 obtain ⟨q,_,rfl⟩:=List.mem_map.1 hx;exact zeh h8
theorem znK {w W0:World} {b e m:Nat} {c:DCode} {kc:List Value} {x6 x7 x8 x9 x10:Value} (H:WB W0 w b e c kc m x6 x7 x8 x9 x10) (hc:CodeR c) :
   CALL tp 74 [.pointer (some ⟨b,0,none⟩)] w λr w'=>r=.tuple #[]∧∃ g6 g7 g8,FC W0 w' b e c kc m g6 g7 g8 (cls c 4) (cls c 5) (frs c) x9 x10:=by
 refine F74_call ?_;unfold F74;have h8:=hc.1.procs8;have hil:=hc.f.ins;refine NIL.mk rfl ?_;refine zaa zcK ?_;refine zaa zdd ?_;refine zab zc0 (zbb H.code_at) (Ext.refl _) λv15 h15=>?_;refine zae u24 h15 ?_;have hxd:=zai w;have H1:=H.step hxd;have h6:(kc++[sl m c.ins.length]).length=6:=by rw [List.length_append,H.k5];rfl
 have hB0:fcB (World.drew1 w) b e (kc++[sl m c.ins.length]) x9 x10 (World.drew1 w):=⟨ChgI.refl _,x6,x7,x8,by rw [List.append_assoc];exact H1.blk⟩;have hbl:=H1.blk.lt;have hsd:(World.drew1 w).heap.size=w.heap.size:=rfl;refine GPAR.mk (fcB (World.drew1 w) b e (kc++[sl m c.ins.length]) x9 x10) (fcR b e) (fcQ b e c.procs.length) hB0 (λj w1 w2 h1 h2=>h1.step h6 h2) (λj w1 w2 h=>h.sz) ?_ ?_ ?_
 · intro i j u u' T T' wa wb hij hBa hR hd hq
   match i,hij,hd,hq with
   | 0,_,hd,hq=>exact (hd (0,17) (by decide)).1.trans hq
   | 1,_,hd,hq=>exact (hd (1,18) (by decide)).1.trans hq
   | 2,_,hd,hq=>exact (hd (2,19) (by decide)).1.trans hq
   | 3,_,hd,hq=>exact (hd (3,20) (by decide)).1.trans hq
   | 4,_,hd,⟨g,q1,q2,q3,q4,q5⟩=>
     obtain ⟨e1,e2⟩:=hd (4,21) (by decide);simp only at e1 e2;exact ⟨g,e1.trans q1,by rw [e2];exact q2,by rw [e2];exact q3,q4,hR.mine q4 q5⟩
   | 5,_,hd,hq=>exact (hd (5,22) (by decide)).1.trans hq
   | 6,_,hd,⟨g,q1,q2,q3,q4,q5⟩=>
     obtain ⟨e1,e2⟩:=hd (6,23) (by decide);simp only at e1 e2;exact ⟨g,e1.trans q1,by rw [e2];exact q2,by rw [e2];exact q3,q4,hR.mine q4 q5⟩
   | 7,_,hd,hq=>exact (hd (7,24) (by decide)).1.trans hq
   | 8,_,hd,⟨g,q1,q2,q3,q4,q5⟩=>
     obtain ⟨e1,e2⟩:=hd (8,25) (by decide);simp only at e1 e2;exact ⟨g,e1.trans q1,by rw [e2];exact q2,by rw [e2];exact q3,q4,hR.mine q4 q5⟩
   | 9,_,hd,hq=>exact (hd (9,26) (by decide)).1.trans hq
   | 10,_,hd,hq=>exact (hd (10,27) (by decide)).1.trans hq
   | 11,hij,hd,hq=>
     have e1:=(hd (4,21) (by decide)).1;simp only at e1;show ∃ cs,Blk b e wb cs∧cs[6]?=some (u' 21);rw [e1];exact hR.cell (λhs=>by rcases hs with rfl | rfl | rfl<;>first | exact absurd rfl hij | decide) hq
   | 12,_,hd,hq=>exact (hd (12,28) (by decide)).1.trans hq
   | 13,_,hd,hq=>exact (hd (13,29) (by decide)).1.trans hq
   | 14,hij,hd,hq=>
     have e1:=(hd (6,23) (by decide)).1;simp only at e1;show ∃ cs,Blk b e wb cs∧cs[7]?=some (u' 23);rw [e1];exact hR.cell (λhs=>by rcases hs with rfl | rfl | rfl<;>first | exact absurd rfl hij | decide) hq
   | 15,_,hd,hq=>exact (hd (15,30) (by decide)).1.trans hq
   | 16,_,hd,hq=>exact (hd (16,31) (by decide)).1.trans hq
   | 17,hij,hd,hq=>
     have e1:=(hd (8,25) (by decide)).1;simp only at e1;show ∃ cs,Blk b e wb cs∧cs[8]?=some (u' 25);rw [e1];exact hR.cell (λhs=>by rcases hs with rfl | rfl | rfl<;>first | exact absurd rfl hij | decide) hq
   | n+18,_,_,_=>trivial
 · have nf:∀ j,j≠11→j≠14→j≠17→¬zwM j:=λj a b d h=>by rcases h with h | h | h<;>contradiction
   refine ⟨?_,?_,?_,?_,?_,?_,?_,?_,?_,?_,?_,?_,?_,?_,?_,?_,?_,?_,trivial⟩
   · exact λu T w' hB hs _ _=>⟨.ext (nf _ (by decide) (by decide) (by decide)) (Ext.refl _),rfl⟩
   · exact λu T w' hB hs _ _=>⟨.ext (nf _ (by decide) (by decide) (by decide)) (Ext.refl _),rfl⟩
   · exact λu T w' hB hs _ _=>⟨.ext (nf _ (by decide) (by decide) (by decide)) (Ext.refl _),rfl⟩
   · exact λu T w' hB hs _ _=>⟨.ext (nf _ (by decide) (by decide) (by decide)) (Ext.refl _),rfl⟩
   · intro u T w' hB hs _ hp
     have q2:u 20=_:=hp.1;rw [q2];exact zhv h8.2 (by omega) λw4 hx4 r=>⟨.ext (nf _ (by decide) (by decide) (by decide)) hx4,_,rfl,lr _,r.lt _ (List.mem_singleton.2 rfl),by obtain ⟨_,_,_,_,hb⟩:=hB;have:=hb.lt;omega,r⟩
   · exact λu T w' hB hs _ _=>⟨.ext (nf _ (by decide) (by decide) (by decide)) (Ext.refl _),rfl⟩
   · intro u T w' hB hs _ hp
     have q2:u 22=_:=hp.1;rw [q2];exact zhv h8.2 (by omega) λw4 hx4 r=>⟨.ext (nf _ (by decide) (by decide) (by decide)) hx4,_,rfl,lr _,r.lt _ (List.mem_singleton.2 rfl),by obtain ⟨_,_,_,_,hb⟩:=hB;have:=hb.lt;omega,r⟩
   · exact λu T w' hB hs _ _=>⟨.ext (nf _ (by decide) (by decide) (by decide)) (Ext.refl _),rfl⟩
   · intro u T w' hB hs _ hp
     have q2:u 24=_:=hp.1;rw [q2];exact zhv h8.2 (by omega) λw4 hx4 r=>⟨.ext (nf _ (by decide) (by decide) (by decide)) hx4,_,rfl,lr _,r.lt _ (List.mem_singleton.2 rfl),by obtain ⟨_,_,_,_,hb⟩:=hB;have:=hb.lt;omega,r⟩
   · intro u T w' hB hs _ hp
     have q:u 17=_:=hp.1;rw [q];exact NIL.mk rfl ⟨.ext (nf _ (by decide) (by decide) (by decide)) (Ext.refl _),rfl⟩
   · intro u T w' hB hs _ hp
     have q:u 26=_:=hp.1;rw [q];exact zaa zon ⟨.ext (nf _ (by decide) (by decide) (by decide)) (Ext.refl _),rfl⟩
   · intro u T w' hB hs _ hp
     have q:u 27=_:=hp.1;obtain ⟨g,q1,_⟩:=hp.2.1;rw [q,q1];refine zma (j:=11) (.inl rfl) h6 hB λw2 hR hQ=>⟨hR,?_⟩;show ∃ cs,Blk b e w2 cs∧cs[6]?=some (u 21);rw [q1];exact hQ
   · intro u T w' hB hs _ hp
     have q:u 18=_:=hp.1;rw [q];exact NIL.mk rfl ⟨.ext (nf _ (by decide) (by decide) (by decide)) (Ext.refl _),rfl⟩
   · intro u T w' hB hs _ hp
     have q:u 28=_:=hp.1;rw [q];exact zaa zoo ⟨.ext (nf _ (by decide) (by decide) (by decide)) (Ext.refl _),rfl⟩
   · intro u T w' hB hs _ hp
     have q:u 29=_:=hp.1;obtain ⟨g,q1,_⟩:=hp.2.1;rw [q,q1];refine zma (j:=14) (.inr (.inl rfl)) h6 hB λw2 hR hQ=>⟨hR,?_⟩;show ∃ cs,Blk b e w2 cs∧cs[7]?=some (u 23);rw [q1];exact hQ
   · intro u T w' hB hs _ hp
     have q:u 19=_:=hp.1;rw [q];exact NIL.mk rfl ⟨.ext (nf _ (by decide) (by decide) (by decide)) (Ext.refl _),rfl⟩
   · intro u T w' hB hs _ hp
     have q:u 30=_:=hp.1;rw [q];exact zaa zop ⟨.ext (nf _ (by decide) (by decide) (by decide)) (Ext.refl _),rfl⟩
   intro u T w' hB hs _ hp;have q:u 31=_:=hp.1;obtain ⟨g,q1,_⟩:=hp.2.1;rw [q,q1];refine zma (j:=17) (.inr (.inr rfl)) h6 hB λw2 hR hQ=>⟨hR,?_⟩;show ∃ cs,Blk b e w2 cs∧cs[8]?=some (u 25);rw [q1];exact hQ
 rintro u T w2 hB hs hap ⟨-,-,-,-,⟨g6,q21,ha6,hb6,hn6,hM6⟩,-,⟨g7,q23,ha7,hb7,hn7,hM7⟩,-,⟨g8,q25,ha8,hb8,hn8,hM8⟩,-,-,⟨cs6,hB6,hc6⟩,-,-,⟨cs7,hB7,hc7⟩,-,-,⟨cs8,hB8,hc8⟩,-⟩;have t4:=hap.1 4 (by decide);have t6:=hap.1 6 (by decide);have t8:=hap.1 8 (by decide);have d46:=hap.2 4 (by decide) 6 (by decide) (by decide);have d48:=hap.2 4 (by decide) 8 (by decide) (by decide);have d68:=hap.2 6 (by decide) 8 (by decide) (by decide);obtain ⟨hch,y6,y7,y8,hBB⟩:=hB;have u6:=hBB.uniq hB6;have u7:=hBB.uniq hB7;have u8:=hBB.uniq hB8;subst u6 u7 u8;rw [List.getElem?_append_right (by rw [h6];decide),h6,q21] at hc6;rw [List.getElem?_append_right (by rw [h6];decide),h6,q23] at hc7;rw [List.getElem?_append_right (by rw [h6];decide),h6,q25] at hc8;have e6:y6=sl g6 c.procs.length:=by simpa using hc6
 have e7:y7=sl g7 c.procs.length:=by simpa using hc7
 have e8:y8=sl g8 c.procs.length:=by simpa using hc8
 subst e6 e7 e8;rw [List.append_assoc] at hBB;have hW2:=H1.cells hch hBB;have hml:=H1.live.lt m (by simp);have hb0:=H.b0;have hF2:FC W0 w2 b e c kc m g6 g7 g8 (List.replicate c.procs.length 0) (List.replicate c.procs.length 0) (List.replicate c.procs.length 0) x9 x10:=⟨hW2,hM6,hM7,hM8,⟨by omega,hn6,by omega⟩,⟨by omega,hn7,by omega⟩,⟨by omega,hn8,by omega⟩,by omega,by omega,by omega⟩;clear hc6 hc7 hc8 hB6 hB7 hB8 hBB hW2 hch H1 hB0 hap d46 d48 d68 t4 t6 t8;have hz:∀ op,CS c (List.replicate c.procs.length 0) (fcD c op 0 [] 0):=λop=>CS.zero λq r h=>by unfold fcD at h;simp at h
 have hz4:=hz 4;have hz5:=hz 5;have hc8l:(List.replicate c.procs.length 0).length=c.procs.length:=by simp
 refine zat c.procs.length (λk us w'=>∃ c6 c7,us=[.int .i64 (k:Int)]∧k≤c.procs.length∧FC W0 w' b e c kc m g6 g7 g8 c6 c7 (List.replicate c.procs.length 0) x9 x10∧CS c c6 (fcD c 4 k [] 0)∧CS c c7 (fcD c 5 k [] 0)) 0 (z0 _) ⟨_,_,rfl,z0 _,hF2,hz4,hz5⟩ ?_;rintro p mk u3 w3 hkm ⟨c6,c7,hu,hkl,hF3,hC6,hC7⟩;try replace hu:=zbG hu
 rw [hu];refine zaf ?_;refine br (λhlt=>?_) (λhge=>?_)
 · have hp:p<c.procs.length:=by omega
   have hpe:p<c.entry.length:=by rw [hc.2.1.1];exact hp
   refine (zsY hF3.wb.wl (Ext.refl _) hc hp).mono ?_;rintro v38 w4 ⟨hx4,ho4⟩;have hF4:=hF3.step hx4;have hM:∀ i,i∈zcr c.ins.length (zct c p)↔zct c p i:=λi=>by rw [zbq];exact ⟨λh=>h.2,λh=>⟨(zjY hc hpe h).1,h⟩⟩
   have hMl:(zcr c.ins.length (zct c p)).length≤1500:=Nat.le_trans zc6 hil;generalize zcr c.ins.length (zct c p)=M at *;have hg6:=hF3.m6.lt g6 (by simp);have hg7:=hF3.m7.lt g7 (by simp);refine zae u25 ho4.is ?_;rw [zaj];refine zat M.length (λj us w'=>∃ c6 c7,us=[.int .i64 (j:Int)]∧j≤M.length∧FC W0 w' b e c kc m g6 g7 g8 c6 c7 (List.replicate c.procs.length 0) x9 x10∧CS c c6 (fcD c 4 p M j)∧CS c c7 (fcD c 5 p M j)∧OwnI w3.heap.size w4.heap.size w' v38 (za9 M)) 0 (z0 _) ⟨c6,c7,rfl,z0 _,hF4,hC6.mono λq r _ _=>ztp q r,hC7.mono λq r _ _=>ztp q r,ho4.toI⟩ ?_;rintro j mj u5 w5 hjm ⟨c65,c75,hu,hjl,hF5,hC65,hC75,hO5⟩;try replace hu:=zbG hu
   rw [hu];refine zaf ?_;refine br (λhlt5=>?_) (λhge5=>?_)
   case refine_2=>
     have hje:j=M.length:=by omega
     rw [hje] at hC65 hC75;refine zaB ?_;exact ⟨mk-1,by omega,p+1,by omega,c65,c75,rfl,by omega,hF5,hC65.mono λq r _ _=>zto hc (.inl rfl) hp hM q r,hC75.mono λq r _ _=>zto hc (.inr rfl) hp hM q r⟩
   have hj:j<M.length:=by omega
   refine zad u25 ty3 (i:=j) hO5.is (by rw [zaj];exact hj) λb2 o2 hA2=>?_;rw [zbz] at hA2;refine zac ty3 hA2 (Ext.refl _) λ_=>?_;have htj:=λx=>zdi hj (x:=x);have hiv:=(hM M[j]).1 (List.getElem_mem hj);generalize M[j]=i at *;have hin:=(zjY hc hpe hiv).1;obtain ⟨v4,hv4,hi4⟩:=hF5.wb.ins;refine NIL.mk rfl ?_;refine zaa zcK ?_;refine zaa zaR ?_;refine zas zdn hF5.wb.blk hv4 ?_;refine zad u26 zbm hi4 hin λb3 o3 hA3=>?_;rw [zaE] at hA3;refine zab zbm hA3 hF5.wb.ext λv51 h51=>?_;refine zcX zhM rfl zbm rfl h51 hF5.wb.ext λw6 hx6 hAI hV6=>?_;have hF6:=hF5.step hx6;have hO6:=hO5.ext hx6;have hAB6:=zfI h51 hV6 rfl;have hgI:=hV6.lt;have hgI0:w5.heap.size≠g6:=by have:=hF5.m6.lt g6 (by simp);omega
   generalize w5.heap.size=gI at *;refine JOIN.mk (λus w'=>∃ c6',FC W0 w' b e c kc m g6 g7 g8 c6' c75 (List.replicate c.procs.length 0) x9 x10∧CS c c6' (fcD c 4 p M (j+1))∧OwnI w3.heap.size w4.heap.size w' v38 (za9 M)∧AtB W0 w' gI 0 (zan c i)) ?_ ?_
   · refine zaa za6 ?_
     refine zac ty3 (zaA hAI) (Ext.refl _) λ_=>?_;refine zag ?_;refine br (λc4=>?_) (λc4=>?_)
     · obtain ⟨ha1,ha2⟩:=zey hc hin (.inl c4)
       have hxd:=zai w6;have hF7:=hF6.step hxd;have hO7:=hO6.ext hxd;have hAB7:=hAB6.ext hxd;have hgI7:gI<(World.drew1 w6).heap.size:=Nat.lt_of_lt_of_le hgI hxd.size;generalize World.drew1 w6=w7 at *;have hpl:p<c65.length:=by rw [hC65.1];exact hp
       refine NIL.mk rfl ?_;refine zaa zon ?_;refine zas zaK hF7.wb.blk (hF7.wb.cell 1) ?_;refine zad u25 ty3 (i:=p) hF7.m6.is (by rw [zaj];exact hpl) λb4 o4 hA4=>?_;rw [zcj] at hA4;refine zac ty3 hA4 (Ext.refl _) λ_=>?_;have h256:=hC65.lt0 h8.1 hp;refine zaa zaZ ?_;refine zac ty3 (zaw hAI) hxd λ_=>?_;rw [ha1];have hpw:2^agN c i<256:=Nat.lt_of_lt_of_le (Nat.pow_lt_pow_right (by omega) ha2) (Nat.pow_le_pow_right (n:=2) (by omega) h8.1);refine zce (by kernel_rfl) u77 (by omega) ?_;refine zfo (by omega) ?_;refine zhJ (m:=za5 c65 p) (n:=2^agN c i) (by omega) (by omega) ?_;have hor:za5 c65 p ||| 2^agN c i<256:=Nat.or_lt_two_pow (n:=8) h256 hpw;refine zdx (α:=Int) rfl u25 ty3 hp ?_;refine zcs (α:=Int) rfl ty3 hF7.m6 (by rw [zaj,hC65.1]) hp (zgi (v:=za5 c65 p ||| 2^agN c i) (by omega)) λw8 hc8 hm8=>?_;have hF8:=hF7.set6 (v:=za5 c65 p ||| 2^agN c i) hc8 hm8;exact ⟨_,hF8,hC65.set hp ha2 λq r=>ztn htj c4 q r,hO7.chgF hc8 (by simp;omega),hAB7.keep (hc8.block gI hgI7 (by simp;exact hgI0))⟩
     exact ⟨c65,hF6,hC65.mono λq r _ _=>zvx htj c4 q r,hO6,hAB6⟩
   rintro u9 w9 ⟨c69,hF9,hC69,hO9,hAB9⟩;have hAI9:=hAB9.at hF9.wb.ext;refine zaa za6 ?_;refine zac ty3 (zaA hAI9) (Ext.refl _) λ_=>?_;refine zag ?_;refine br (λc5=>?_) (λc5=>?_)
   · obtain ⟨ha1,ha2⟩:=zey hc hin (.inr c5)
     have hxd:=zai w9;have hF10:=hF9.step hxd;have hO10:=hO9.ext hxd;generalize World.drew1 w9=w10 at *;have hpl:p<c75.length:=by rw [hC75.1];exact hp
     refine NIL.mk rfl ?_;refine zaa zoo ?_;refine zas zaK hF10.wb.blk (hF10.wb.cell 2) ?_;refine zad u25 ty3 (i:=p) hF10.m7.is (by rw [zaj];exact hpl) λb4 o4 hA4=>?_;rw [zcj] at hA4;refine zac ty3 hA4 (Ext.refl _) λ_=>?_;have h256:=hC75.lt0 h8.1 hp;refine zaa zaZ ?_;refine zac ty3 (zaw hAI9) hxd λ_=>?_;rw [ha1];have hpw:2^agN c i<256:=Nat.lt_of_lt_of_le (Nat.pow_lt_pow_right (by omega) ha2) (Nat.pow_le_pow_right (n:=2) (by omega) h8.1);refine zce (by kernel_rfl) u77 (by omega) ?_;refine zfo (by omega) ?_;refine zhJ (m:=za5 c75 p) (n:=2^agN c i) (by omega) (by omega) ?_;have hor:za5 c75 p ||| 2^agN c i<256:=Nat.or_lt_two_pow (n:=8) h256 hpw;refine zdx (α:=Int) rfl u25 ty3 hp ?_;refine zcs (α:=Int) rfl ty3 hF10.m7 (by rw [zaj,hC75.1]) hp (zgi (v:=za5 c75 p ||| 2^agN c i) (by omega)) λw11 hc11 hm11=>?_;have hF11:=hF10.set7 (v:=za5 c75 p ||| 2^agN c i) hc11 hm11;refine zaB ?_;exact ⟨mj-1,by omega,j+1,by omega,c69,_,rfl,by omega,hF11,hC69,hC75.set hp ha2 λq r=>ztn htj c5 q r,hO10.chgF hc11 (by simp;omega)⟩
   refine zaB ?_;exact ⟨mj-1,by omega,j+1,by omega,c69,c75,rfl,by omega,hF9,hC69,hC75.mono λq r _ _=>zvx htj c5 q r,hO9⟩
 have hke:p=c.procs.length:=by omega
 rw [hke] at hC6 hC7;rw [hC6.done,hC7.done] at hF3;clear hC6 hC7 hF2 hkm hu;have hCz:CS c (List.replicate c.procs.length 0) (λq r=>q<0∧FromP c q r):=CS.zero λq r h=>by omega
 generalize List.replicate c.procs.length 0=c8 at *;refine zat c.procs.length (λk us w'=>∃ c8,us=[.int .i64 (k:Int)]∧k≤c.procs.length∧FC W0 w' b e c kc m g6 g7 g8 (cls c 4) (cls c 5) c8 x9 x10∧CS c c8 (λq r=>q<k∧FromP c q r)) 0 (z0 _) ⟨_,rfl,z0 _,hF3,hCz⟩ ?_;rintro k mk u4 w4 hkm ⟨c84,hu,hkl,hF4,hC84⟩;try replace hu:=zbG hu
 rw [hu];refine zaf ?_;refine br (λhlt4=>?_) (λhge4=>?_)
 case refine_2=>
   have hke:k=c.procs.length:=by omega
   rw [hke] at hC84
   have:c84=frs c:=by
     refine List.ext_getElem (by rw [hC84.1,zl2]) λi h1 h2=>?_;have hi:i<c.procs.length:=by rw [←hC84.1];exact h1
     rw [zcI h1,zcI h2,zvp hi,hC84.2 i hi];exact zbx λr _=>⟨λh=>h.2,λh=>⟨hi,h⟩⟩
   rw [this] at hF4;exact ⟨rfl,g6,g7,g8,hF4⟩
 have hk:k<c.procs.length:=by omega
 refine zce (by kernel_rfl) u77 (by omega) ?_;refine zfo (by omega) ?_;have hU:=UM.start (c:=c) hk;have h8':2^c.procs.length≤256:=Nat.pow_le_pow_right (n:=2) (by omega) h8.1;refine LOOPI.mk (λmm us w'=>∃ (s:Nat) (ag:Bool),us=[.int .i64 (s:Int),.bool ag]∧mm=(256-s)+(if ag then 1 else 0)∧FC W0 w' b e c kc m g6 g7 g8 (cls c 4) (cls c 5) c84 x9 x10∧UM c k s∧(ag=false→s=zcF (FromP c k) c.procs.length)) (256-2^k+1) ⟨2^k,true,rfl,rfl,hF4,hU,λe=>by cases e⟩ ?_;rintro mm u5 w5 ⟨s,ag,hu,hm,hF5,hU5,hend⟩;obtain ⟨hu1,hu2⟩:=zd4 hu;rw [hu1,hu2];have hs256:s<256:=Nat.lt_of_lt_of_le hU5.lt h8';refine zcd (λhag=>?_) (λhag=>?_)
 · rw [hag,if_pos rfl] at hm
   refine NIL.mk rfl ?_;refine zaa zon ?_;refine zas zaK hF5.wb.blk (hF5.wb.cell 1) ?_;refine (zie hF5.m6.is (Ext.refl _) (zqg h8.1 4) (by rw [zif];exact h8.1) (m:=s) (by rw [zif];exact hU5.lt)).mono ?_;rintro _ w6 ⟨hx6,rfl⟩;have hF6:=hF5.step hx6;have hor:=zsV (zqg h8.1 4) (zbL s);have hU6:=hU5.more h8.1;have hfin:=hU5.fin h8.1;have hgt:=λh=>zuB (m:=orL (cls c 4) (zbL s)) (n:=s) h;refine zhJ (m:=s) (n:=orL (cls c 4) (zbL s)) (by omega) (by omega) ?_;have hor2:s ||| orL (cls c 4) (zbL s)<256:=Nat.or_lt_two_pow (n:=8) hs256 hor;generalize s ||| orL (cls c 4) (zbL s)=t at *;refine zaV ?_;by_cases hts:t=s
   · refine ⟨256-t,by omega,t,_,rfl,?_,hF6,hU6,λ_=>by rw [hts];exact hfin hts⟩
     rw [hts];simp
   have hd:decide ((t:Int)≠(s:Int))=true:=decide_eq_true λh=>hts (Int.ofNat_inj.1 h);have:=hgt hts;rw [hd];exact ⟨256-t+1,by omega,t,true,rfl,rfl,hF6,hU6,λe=>by cases e⟩
 have hse:=hend hag;have hpl:k<c84.length:=by rw [hC84.1];exact hk
 refine NIL.mk rfl ?_;refine zaa zop ?_;refine zas zaK hF5.wb.blk (hF5.wb.cell 3) ?_;refine zdx (α:=Int) rfl u25 ty3 hk ?_;refine zcs (α:=Int) rfl ty3 hF5.m8 (by rw [zaj,hC84.1]) hk (zgi (v:=s) (by omega)) λw6 hc6 hm6=>?_;have hF6:=hF5.set8 (v:=s) hc6 hm6;refine zaB ?_;refine ⟨mk-1,by omega,k+1,by omega,_,rfl,by omega,hF6,by simp [hC84.1],λq hq=>?_⟩;rw [zeL hpl];split
 · rename_i e
   subst e;rw [hse];exact zbx λr _=>⟨λh=>⟨by omega,h⟩,λh=>h.2⟩
 rename_i e
 rw [hC84.2 q hq];exact zbx λr _=>⟨λh=>⟨by omega,h.2⟩,λh=>⟨by omega,h.2⟩⟩
def F141 (a0:Value) (w:World) (R:VW):Prop:=
 NIL a0 <|
 rF 101 a0 0 w λx5=>
 rF 28 x5 2 w λx6=>
 rL 24 x6 w λx7=>
 cL 113 [x7,(Value.string (ByteArray.mk #[109,97,105,110]))] w λx8 w=>
 R x8 w
theorem F141_call {a0 w R} (h:F141 a0 w R):cL 141 [a0] w R:=co (g:=(kf [] [] [])) Tryz.func141 h
def F75 (a0:Value) (w:World) (R:VW):Prop:=
 cL 141 [a0] w λx6 w=>
 rD (convert 3 77 x6) w λx7=>
 rB .shl 3 U0 T0 (iV 1) x7 w λx8=>
 LOOPI [2,3] [x8,vT] w λu2 w n2=>
 BR (u2 3)
 (NIL a0 <|
 rF 101 a0 4 w λx13=>
 rL 25 x13 w λx14=>
 cL 140 [x14,(u2 2)] w λx16 w=>
 NIL a0 <|
 rF 101 a0 6 w λx18=>
 oS 3 x18 x16 w λw=>
 (λw=>NIL a0 <|
 rF 101 a0 3 w λx22=>
 rL 25 x22 w λx23=>
 NIL a0 <|
 rF 101 a0 6 w λx26=>
 rL 3 x26 w λx27=>
 (λw_=>cL 140 [x23,x27] w_ λx28 w=>
 Ext w_ w ∧
 rB .or 3 T0 T0 (u2 2) x28 w λx29=>
 rB .neq 3 T0 T0 x29 (u2 2) w λx32=>
 n2 [x29,x32] w) w) (World.drew1 w))
 (NIL a0 <|
 rF 101 a0 5 w λx37=>
 oS 3 x37 (u2 2) w λw=>
 R (Value.tuple #[]) w)
theorem F75_call {a0 w R} (h:F75 a0 w R):cL 75 [a0] w R:=co (g:=(kf [] [(2,17179868700,[2,3])] [(4,[0,1,2,3,4,5,6,7,8,9,10,11],512)])) Tryz.func75 h
def F36 (a0:Value) (w:World) (R:VW):Prop:=
 oX 28 a0 w λx1 w=>
 rL 28 x1 w λx7=>
 cL 60 [x7] w λx8 w=>
 rT x8 w λx9=>
 BR x9
 (R (Value.tuple #[(Value.pointer none),vF]) w)
 ((λw=>rL 28 x1 w λx10=>
 rF 28 x1 4 w λx11=>
 rL 26 x11 w λx12=>
 rN 26 3 x12 w λx13=>
 (λw_=>oP (Instr.makeSlice 85 x13 x13) w_ λx14 w=>
 Ext w_ w ∧
 (rD (Instr.build 101 #[(0,x10),(1,x14)]) w λx15=>
 oX 101 x15 w λx16 w=>
 rF 28 x1 3 w λx17=>
 rL 25 x17 w λx18=>
 rN 25 3 x18 w λx19=>
 LOOPI [20] [(iV 0)] w λu5 w n5=>
 rC (u5 20) x19 w λx21=>
 BR x21
 (rX 25 x18 (u5 20) w λx22=>
 rL 3 x22 w λx23=>
 NIL x16 <|
 rF 101 x16 1 w λx26=>
 rL 85 x26 w λx27=>
 rX 85 x27 x23 w λx29=>
 oS 4 x29 vT w λw=>
 NIL x16 <|
 rF 101 x16 1 w λx33=>
 rL 85 x33 w λx34=>
 cL 73 [x16,x34,x23] w λx36 w=>
 rI (u5 20) w λx37=>
 n5 [x37] w)
 (cL 74 [x16] w λx39 w=>
 cL 75 [x16] w λx41 w=>
 R (Value.tuple #[x16,vT]) w))) w) (World.drew1 w))
theorem F36_call {a0 w R} (h:F36 a0 w R):cL 36 [a0] w R:=co (g:=(kf [] [(5,274876858432,[20])] [(3,[0,1,2,3,4,5,6,7],16)])) Tryz.func36 h
open Rep (rep)
theorem zvy {w:World} {g e o:Nat} {cs:List Value} {x:Int} (hB:Blk g e w cs) (ho:cs[o]?=some (.int .i64 x)) (hx:I64 x):At w g o x:=by
 refine ⟨[],[.int .i64 x],⟨rfl,rfl,hx⟩,λi u hi=>?_⟩
 have:i=0:=by
   cases i with
   | zero=>rfl
   | succ i=>simp at hi
 subst this;simp only [List.getElem?_cons_zero,Option.some.injEq] at hi;subst hi;have:=hB.range o _ ho;rw [Nat.zero_add] at this;exact this
section
variable {W0 w w':World} {b e m g6 g7 g8:Nat} {c:DCode} {kc:List Value} {c6 c7 c8:List Nat} {x9 x10 y9 y10:Value}
theorem FC.cells (h:FC W0 w b e c kc m g6 g7 g8 c6 c7 c8 x9 x10) (hc:ChgI b (b+1) w w') (hB:Blk b e w' (kc++[.slice (some ⟨m,0,none⟩) c.ins.length c.ins.length,sl g6 c.procs.length,sl g7 c.procs.length,sl g8 c.procs.length,y9,y10])):FC W0 w' b e c kc m g6 g7 g8 c6 c7 c8 y9 y10:=
 ⟨h.wb.cells hc hB,zed h.m6 hc.one (by simp [h.n6]),zed h.m7 hc.one (by simp [h.n7]),zed h.m8 hc.one (by simp [h.n8]),h.n6,h.n7,h.n8,h.d67,h.d68,h.d78⟩
theorem FC.store9 {x:Nat} {K:World→Prop} (h:FC W0 w b e c kc m g6 g7 g8 c6 c7 c8 x9 x10) (k:∀ w',FC W0 w' b e c kc m g6 g7 g8 c6 c7 c8 (.int .i64 (x:Int)) x10→K w'):OPU tp (Instr.storeAt 3 (.pointer (some ⟨b,0+9,none⟩)) (.int .i64 (x:Int))) w K:=by
 have hl:9<(kc++[Value.slice (some ⟨m,0,none⟩) c.ins.length c.ins.length,sl g6 c.procs.length,sl g7 c.procs.length,sl g8 c.procs.length,x9,x10]).length:=by rw [List.length_append,h.wb.k5];simp
 refine zbp (α:=Raw) (lo:=0) (hi:=0) ty3 rfl rfl h.wb.blk hl (zcJ rfl) λw2 hc2 hB2=>?_;have:=h.wb.set 4 (.int .i64 (x:Int));rw [show 5+4=0+9 by omega] at this;rw [this] at hB2;exact k w2 (h.cells hc2 hB2)
theorem FC.store10 {x:Nat} {K:World→Prop} (h:FC W0 w b e c kc m g6 g7 g8 c6 c7 c8 x9 x10) (k:∀ w',FC W0 w' b e c kc m g6 g7 g8 c6 c7 c8 x9 (.int .i64 (x:Int))→K w'):OPU tp (Instr.storeAt 3 (.pointer (some ⟨b,0+10,none⟩)) (.int .i64 (x:Int))) w K:=by
 have hl:10<(kc++[Value.slice (some ⟨m,0,none⟩) c.ins.length c.ins.length,sl g6 c.procs.length,sl g7 c.procs.length,sl g8 c.procs.length,x9,x10]).length:=by rw [List.length_append,h.wb.k5];simp
 refine zbp (α:=Raw) (lo:=0) (hi:=0) ty3 rfl rfl h.wb.blk hl (zcJ rfl) λw2 hc2 hB2=>?_;have:=h.wb.set 5 (.int .i64 (x:Int));rw [show 5+5=0+10 by omega] at this;rw [this] at hB2;exact k w2 (h.cells hc2 hB2)
end
theorem zo9 {w:World} {b:Nat} {c:DCode} (hA:At w b 0 c) (hc:CodeR c) :
   CALL tp 141 [.pointer (some ⟨b,0,none⟩)] w λr w'=>Ext w w'∧r=.int .i64 (ziJ c:Nat):=by
 refine F141_call ?_;unfold F141;refine NIL.mk rfl ?_;refine zaa zcK ?_;refine zaa zdd ?_;refine zab zc0 (zbb hA) (Ext.refl _) λv15 h15=>?_;refine (zgF h15 (Ext.refl _)).mono ?_;rintro _ w2 ⟨hx2,rfl⟩;have:=(zhu hc).1;unfold zgr at this;rw [this];exact ⟨hx2,rfl⟩
structure RM (c:DCode) (r:Nat):Prop where
 lt:r<2^c.procs.length
 self:r.testBit (ziJ c)=true
 snd:∀ q,r.testBit q=true→RootP c q
noncomputable def usR (c:DCode) (r:Nat):Nat:=orL (frs c) (zbL r)
theorem ztq {c:DCode} {q r:Nat} (hq:q<c.procs.length):(za5 (frs c) q).testBit r=true↔r<c.procs.length∧FromP c q r:=by rw [zvp hq,zaY]
theorem zmc {c:DCode} (h8:c.procs.length≤8) {r p:Nat} (h:RM c r):(usR c r).testBit p=true↔∃ q,q<c.procs.length∧r.testBit q=true∧p<c.procs.length∧FromP c q p:=by
 unfold usR;rw [zi7 h.lt (by omega)];exact ⟨λ⟨i,h1,h2,h3⟩=>⟨i,h1,h2,(ztq h1).1 h3⟩,λ⟨i,h1,h2,h3⟩=>⟨i,h1,h2,(ztq h1).2 h3⟩⟩
theorem zvz {c:DCode} (h8:c.procs.length≤8) {r:Nat} (h:RM c r):usR c r<2^c.procs.length:=zo8 λp hp=>by
 obtain ⟨_,_,_,h3,_⟩:=(zmc h8 h).1 hp;exact h3
theorem RM.start {c:DCode} (hc:CodeR c):RM c (2^ziJ c):=⟨Nat.pow_lt_pow_right (by omega) (zhu hc).2,by simp [Nat.testBit_two_pow],λq hq=>by simp [Nat.testBit_two_pow] at hq;exact hq▸.main⟩
theorem RM.more_bit {c:DCode} (h8:c.procs.length≤8) {r q:Nat} (h:RM c r):(orL (cls c 5) (zbL (usR c r))).testBit q=true↔∃ p,p<c.procs.length∧(usR c r).testBit p=true∧q<c.procs.length∧znj c p 5 q:=by
 rw [zi7 (zvz h8 h) (by omega)];exact ⟨λ⟨i,h1,h2,h3⟩=>⟨i,h1,h2,(zmb h1).1 h3⟩,λ⟨i,h1,h2,h3⟩=>⟨i,h1,h2,(zmb h1).2 h3⟩⟩
theorem RM.more {c:DCode} (h8:c.procs.length≤8) {r:Nat} (h:RM c r):RM c (r ||| orL (cls c 5) (zbL (usR c r))):=by
 refine ⟨Nat.or_lt_two_pow h.lt (zo8 λq hq=>by obtain ⟨_,_,_,h3,_⟩:=(h.more_bit h8).1 hq;exact h3),by rw [Nat.testBit_or,h.self];rfl,λq hq=>?_⟩;rw [Nat.testBit_or,Bool.or_eq_true] at hq;rcases hq with hq | hq
 · exact h.snd q hq
 obtain ⟨p,h1,h2,h3,h4⟩:=(h.more_bit h8).1 hq;obtain ⟨s,h5,h6,_,h7⟩:=(zmc h8 h).1 h2;exact .spawn (h.snd s h6) h7 h4 h3
theorem RM.fin {c:DCode} (hc:CodeR c) (h8:c.procs.length≤8) {r:Nat} (h:RM c r) (he:r ||| orL (cls c 5) (zbL (usR c r))=r):r=zhw c∧usR c r=zq6 c:=by
 have hall:∀ q,RootP c q→r.testBit q=true:=λq hq=>by
   induction hq with
   | main=>exact h.self
   | @spawn s p q h0 h1 h2 hq ih=>
     have hs:=h0.lt hc;rw [←he,Nat.testBit_or,(h.more_bit h8).2 ⟨p,h1.lt hs,(zmc h8 h).2 ⟨s,hs,ih,h1.lt hs,h1⟩,hq,h2⟩];simp
 refine ⟨zew λq=>⟨λhq=>⟨(h.snd q hq).lt hc,h.snd q hq⟩,λhq=>hall q hq.2⟩,zew λp=>?_⟩;rw [zmc h8 h];constructor
 · rintro ⟨q,h1,h2,h3,h4⟩
   exact ⟨h3,q,h.snd q h2,h4⟩
 rintro ⟨h3,q,h1,h2⟩;exact ⟨q,h1.lt hc,hall q h1,h3,h2⟩
theorem znL {w W0:World} {b e m g6 g7 g8:Nat} {c:DCode} {kc:List Value} {x9 x10:Value} (H:FC W0 w b e c kc m g6 g7 g8 (cls c 4) (cls c 5) (frs c) x9 x10) (hc:CodeR c) :
   CALL tp 75 [.pointer (some ⟨b,0,none⟩)] w λr w'=>r=.tuple #[]∧FC W0 w' b e c kc m g6 g7 g8 (cls c 4) (cls c 5) (frs c) (.int .i64 (zhw c:Nat)) (.int .i64 (zq6 c:Nat)):=by
 refine F75_call ?_;unfold F75;have h8:=hc.1.procs8;have hml:=(zhu hc).2;refine (zo9 H.wb.code_at hc).mono ?_;rintro _ w1 ⟨hx1,rfl⟩;have H1:=H.step hx1;refine zce (by kernel_rfl) u77 (by omega) ?_;refine zfo (by omega) ?_;have hR:=RM.start hc;have h8':2^c.procs.length≤256:=Nat.pow_le_pow_right (n:=2) (by omega) h8.1;refine LOOPI.mk (λmm us w'=>∃ (s:Nat) (ag:Bool) (y:Value),us=[.int .i64 (s:Int),.bool ag]∧mm=(256-s)+(if ag then 1 else 0)∧FC W0 w' b e c kc m g6 g7 g8 (cls c 4) (cls c 5) (frs c) x9 y∧RM c s∧(ag=false→s=zhw c∧y=.int .i64 (zq6 c:Nat))) (256-2^ziJ c+1) ⟨2^ziJ c,true,x10,rfl,rfl,H1,hR,λe=>by cases e⟩ ?_;rintro mm u2 w2 ⟨s,ag,y,hu,hm,H2,hR2,hend⟩;obtain ⟨hu1,hu2⟩:=zd4 hu;rw [hu1,hu2];have hs256:s<256:=Nat.lt_of_lt_of_le hR2.lt h8';refine zcd (λhag=>?_) (λhag=>?_)
 · rw [hag,if_pos rfl] at hm
   refine NIL.mk rfl ?_;refine zaa zop ?_;refine zas zaK H2.wb.blk (H2.wb.cell 3) ?_;refine (zie H2.m8.is (Ext.refl _) (zxk h8.1) (by rw [zl2];exact h8.1) (m:=s) (by rw [zl2];exact hR2.lt)).mono ?_;rintro _ w3 ⟨hx3,rfl⟩;have H3:=H2.step hx3;have hul:=zvz h8.1 hR2;have hu256:usR c s<256:=Nat.lt_of_lt_of_le hul h8';have hue:orL (frs c) (zbL s)=usR c s:=rfl;rw [hue];refine NIL.mk rfl ?_;refine zaa zr6 ?_;refine H3.store10 λw4 H4=>?_;have hxd:=zai w4;have H5:=H4.step hxd;generalize World.drew1 w4=w5 at *;refine NIL.mk rfl ?_;refine zaa zoo ?_;refine zas zaK H5.wb.blk (H5.wb.cell 2) ?_;refine NIL.mk rfl ?_;refine zaa zr6 ?_;refine zas ty3 H5.wb.blk (H5.wb.cell 5) ?_;refine (zie H5.m7.is (Ext.refl _) (zqg h8.1 5) (by rw [zif];exact h8.1) (m:=usR c s) (by rw [zif];exact hul)).mono ?_;rintro _ w6 ⟨hx6,rfl⟩;have H6:=H5.step hx6;have hor:=zsV (zqg h8.1 5) (zbL (usR c s));have hR6:=hR2.more h8.1;have hfin:=hR2.fin hc h8.1;have hgt:=λh=>zuB (m:=orL (cls c 5) (zbL (usR c s))) (n:=s) h;refine ⟨hx6,?_⟩;refine zhJ (m:=s) (n:=orL (cls c 5) (zbL (usR c s))) (by omega) (by omega) ?_;have hor2:s ||| orL (cls c 5) (zbL (usR c s))<256:=Nat.or_lt_two_pow (n:=8) hs256 hor;generalize s ||| orL (cls c 5) (zbL (usR c s))=t at *;refine zaV ?_;by_cases hts:t=s
   · refine ⟨256-t,by omega,t,_,_,rfl,?_,H6,hR6,λ_=>?_⟩
     · rw [hts];simp
     rw [(hfin hts).2];exact ⟨by rw [hts];exact (hfin hts).1,rfl⟩
   have hd:decide ((t:Int)≠(s:Int))=true:=decide_eq_true λh=>hts (Int.ofNat_inj.1 h);have:=hgt hts;rw [hd];exact ⟨256-t+1,by omega,t,true,_,rfl,rfl,H6,hR6,λe=>by cases e⟩
 obtain ⟨hse,hye⟩:=hend hag;rw [hye] at H2;refine NIL.mk rfl ?_;refine zaa zr5 ?_;refine H2.store9 λw3 H3=>?_;rw [hse] at H3;exact ⟨rfl,H3⟩
theorem FC.wat {W0 w:World} {b e m g6 g7 g8:Nat} {c:DCode} {kc:List Value} (H:FC W0 w b e c kc m g6 g7 g8 (cls c 4) (cls c 5) (frs c) (.int .i64 (zhw c:Nat)) (.int .i64 (zq6 c:Nat))) (h8:c.procs.length≤8):WAt w b c:=by
 have h1:zhw c<256:=zeh h8;have h2:zq6 c<256:=zeh h8;exact ⟨H.wb.wl,zfj H.wb.blk (H.wb.cell 1) H.m6.is,zfj H.wb.blk (H.wb.cell 2) H.m7.is,zfj H.wb.blk (H.wb.cell 3) H.m8.is,zvy H.wb.blk (H.wb.cell 4) (by unfold I64;omega),zvy H.wb.blk (H.wb.cell 5) (by unfold I64;omega)⟩
theorem zre {w W0:World} {v0:Value} {c:DCode} (h0:Is W0 v0 c) (e0:Ext W0 w) :
   CALL tp 36 [v0] w λr w'=>Ext w w'∧((¬CodeR c∧r=.tuple #[.pointer none,.bool false])∨(CodeR c∧∃ b,r=.tuple #[.pointer (some ⟨b,0,none⟩),.bool true]∧WAt w' b c)):=by
 refine F36_call ?_;unfold F36;refine zcb h0 e0 λw1 hx1 hA=>?_;refine zab zcv hA (Ext.refl _) λv7 h7=>?_;refine (zhb h7 (Ext.refl _)).mono ?_;rintro _ w2 ⟨hx2,rfl⟩;refine zav ?_;refine br (λhn=>?_) (λhy=>?_)
 · exact ⟨hx1.t hx2,.inl ⟨hn,rfl⟩⟩
 have hc:CodeR c:=Decidable.not_not.1 hy;have h8:=hc.1.procs8;have hil:=hc.f.ins;have hz0:=(ziC hc h8.2).2.2;have hxd:=zai w2;have hx3:=hx2.t hxd;generalize World.drew1 w2=w3 at *;refine zab zcv hA hx3 λv10 h10=>?_;refine zaa zaR ?_;refine zab zdn (zal hA) hx3 λv12 h12=>?_;refine zae u26 h12 ?_;refine zgh (by omega) (by omega) λw4 hx4 hM4=>?_;have hs4:=hx4.size;have hm4:=hM4.lt _ (List.mem_singleton.2 rfl);generalize hm:w3.heap.size=m at *;have h10':=h10.ext hx3;have hcells:=zk8 h10';obtain ⟨F,kc,hr,hkc⟩:=h10';obtain ⟨a0,a1,a2,a3,a4,n0,n1,n2,n3,n4,k0,k1,k2,k3,k4,hcv⟩:=hcells
 have hkce:kc=[.slice a0 n0 k0,.slice a1 n1 k1,.slice a2 n2 k2,.slice a3 n3 k3,.slice a4 n4 k4]:=by
   rw [hkc] at hcv;have:(Value.agg kc.toArray)=.agg #[.slice a0 n0 k0,.slice a1 n1 k1,.slice a2 n2 k2,.slice a3 n3 k3,.slice a4 n4 k4]:=hcv;simpa using this
 rw [hcv];refine ⟨hx4,?_⟩;refine zaX (cells:=#[.slice a0 n0 k0,.slice a1 n1 k1,.slice a2 n2 k2,.slice a3 n3 k3,.slice a4 n4 k4,sl m c.ins.length,.slice none 0 0,.slice none 0 0,.slice none 0 0,.int .i64 0,.int .i64 0]) (by kernel_rfl) ?_;refine zlK λw5 hx5 hB5=>?_;have hB5':Blk w4.heap.size 101 w5 (kc++[sl m c.ins.length,.slice none 0 0,.slice none 0 0,.slice none 0 0,.int .i64 0,.int .i64 0]):=by rw [hkce];exact hB5
 have hk5:kc.length=5:=Rep.len hr;clear hB5 hcv hkc;have hM5:=hM4.ext hx5;have hx35:Ext w3 w5:=hx4.t hx5;generalize hb:w4.heap.size=b at *;refine zaa za7 ?_;refine zab zaK (zap hA) (hx3.t hx35) λv18 h18=>?_;have h18:=h18.ext hx3;refine zae u25 h18 ?_;have hel:c.entry.length=c.procs.length:=hc.2.1.1;rw [hel];have hrep0:List.replicate c.ins.length false=zdf c.ins.length (λi=>∃ p,p<0∧zct c p i):=zeX _ λi ⟨p,h,_⟩=>by omega
 rw [hrep0] at hM5;have hcell0:∀ {x1 x2 x3 x4 x5:Value},(kc++[sl m c.ins.length,x1,x2,x3,x4,x5])[0+5]?=some (sl m c.ins.length):=by intros;rw [List.getElem?_append_right (by rw [hk5];omega),hk5];rfl
 refine zat c.procs.length (λk us w'=>us=[.int .i64 (k:Int)]∧k≤c.procs.length∧Ext w3 w'∧Blk b 101 w' (kc++[sl m c.ins.length,.slice none 0 0,.slice none 0 0,.slice none 0 0,.int .i64 0,.int .i64 0])∧Mine [m] w' (sl m c.ins.length) (zdf c.ins.length λi=>∃ p,p<k∧zct c p i)) 0 (z0 _) ⟨rfl,z0 _,hx35,hB5',hM5⟩ ?_;rintro k mk u w6 hkm ⟨hu,hkl,hx6,hB6,hM6⟩;try replace hu:=zbG hu
 rw [hu];refine zaf ?_;refine br (λhlt=>?_) (λhge=>?_)
 · have hk:k<c.procs.length:=by omega
   have hke:k<c.entry.length:=by omega
   obtain ⟨he1,he2,he3⟩:=ziI hc hke;refine zad u25 ty3 (i:=k) h18 hke λb5 o5 hA5=>?_;rw [zbr hke,he1] at hA5;refine zac ty3 hA5 hx6 λ_=>?_;refine NIL.mk rfl ?_;refine zaa zom ?_;refine zas zhF hB6 hcell0 ?_;refine zdx (α:=Bool) rfl u85 ty4 he2 ?_;refine zcs (α:=Bool) rfl ty4 hM6 zaD he2 zbP λw7 hc7 hm7=>?_;have hB7:=hB6.chgF hc7 (by simp;omega);have hx7:Ext w3 w7:=hx6.chgF hc7 (by simp [hm])
   have hmk7:∀ i,mkd ((zdf c.ins.length λi=>∃ p,p<k∧zct c p i).set (eN c k) true) i↔(i<c.ins.length∧∃ p,p<k∧zct c p i)∨i=eN c k:=λi=>by
     rw [zcE (by rw [zaD];exact he2),zb6]
   have hl7:((zdf c.ins.length λi=>∃ p,p<k∧zct c p i).set (eN c k) true).length=c.ins.length:=by rw [List.length_set,zaD]
   generalize (zdf c.ins.length λi=>∃ p,p<k∧zct c p i).set (eN c k) true=ms7 at *;refine NIL.mk rfl ?_;refine zaa zom ?_;refine zas zhF hB7 hcell0 ?_;have hK7:KAt w3 w7 b c:=⟨F,kc,hr,zqf hB7,hB7.lt⟩;refine (zsQ hK7 hx7 hc rfl he2 hm7 hl7 (by omega) (by omega) ?_).mono ?_
   · intro i hi hne j hj
     rcases (hmk7 i).1 hi with ⟨h1,p,h2,h3⟩ | h
     · have hil:=zeb hc h1 hj
       exact (hmk7 j).2 (.inl ⟨hil.1,p,h2,zsW h3 hj⟩)
     exact absurd h hne
   rintro _ w8 ⟨rfl,hc8,hM8⟩
   have hset:(zdf c.ins.length λi=>mkd ms7 i∨RP (zaO c) (eN c k) i)=zdf c.ins.length λi=>∃ p,p<k+1∧zct c p i:=zbw λi hi=>by
     rw [hmk7];constructor
     · rintro ((⟨_,p,h2,h3⟩ | h) | h)
       · exact ⟨p,by omega,h3⟩
       · exact ⟨k,by omega,.inl h⟩
       exact ⟨k,by omega,.inr h⟩
     rintro ⟨p,h2,h3⟩;by_cases e:p=k
     · subst e
       rcases h3 with h3 | h3
       · exact .inl (.inr h3)
       exact .inr h3
     exact .inl (.inl ⟨hi,p,by omega,h3⟩)
   rw [hset] at hM8;refine zaB ?_;exact ⟨mk-1,by omega,k+1,by omega,rfl,by omega,hx7.chgI hc8 (by omega),hB7.chgI hc8 (by omega),hM8⟩
 have hke:k=c.procs.length:=by omega
 have hal:(zdf c.ins.length λi=>∃ p,p<k∧zct c p i)=zdf c.ins.length (zjZ c):=by rw [hke];rfl
 rw [hal] at hM6;have HW:WB w3 w6 b 101 c kc m (.slice none 0 0) (.slice none 0 0) (.slice none 0 0) (.int .i64 0) (.int .i64 0):=⟨hx6,hB6,⟨F,hr⟩,hM6,by omega,by omega,by omega⟩;refine (znK HW hc).mono ?_;rintro _ w7 ⟨rfl,g6,g7,g8,H7⟩;refine (znL H7 hc).mono ?_;rintro _ w8 ⟨rfl,H8⟩;exact ⟨hx1.t (hx3.t H8.wb.ext),.inr ⟨hc,b,rfl,H8.wat h8.1⟩⟩
def F40 (a0:Value) (w:World) (R:VW):Prop:=
 cL 66 [a0] w λx11 w=>
 cL 65 [a0,x11] w λx14 w=>
 NIL a0 <|
 rF 101 a0 0 w λx17=>
 rF 28 x17 4 w λx18=>
 rL 26 x18 w λx19=>
 rN 26 3 x19 w λx20=>
 LOOPI [5,21] [(Value.slice none 0 0),(iV 0)] w λu5 w n5=>
 rC (u5 21) x20 w λx22=>
 BR x22
 (rX 26 x19 (u5 21) w λx24=>
 rL 118 x24 w λx25=>
 oP (aL 118) w λx7 w=>
 oS 118 x7 x25 w λw=>
 rF 118 x7 0 w λx26=>
 rL 3 x26 w λx27=>
 rB .neq 3 T0 U0 x27 (iV 6) w λx28=>
 BR x28
 (rI (u5 21) w λx55=>
 n5 [(u5 5),x55] w)
 (rX 85 x11 (u5 21) w λx32=>
 rL 4 x32 w λx33=>
 rT x33 w λx34=>
 BR x34
 (rI (u5 21) w λx55=>
 n5 [(u5 5),x55] w)
 (rX 25 x14 (u5 21) w λx38=>
 rL 3 x38 w λx39=>
 cL 45 [x39] w λx40 w=>
 rN 25 3 x40 w λx41=>
 LOOPI [5,42] [(u5 5),(iV 0)] w λu9 w n9=>
 rC (u9 42) x41 w λx43=>
 BR x43
 (rX 25 x40 (u9 42) w λx44=>
 rL 3 x44 w λx45=>
 rF 118 x7 1 w λx48=>
 rL 3 x48 w λx49=>
 rD (Instr.build 110 #[(0,x45),(1,x49),(2,(u5 21))]) w λx51=>
 oP (bS 70 x51) w λx52 w=>
 oP (aP 70 (u9 5) x52) w λx53 w=>
 rI (u9 42) w λx54=>
 n9 [x53,x54] w)
 (rI (u5 21) w λx55=>
 n5 [(u9 5),x55] w))))
 (cL 81 [(u5 5),(Value.func (.func 82) #[] #[])] w λx57 w=>
 R (u5 5) w)
theorem F40_call {a0 w R} (h:F40 a0 w R):cL 40 [a0] w R:=co (g:=(kf [] [(5,72057594035831520,[5,21]),(9,36024398972453408,[5,42])] [])) Tryz.func40 h
open Rep (rep)
theorem zvA {w:World} {a b d:Int} (ha:I64 a) (hb:I64 b) (hd:I64 d):Is w (.agg #[.int .i64 a,.int .i64 b,.int .i64 d]) (⟨a,b,d⟩:DOrder):=
 ⟨[],_,⟨[],[],[.int .i64 a],_,rfl,rfl,⟨rfl,rfl,ha⟩,⟨[],[],[.int .i64 b],_,rfl,rfl,⟨rfl,rfl,hb⟩,⟨rfl,rfl,hd⟩⟩⟩,rfl⟩
structure OI (wb w:World) (out:Value) (L:List DOrder):Prop where
 ext:Ext wb w
 row:∃ lo hi,wb.heap.size≤lo∧hi≤w.heap.size∧RowI lo hi 110 w out L
theorem OI.step {wb w w':World} {out:Value} {L:List DOrder} (h:OI wb w out L) (hx:Ext w w'):OI wb w' out L:=by
 obtain ⟨lo,hi,h1,h2,hr⟩:=h.row;exact ⟨h.ext.trans hx,lo,hi,h1,Nat.le_trans h2 hx.size,hr.ext hx⟩
theorem OI.own {wb w:World} {out:Value} {L:List DOrder} (h:OI wb w out L):Own wb.heap.size w out L:=by
 obtain ⟨lo,hi,h1,h2,hr⟩:=h.row;exact hr.own.own.mono (by omega)
theorem znM {w W0:World} {b:Nat} {c:DCode} (hW:WAt W0 b c) (e0:Ext W0 w) (hc:CodeR c) :
   CALL tp 40 [.pointer (some ⟨b,0,none⟩)] w λr w'=>Ext w w'∧Own w.heap.size w' r (zec c):=by
 refine F40_call ?_;unfold F40;have hil:=hc.f.ins;have hcode:=hW.wl.code;refine (zxh hW e0 hc).mono ?_;rintro v11 w1 ⟨hx1,ho1⟩;refine (zxj hW (e0.t hx1) ho1.is (Ext.refl _) hc).mono ?_;rintro v14 w2 ⟨hx2,ho2⟩;have hx12:=hx1.t hx2;have hMe:=ho1.is.ext hx2;have hMa:=ho2.is;have hs12:=hx12.size;refine NIL.mk rfl ?_;refine zaa zcK ?_;refine zaa zaR ?_;refine zab zdn (zal hcode) (e0.t hx12) λv19 h19=>?_;refine zae u26 h19 ?_;have hml:(zhG c).length=c.ins.length:=by unfold zhG;rw [zaD]
 have hbl:=zuJ c;have hO0:OI w2 w2 (.slice none 0 0) (zn4 c 0):=⟨Ext.refl _,w2.heap.size,w2.heap.size,lr _,Nat.le_refl _,zcm _ _ _ _⟩;refine zat c.ins.length (λk us w'=>∃ out,us=[out,.int .i64 (k:Int)]∧k≤c.ins.length∧OI w2 w' out (zn4 c k)) 0 (z0 _) ⟨_,rfl,z0 _,hO0⟩ ?_;rintro k mk u w3 hkm ⟨out,hu,hkl,hO3⟩;obtain ⟨hu1,hu2⟩:=zd4 hu;rw [hu1,hu2];have hsuc:zn4 c (k+1)=zn4 c k++zrF c k:=zgl k;have hblk:=hbl k;refine zaf ?_;refine br (λhlt=>?_) (λhge=>?_)
 case refine_2=>
   have hke:k=c.ins.length:=by omega
   rw [hke] at hO3 hblk;obtain ⟨lo,hi,h1,h2,hr⟩:=hO3.row;refine (zuH hr.own (by omega)).mono ?_;rintro _ w4 ⟨hc4,ho4⟩;rw [ztf hc] at ho4;exact ⟨(hx12.t hO3.ext).chgI hc4 (by omega),ho4.own.mono (by omega)⟩
 have hk:k<c.ins.length:=by omega
 refine zad u26 zbm h19 hk λb3 o3 hA3=>?_;rw [zaE] at hA3;refine zab zbm hA3 ((e0.t hx12).trans hO3.ext) λv25 h25=>?_;refine zcX zhM rfl zbm rfl h25 ((e0.t hx12).trans hO3.ext) λw4 hx4 hAI hV4=>?_;have hO4:=hO3.step hx4;have hgl:w3.heap.size<w4.heap.size:=hV4.lt;have hAB4:=zfI h25 hV4 rfl;have hmk:=zbK (ms:=zhG c) (i:=k) (by rw [hml];exact hk)
 have hiff:(zhG c)[k]=true↔MetP c k:=by
   rw [←hmk];unfold zhG;rw [zb6];exact ⟨λh=>h.2,λh=>⟨by omega,h⟩⟩
 refine zaa za6 ?_;refine zac ty3 (zaA hAI) (Ext.refl _) λ_=>?_;refine zaV ?_
 have hno:¬(MetP c k∧(zan c k).op=6)→zn4 c (k+1)=zn4 c k:=λh=>by
   rw [hsuc];unfold zrF;rw [if_neg h,List.append_nil]
 refine br (λhne=>?_) (λheq=>?_)
 · refine zaB ?_
   exact ⟨mk-1,by omega,k+1,by omega,out,rfl,by omega,by rw [hno λh=>hne h.2];exact hO4⟩
 have h6:(zan c k).op=6:=Decidable.not_not.1 heq;refine zad u85 ty4 (i:=k) hMe (by rw [hml];exact hk) λb4 o4 hA4=>?_;refine zby ty4 hA4 hO4.ext ?_;refine za1 ?_;refine zcd (λhf=>?_) (λhf=>?_)
 · have hnm:¬MetP c k:=λh=>by rw [hiff.2 h] at hf;cases hf
   refine zaB ?_;exact ⟨mk-1,by omega,k+1,by omega,out,rfl,by omega,by rw [hno λh=>hnm h.1];exact hO4⟩
 have hMk:MetP c k:=hiff.1 (by simpa using hf);have hag:=(zdz hc hk (.inl h6)).1;have hA:zrF c k=(zbL (za5 (zno c) k)).map (zvv c k):=by unfold zrF;rw [if_pos ⟨hMk,h6⟩]
 rw [hA] at hsuc;refine zad u25 ty3 (i:=k) hMa (by rw [zaj,zi3];exact hk) λb5 o5 hA5=>?_;rw [zcj] at hA5;refine zac ty3 hA5 hO4.ext λ_=>?_;have hm64:=zgP (zsX c) k;generalize hmm:za5 (zno c) k=m at *;refine (zhs (m:=m) (by omega)).mono ?_;rintro v40 w5 ⟨hx5,ho5⟩;have hO5:=hO4.step hx5;have hBl:=zfh m 64;have hbL:(zbL m).length≤64:=hBl;refine zae u25 ho5.is ?_;obtain ⟨Fb,hmb,hFb⟩:=ho5;have hs5:=hx5.size;have hlb:=hmb.lt;refine zat (zbL m).length (λj us w'=>∃ out',us=[out',.int .i64 (j:Int)]∧j≤(zbL m).length∧Ext w2 w'∧w5.heap.size≤w'.heap.size∧Mine Fb w' v40 (zbL m)∧AtB W0 w' w3.heap.size 0 (zan c k)∧∃ lo hi,w2.heap.size≤lo∧hi≤w'.heap.size∧RowI lo hi 110 w' out' (zn4 c k++((zbL m).take j).map (zvv c k))∧(w3.heap.size<lo∨hi≤w3.heap.size)∧∀ b∈Fb,b<lo∨hi≤b) 0 (z0 _) ⟨out,rfl,z0 _,hO5.ext,lr _,hmb,hAB4.ext hx5,?_⟩ ?_
 · obtain ⟨lo,hi,h1,h2,hr⟩:=hO3.row
   refine ⟨lo,hi,h1,by omega,by simpa using (hr.ext (hx4.t hx5)),.inr h2,λb hb=>.inr ?_⟩;have:=hFb b hb;omega
 rintro j mj u6 w6 hjm ⟨out6,hu6,hjl,hx26,hs56,hM6,hAB6,lo,hi,h1,h2,hr6,hd3,hdb⟩;obtain ⟨hu61,hu62⟩:=zd4 hu6;rw [hu61,hu62];refine zaf ?_;refine br (λhlt6=>?_) (λhge6=>?_)
 case refine_2=>refine zaB ?_;refine ⟨mk-1,by omega,k+1,by omega,out6,rfl,by omega,?_⟩;rw [hsuc];rw [List.take_of_length_le (by omega)] at hr6;exact ⟨hx26,lo,hi,h1,h2,hr6⟩
 have hj:j<(zbL m).length:=by omega
 refine zad u25 ty3 (i:=j) hM6.is hj λb6 o6 hA6=>?_;refine zac ty3 hA6 (Ext.refl _) λ_=>?_;have hAI6:=hAB6.at ((e0.t hx12).trans hx26);refine zaa zaZ ?_;refine zac ty3 (zaw hAI6) (Ext.refl _) λ_=>?_;refine zaX (cells:=#[.int .i64 (zbL m)[j],.int .i64 (zan c k).arg,.int .i64 (k:Int)]) (by kernel_rfl) ?_;obtain ⟨l,hl,hbit⟩:=(znB hm64).1 (List.getElem_mem hj);have hl6:=zfU hm64 hbit;have hW:zvv c k (zbL m)[j]=⟨(zbL m)[j],(zan c k).arg,k⟩:=by unfold zvv;rw [hag]
 have hag6:=(zdz hc hk (.inl h6)).2.2
 have hlen:(zn4 c k++((zbL m).take j).map (zvv c k)).length≤200000:=by
   simp only [List.length_append,List.length_map,List.length_take];omega
 refine zfd (x:=(⟨(zbL m)[j],(zan c k).arg,k⟩:DOrder)) u70 zmJ zxT zw0 (by decide) hr6 (lo2:=0) (hi2:=0) (zi4 (zvA (by unfold I64;omega) (by unfold I64;omega) (by unfold I64;omega))) (by rw [zak];omega) (by omega) λv' w' lo' hi' hc7 hr' hd7=>?_;have hs7:=hc7.size;have hs26:=hx26.size;refine zaB ?_;refine ⟨mj-1,by omega,j+1,by omega,v',rfl,by omega,hx26.chgI hc7 h1,by omega,hM6.keep λb hb=>?_,hAB6.keep ?_,lo',hi',by omega,by omega,?_,by omega,λb hb=>?_⟩
 · exact hc7.block b (hM6.lt b hb) (hdb b hb)
 · exact hc7.block _ (by omega) hd3
 · rw [tk hj,List.map_append,←List.append_assoc]
   simp only [List.map_cons,List.map_nil];rw [hW];exact hr'
 have:=hdb b hb;have:=hM6.lt b hb;omega
def F155 (a0:Value) (w:World) (R:VW):Prop:=
 oX 28 a0 w λx1 w=>
 oP (Instr.buildSlice 70 0 #[]) w λx8 w=>
 rL 28 x1 w λx9=>
 cL 172 [x9] w λx10 w=>
 LOOPI [3,5] [x8,(iV 0)] w λu4 w n4=>
 rF 28 x1 1 w λx12=>
 rL 24 x12 w λx13=>
 rN 24 3 x13 w λx14=>
 rC (u4 5) x14 w λx15=>
 BR x15
 (LOOPI [3,6] [(u4 3),(iV 0)] w λu7 w n7=>
 rF 28 x1 1 w λx19=>
 rL 24 x19 w λx20=>
 rN 24 3 x20 w λx21=>
 rC (u7 6) x21 w λx22=>
 BR x22
 (LOOPI [3,7] [(u7 3),(iV 0)] w λu10 w n10=>
 rF 28 x1 4 w λx26=>
 rL 26 x26 w λx27=>
 rN 26 3 x27 w λx28=>
 rC (u10 7) x28 w λx29=>
 BR x29
 (NIL x10 <|
 rF 200 x10 1 w λx34=>
 rL 85 x34 w λx35=>
 rX 85 x35 (u10 7) w λx37=>
 rL 4 x37 w λx38=>
 BR x38
 (rF 28 x1 4 w λx40=>
 rL 26 x40 w λx41=>
 rX 26 x41 (u10 7) w λx43=>
 rF 118 x43 0 w λx44=>
 rL 3 x44 w λx45=>
 rQ x45 (iV 6) w λx46=>
 BR x46
 (rF 28 x1 4 w λx49=>
 rL 26 x49 w λx50=>
 rX 26 x50 (u10 7) w λx52=>
 rF 118 x52 1 w λx53=>
 rL 3 x53 w λx54=>
 rB .eql 3 T0 T0 x54 (u7 6) w λx56=>
 BR x56
 (NIL x10 <|
 rF 200 x10 2 w λx61=>
 rL 25 x61 w λx62=>
 rX 25 x62 (u10 7) w λx64=>
 rL 3 x64 w λx65=>
 cL 223 [x65,(u4 5)] w λx67 w=>
 BR x67
 (rD (Instr.build 110 #[(0,(u4 5)),(1,(u7 6)),(2,(u10 7))]) w λx73=>
 oP (bS 70 x73) w λx74 w=>
 oP (aP 70 (u10 3) x74) w λx75 w=>
 rI (u10 7) w λx31=>
 n10 [x75,x31] w)
 (rI (u10 7) w λx31=>
 n10 [(u10 3),x31] w))
 (rI (u10 7) w λx31=>
 n10 [(u10 3),x31] w))
 (rI (u10 7) w λx31=>
 n10 [(u10 3),x31] w))
 (rI (u10 7) w λx31=>
 n10 [(u10 3),x31] w))
 (rI (u7 6) w λx24=>
 n7 [(u10 3),x24] w))
 (rI (u4 5) w λx17=>
 n4 [(u7 3),x17] w))
 (R (u4 3) w)
theorem F155_call {a0 w R} (h:F155 a0 w R):cL 155 [a0] w R:=co (g:=(kf [] [(4,75557863725914323417320,[3,5]),(7,75557863725914323157192,[3,6]),(10,75557863725914289864840,[3,7])] [])) Tryz.func155 h
open Rep (rep)
theorem ztr {w W0:World} {v0:Value} {c:DCode} (h0:Is W0 v0 c) (e0:Ext W0 w) (hc:CodeR c) :
   CALL tp 155 [v0] w λr w'=>Ext w w'∧Own w.heap.size w' r (zec c):=by
 refine F155_call ?_;unfold F155;have hil:=hc.f.ins;have h6l:=hc.1.locks6;refine zcb h0 e0 λw1 hx1 hA=>?_;refine zaQ (α:=DOrder) u70 zmJ λa8 w2 hx2 hr2=>?_;have hx12:=hx1.t hx2;refine zab zcv hA hx2 λv9 h9=>?_;refine (ztm h9 hx2 hc).mono ?_;rintro _ w3 ⟨hx3,gw,rfl,hmet,hmay⟩;have hx13:=hx12.t hx3;have hx23:=hx2.t hx3;have hs2:=hx12.size;have hml:(zhG c).length=c.ins.length:=by unfold zhG;rw [zaD]
 generalize hwb:w3=wb at *;have hI0:OI wb wb (.slice (some a8) 0 0) ((List.range 0).flatMap (zhx c)):=⟨Ext.refl _,wb.heap.size,wb.heap.size,lr _,Nat.le_refl _,zcw _ _ _ _ _⟩;refine zat c.locks.length (λk us w'=>∃ out,us=[out,.int .i64 (k:Int)]∧k≤c.locks.length∧OI wb w' out ((List.range k).flatMap (zhx c))) 0 (z0 _) ⟨_,rfl,z0 _,hI0⟩ ?_;rintro fr mk u w4 hkm ⟨out,hu,hkl,hO4⟩;obtain ⟨hu1,hu2⟩:=zd4 hu;rw [hu1,hu2];refine zaa zdD ?_;refine zab zc0 (zba hA) (hx23.t hO4.ext) λv13 h13=>?_;refine zae u24 h13 ?_;refine zaf ?_;refine br (λhlt=>?_) (λhge=>?_)
 case refine_2=>
   have hke:fr=c.locks.length:=by omega
   rw [hke] at hO4;exact ⟨hx13.t hO4.ext,hO4.own.mono (by have:=hx13.size;omega)⟩
 have hfr:fr<c.locks.length:=by omega
 refine zat c.locks.length (λk us w'=>∃ out,us=[out,.int .i64 (k:Int)]∧k≤c.locks.length∧OI wb w' out ((List.range fr).flatMap (zhx c)++(List.range k).flatMap (zka c fr))) 0 (z0 _) ⟨_,rfl,z0 _,by simpa using hO4⟩ ?_;rintro to mk7 u7 w7 hkm7 ⟨out7,hu7,hkl7,hO7⟩;obtain ⟨hu71,hu72⟩:=zd4 hu7;rw [hu71,hu72];refine zaa zdD ?_;refine zab zc0 (zba hA) (hx23.t hO7.ext) λv20 h20=>?_;refine zae u24 h20 ?_;refine zaf ?_;refine br (λhlt7=>?_) (λhge7=>?_)
 case refine_2=>
   have hke:to=c.locks.length:=by omega
   rw [hke] at hO7;refine zaB ?_;exact ⟨mk-1,by omega,fr+1,by omega,out7,rfl,by omega,by rw [zgl];exact hO7⟩
 have hto:to<c.locks.length:=by omega
 refine zat c.ins.length (λk us w'=>∃ out,us=[out,.int .i64 (k:Int)]∧k≤c.ins.length∧OI wb w' out ((List.range fr).flatMap (zhx c)++(List.range to).flatMap (zka c fr)++(List.range k).flatMap (zfD c fr to))) 0 (z0 _) ⟨_,rfl,z0 _,by simpa using hO7⟩ ?_;rintro i mk10 u10 w10 hkm10 ⟨out10,hu10,hkl10,hO10⟩;obtain ⟨hu101,hu102⟩:=zd4 hu10;rw [hu101,hu102];have hx210:=hx23.t hO10.ext;refine zaa zaR ?_;refine zab zdn (zal hA) hx210 λv27 h27=>?_;refine zae u26 h27 ?_;refine zaf ?_;refine br (λhlt10=>?_) (λhge10=>?_)
 case refine_2=>
   have hke:i=c.ins.length:=by omega
   rw [hke] at hO10;refine zaB ?_;exact ⟨mk7-1,by omega,to+1,by omega,out10,rfl,by omega,by rw [zgl,←List.append_assoc];exact hO10⟩
 have hi:i<c.ins.length:=by omega
 have hsuc:(List.range fr).flatMap (zhx c)++(List.range to).flatMap (zka c fr)++(List.range (i+1)).flatMap (zfD c fr to)=(List.range fr).flatMap (zhx c)++(List.range to).flatMap (zka c fr)++(List.range i).flatMap (zfD c fr to)++zfD c fr to i:=by
   rw [zgl,←List.append_assoc]
 have hlen:((List.range fr).flatMap (zhx c)++(List.range to).flatMap (zka c fr)++(List.range i).flatMap (zfD c fr to)).length≤100000:=by
   have h1:=znA hil h6l fr;have h2:=znz hil fr to;have h3:=zny c fr to i;simp only [List.length_append];omega
 generalize (List.range fr).flatMap (zhx c)++(List.range to).flatMap (zka c fr)=Lp at *
 have hno:¬OrdP c fr to i→Lp++(List.range (i+1)).flatMap (zfD c fr to)=Lp++(List.range i).flatMap (zfD c fr to):=λh=>by
   rw [hsuc];unfold zfD;rw [if_neg h,List.append_nil]
 have hyes:OrdP c fr to i→Lp++(List.range (i+1)).flatMap (zfD c fr to)=Lp++(List.range i).flatMap (zfD c fr to)++[mkO fr to i]:=λh=>by
   rw [hsuc];congr 1;unfold zfD;rw [if_pos h]
 refine NIL.mk rfl ?_;refine zaa zhN ?_;refine zab zhF hmet hO10.ext λv35 hMe=>?_;have hmk:=zbK (ms:=zhG c) (i:=i) (by rw [hml];exact hi)
 have hiff:(zhG c)[i]=true↔MetP c i:=by
   rw [←hmk];unfold zhG;rw [zb6];exact ⟨λh=>h.2,λh=>⟨by omega,h⟩⟩
 refine zad u85 ty4 (i:=i) hMe (by rw [hml];exact hi) λb4 o4 hA4=>?_;refine zby ty4 hA4 hO10.ext ?_;refine zcd (λht=>?_) (λhf=>?_)
 case refine_2=>
   have hnm:¬MetP c i:=λh=>by rw [hiff.2 h] at hf;cases hf
   refine zaB ?_;exact ⟨mk10-1,by omega,i+1,by omega,out10,rfl,by omega,by rw [hno λh=>hnm h.1];exact hO10⟩
 have hM:=hiff.1 ht;refine zaa zaR ?_;refine zab zdn (zal hA) hx210 λv41 h41=>?_;refine zad u26 zbm h41 hi λb3 o3 hA3=>?_;rw [zaE] at hA3;refine zaa za6 ?_;refine zac ty3 (zaA hA3) hx210 λ_=>?_;refine zag ?_;refine br (λh6=>?_) (λh6=>?_)
 case refine_2=>refine zaB ?_;exact ⟨mk10-1,by omega,i+1,by omega,out10,rfl,by omega,by rw [hno λh=>h6 h.2.1];exact hO10⟩
 obtain ⟨hag,_,hag6⟩:=zdz hc hi (.inl h6);refine zaa zaR ?_;refine zab zdn (zal hA) hx210 λv50 h50=>?_;refine zad u26 zbm h50 hi λb5 o5 hA5=>?_;rw [zaE] at hA5;refine zaa zaZ ?_;refine zac ty3 (zaw hA5) hx210 λ_=>?_;refine zag ?_;refine br (λhto'=>?_) (λhto'=>?_)
 case refine_2=>refine zaB ?_;exact ⟨mk10-1,by omega,i+1,by omega,out10,rfl,by omega,by rw [hno λh=>hto' (by rw [hag,h.2.2.1])];exact hO10⟩
 refine NIL.mk rfl ?_;refine zaa zfq ?_;refine zab zaK hmay hO10.ext λv62 hMa=>?_;refine zad u25 ty3 (i:=i) hMa (by rw [zaj,zi3];exact hi) λb6 o6 hA6=>?_;rw [zcj] at hA6;refine zac ty3 hA6 hO10.ext λ_=>?_;have hm64:=zgP (zsX c) i;refine (zuu (m:=za5 (zno c) i) (i:=fr) (by omega) (by omega)).mono ?_;rintro _ w11 ⟨hx11,rfl⟩
 have hbit:(za5 (zno c) i).testBit fr=true↔MayP c i fr:=by
   rw [zoY hi,zvn];exact ⟨λh=>h.2,λh=>⟨by omega,h⟩⟩
 have hO11:=hO10.step hx11;refine zcd (λhb=>?_) (λhb=>?_)
 case refine_2=>refine zaB ?_;exact ⟨mk10-1,by omega,i+1,by omega,out10,rfl,by omega,by rw [hno λh=>by rw [hbit.2 h.2.2.2] at hb;cases hb];exact hO11⟩
 have hP:OrdP c fr to i:=⟨hM,h6,by omega,hbit.1 hb⟩;refine zaX (cells:=#[.int .i64 fr,.int .i64 to,.int .i64 i]) (by kernel_rfl) ?_;obtain ⟨lo,hi',h1,h2,hr⟩:=hO11.row;refine zfd (x:=(mkO fr to i:DOrder)) u70 zmJ zxT zw0 (by decide) hr (lo2:=0) (hi2:=0) (zi4 (zvA (by unfold I64;omega) (by unfold I64;omega) (by unfold I64;omega))) (by rw [zak];omega) (by omega) λv' w' lo' hi2' hc7 hr' hd7=>?_;have hs7:=hc7.size;have hs11:=hO11.ext.size;refine zaB ?_;refine ⟨mk10-1,by omega,i+1,by omega,v',rfl,by omega,hO11.ext.chgI hc7 h1,lo',hi2',by omega,by omega,?_⟩;rw [hyes hP];exact hr'
end Go.Proofs.YtakjaofncelghaaGreat
namespace Go.Sh
open Rep (rep)
instance:Rep Nat where
 size:=1
 agg:=false
 rep F _ cs x:=F=[]∧cs=[.int .u64 (x:Int)]∧x<18446744073709551616
 pos:=by decide
 sz _:=rfl
 len:=by rintro _ _ _ _ ⟨_,rfl,_⟩;rfl
 one:=by rintro _ _ _ _ ⟨_,rfl,_⟩ v hv;simp at hv;subst hv;rfl
 keep:=by rintro _ _ _ _ _ h _;exact h
 lt:=by rintro _ _ _ _ ⟨rfl,_⟩ b hb;cases hb
instance:Flat Nat:=⟨λh=>h.1⟩
instance:RepZ Nat:=⟨0,[.int .u64 0],λ_=>⟨rfl,rfl,by decide⟩⟩
section
variable {P:Program} {w w0:World} {K:Value→Prop} {t:TypeId} {x y:Operand}
theorem zuM {x:Nat} (h:x<18446744073709551616):Mine [] w (.int .u64 (x:Int)) x:=⟨⟨_,⟨rfl,rfl,h⟩,rfl⟩,List.nodup_nil,Wr.nil w⟩
theorem zqh {t by_ b o:Nat} {x:Nat} (ht:tyI P t=some (1,by_,false)) (h:At w0 b o x) (hx:Ext w0 w) (k:K (.int .u64 (x:Int))):RD P (Instr.loadAt t (.pointer (some ⟨b,o,none⟩))) w K:=
 zab (α:=Nat) ht h hx λv hv=>by
   obtain ⟨F,cs,⟨_,rfl,_⟩,rfl⟩:=hv;exact k
theorem zuN {n:Nat} (h:n<18446744073709551616):IntKind.u64.wrap (n:Int)=(n:Int):=by simp [IntKind.wrap,IntKind.signed,IntKind.bits];omega
theorem zqi {m n:Nat} (hm:m<4611686018427387904) (hn:n<4611686018427387904) (k:K (.int .u64 ((m ||| n:Nat):Int))):RD P (bin .or t x y (.int .u64 (m:Int)) (.int .u64 (n:Int))) w K:=by
 have hlt:m ||| n<2^62:=Nat.or_lt_two_pow hm hn;refine za3 (λw' _=>?_) k
 have e2:((BitVec.ofInt 64 (m:Int)) ||| (BitVec.ofInt 64 (n:Int))).toNat=m ||| n:=by
   simp only [BitVec.toNat_or,BitVec.ofInt_natCast,BitVec.toNat_ofNat];rw [Nat.mod_eq_of_lt (by omega),Nat.mod_eq_of_lt (by omega)]
 show (do eqGuard .or t x y (.int .u64 (m:Int)) (.int .u64 (n:Int));binOp .or t (.int .u64 (m:Int)) (.int .u64 (n:Int)):Sem Value).run P w'=_;simp only [eqGuard,binOp,Op.intBits];show Result.ok (Value.int .u64 (IntKind.u64.wrap (((BitVec.ofInt 64 (m:Int)) ||| (BitVec.ofInt 64 (n:Int))).toNat:Nat))) w'=_;rw [e2,zuN (by omega)]
theorem zik {m n:Nat} (hm:m<4611686018427387904) (hn:n<4611686018427387904) (k:K (.int .u64 ((m &&& n:Nat):Int))):RD P (bin .and t x y (.int .u64 (m:Int)) (.int .u64 (n:Int))) w K:=by
 have hlt:m &&& n≤m:=Nat.and_le_left;refine za3 (λw' _=>?_) k
 have e2:((BitVec.ofInt 64 (m:Int)) &&& (BitVec.ofInt 64 (n:Int))).toNat=m &&& n:=by
   simp only [BitVec.toNat_and,BitVec.ofInt_natCast,BitVec.toNat_ofNat];rw [Nat.mod_eq_of_lt (by omega),Nat.mod_eq_of_lt (by omega)]
 show (do eqGuard .and t x y (.int .u64 (m:Int)) (.int .u64 (n:Int));binOp .and t (.int .u64 (m:Int)) (.int .u64 (n:Int)):Sem Value).run P w'=_;simp only [eqGuard,binOp,Op.intBits];show Result.ok (Value.int .u64 (IntKind.u64.wrap (((BitVec.ofInt 64 (m:Int)) &&& (BitVec.ofInt 64 (n:Int))).toNat:Nat))) w'=_;rw [e2,zuN (by omega)]
theorem zk9 {m n:Nat} (hm:m<4611686018427387904) (hn:n<4611686018427387904) (k:K (.int .u64 ((zlZ m n:Nat):Int))):RD P (bin .andNot t x y (.int .u64 (m:Int)) (.int .u64 (n:Int))) w K:=by
 have hlt:zlZ m n≤m:=zjU m n;refine za3 (λw' _=>?_) k
 have e2:((BitVec.ofInt 64 (m:Int)) &&& ~~~(BitVec.ofInt 64 (n:Int))).toNat=zlZ m n:=by
   apply Nat.eq_of_testBit_eq;intro i;have hm64:m<2^64:=by omega
   have hn64:n<2^64:=by omega
   simp only [BitVec.testBit_toNat,BitVec.getLsbD_and,BitVec.getLsbD_not,BitVec.ofInt_natCast,BitVec.getLsbD_ofNat,zdy];by_cases hi:i<64
   · simp [hi]
   have:m.testBit i=false:=Nat.testBit_lt_two_pow (Nat.lt_of_lt_of_le hm64 (Nat.pow_le_pow_right (by omega) (by omega)));simp [hi,this]
 show (do eqGuard .andNot t x y (.int .u64 (m:Int)) (.int .u64 (n:Int));binOp .andNot t (.int .u64 (m:Int)) (.int .u64 (n:Int)):Sem Value).run P w'=_;simp only [eqGuard,binOp,Op.intBits];show Result.ok (Value.int .u64 (IntKind.u64.wrap (((BitVec.ofInt 64 (m:Int)) &&& ~~~(BitVec.ofInt 64 (n:Int))).toNat:Nat))) w'=_;rw [e2,zuN (by omega)]
theorem zil {m n:Nat} {ku:IntKind} (hm:m<4611686018427387904) (k:K (.int .u64 ((m >>> n:Nat):Int))):RD P (bin .shr t x y (.int .u64 (m:Int)) (.int ku (n:Int))) w K:=by
 refine za3 (λw' _=>?_) k;have e0:¬((n:Int)<0):=by omega
 have e1:(m:Int).fdiv (2^(min n 64))=((m >>> n:Nat):Int):=by
   rw [Nat.shiftRight_eq_div_pow];have h2:((2:Int)^(min n 64))=((2^(min n 64):Nat):Int):=by simp
   rw [h2,Int.fdiv_eq_ediv_of_nonneg _ (Int.natCast_nonneg _),←Int.natCast_ediv];by_cases h:n≤64
   · rw [Nat.min_eq_left h]
   rw [Nat.min_eq_right (by omega),Nat.div_eq_of_lt (by omega),Nat.div_eq_of_lt (Nat.lt_of_lt_of_le (by omega:m<2^64) (Nat.pow_le_pow_right (by omega) (by omega)))]
 show (do eqGuard .shr t x y (.int .u64 (m:Int)) (.int ku (n:Int));binOp .shr t (.int .u64 (m:Int)) (.int ku (n:Int)):Sem Value).run P w'=_;simp only [eqGuard,binOp,Op.shift,e0,if_false,Int.toNat_natCast];show Result.ok (Value.int .u64 ((m:Int).fdiv (2^(min n 64)))) w'=_;rw [e1]
theorem zpa {n:Nat} {ku:IntKind} (hn:n<62) (k:K (.int .u64 ((2^n:Nat):Int))):RD P (bin .shl t x y (.int .u64 1) (.int ku (n:Int))) w K:=by
 refine za3 (λw' _=>?_) k;have hp:(2^n:Nat)<4611686018427387904:=Nat.pow_lt_pow_right (by omega) hn;have e1:IntKind.u64.wrap ((2^n:Nat):Int)=((2^n:Nat):Int):=zuN (by omega);have e0:¬((n:Int)<0):=by omega
 have e2:min n 64=n:=by omega
 show (do eqGuard .shl t x y (.int .u64 1) (.int ku (n:Int));binOp .shl t (.int .u64 1) (.int ku (n:Int)):Sem Value).run P w'=_;simp only [eqGuard,binOp,Op.shift,e0,if_false,Int.toNat_natCast];show Result.ok (Value.int .u64 (IntKind.u64.wrap ((1:Int)*2^(min n 64)))) w'=_;rw [e2,←e1];simp
end
end Go.Sh
namespace Go.Proofs.YtakjaofncelghaaGreat
open Go Go.Sh Go.Proofs
open Rep (rep)
section
variable {nx:Nat→List Nat} {n m i j k t:Nat} {A:List DArc} {p q:Nat→Prop}
theorem zwn:FWy nx (m+1) m j↔FWy nx m m j:=⟨FWy.old',.inl⟩
theorem zmd:zcF p n ||| zcF q n=zcF (λi=>p i∨q i) n:=zew λi=>by
 rw [Nat.testBit_or,Bool.or_eq_true,zaY,zaY];exact ⟨λh=>h.elim (λh=>⟨h.1,.inl h.2⟩) λh=>⟨h.1,.inr h.2⟩,λ⟨h,h'⟩=>h'.elim (λh'=>.inl ⟨h,h'⟩) λh'=>.inr ⟨h,h'⟩⟩
theorem zme (hi:i<n):2^i=zcF (λj=>j=i) n:=zew λj=>by
 rw [Nat.testBit_two_pow,decide_eq_true_eq];exact ⟨λh=>⟨h▸hi,h.symm⟩,λh=>h.2.symm⟩
theorem zts:0=zcF (λ_=>False) n:=zew λj=>by simp
theorem zdX (hn:n≤60):zcF p n<4611686018427387904:=Nat.lt_of_lt_of_le zlY (Nat.le_trans (Nat.pow_le_pow_right (n:=2) (by omega) hn) (by decide))
theorem zwo (hn:n≤60):zcF p n<18446744073709551616:=Nat.lt_trans (zdX hn) (by decide)
noncomputable def zdC (nx:Nat→List Nat) (n m k:Nat):List Nat:=(List.range n).map λi=>zcF (FWy nx (if i<k then m+1 else m) i) n
theorem zcS:(zdC nx n m k).length=n:=by simp [zdC]
theorem zdA (h:i<(zdC nx n m k).length):(zdC nx n m k)[i]=zcF (FWy nx (if i<k then m+1 else m) i) n:=by simp [zdC]
theorem zrf (h:m<(zdC nx n m k).length):(zdC nx n m k)[m]=zcF (FWy nx m m) n:=by
 rw [zdA];refine zbx λj _=>?_;split
 · exact zwn
 exact .rfl
theorem zrg:zdC nx n m n=zdC nx n (m+1) 0:=List.map_congr_left λi hi=>by
 rw [if_pos (List.mem_range.1 hi),if_neg (by omega)]
theorem zrh (x:Nat) (hx:x=zcF (FWy nx (m+1) k) n) (hk:k<n):(zdC nx n m k).set k x=zdC nx n m (k+1):=by
 subst hx;refine List.ext_getElem (by simp [zdC]) λi h1 h2=>?_;rw [List.getElem_set,zdA,zdA];by_cases h:k=i
 · subst h;rw [if_pos rfl,if_pos (by omega)]
 rw [if_neg h];by_cases h3:i<k
 · rw [if_pos h3,if_pos (by omega)]
 rw [if_neg h3,if_neg (by omega)]
theorem zri (h:¬FWy nx m k m):zdC nx n m k=zdC nx n m (k+1):=List.map_congr_left λi hi=>by
 by_cases h3:i<k
 · rw [if_pos h3,if_pos (by omega)]
 rw [if_neg h3];by_cases h4:i<k+1
 · have:i=k:=by omega
   subst this;rw [if_pos h4];exact zbx λj _=>⟨.inl,λh'=>h'.elim id λh'=>absurd h'.1 h⟩
 rw [if_neg h4]
theorem zxP (h:FWy nx m k m):zcF (FWy nx m k) n ||| zcF (FWy nx m m) n=zcF (FWy nx (m+1) k) n:=by
 rw [zmd];exact zbx λj _=>⟨λh'=>h'.elim .inl λh'=>.inr ⟨h,h'⟩,λh'=>h'.elim .inl λh'=>.inr h'.2⟩
noncomputable def zkg (nx:Nat→List Nat) (n:Nat):List Nat:=(List.range n).map λi=>zcF (RP nx i) n
theorem znN:(zkg nx n).length=n:=by simp [zkg]
theorem znO (h:i<(zkg nx n).length):(zkg nx n)[i]=zcF (RP nx i) n:=by simp [zkg]
theorem ztt (hn:∀ i j,j∈nx i→i<n∧j<n):zdC nx n n 0=zkg nx n:=List.map_congr_left λi hi=>by
 rw [if_neg (by omega)];exact zbx λj _=>FWy.iff hn
theorem zwp:nxA n []=λ_=>[]:=by
 funext i;unfold nxA zcr;rw [List.filter_eq_nil_iff];intro j _ h;simp at h
theorem zqj {a:DArc} (hf:a.fr=(i:Int)) (ht:a.to=(k:Int)) (hi:i<n) (hk:k<n) {x y:Nat}:y∈nxA n (A++[a]) x↔y∈nxA n A x∨(x=i∧y=k):=by
 unfold nxA;simp only [zbq,List.mem_append,List.mem_singleton,DArc.ext_iff,hf,ht];constructor
 · rintro ⟨h1,h2,h3 | ⟨h3,h4⟩⟩
   · exact .inl ⟨h1,h2,h3⟩
   exact .inr ⟨Int.ofNat_inj.1 h3,Int.ofNat_inj.1 h4⟩
 rintro (⟨h1,h2,h3⟩ | ⟨rfl,rfl⟩)
 · exact ⟨h1,h2,.inl h3⟩
 exact ⟨hk,hi,.inr ⟨rfl,rfl⟩⟩
theorem ztu:List.replicate n 0=zdC (nxA n []) n 0 0:=by
 refine List.ext_getElem (by simp [zdC]) λi h1 h2=>?_;rw [zdA,List.getElem_replicate];refine zew λj=>?_;rw [if_neg (by omega),zwp];simp [FWy]
theorem zrj {a:DArc} (hf:a.fr=(i:Int)) (ht:a.to=(k:Int)) (hi:i<n) (hk:k<n) (h:i<(zdC (nxA n A) n 0 0).length) :
   (zdC (nxA n A) n 0 0).set i ((zdC (nxA n A) n 0 0)[i] ||| 2^k)=zdC (nxA n (A++[a])) n 0 0:=by
 refine List.ext_getElem (by simp [zdC]) λx h1 h2=>?_;rw [List.getElem_set];simp only [zdA,zme hk,zmd];by_cases hx:i=x
 · subst hx
   rw [if_pos rfl,if_neg (by omega)];refine zbx λj _=>?_;show _↔j∈nxA n (A++[a]) i;rw [zqj hf ht hi hk];exact ⟨λh=>h.elim .inl λh=>.inr ⟨rfl,h⟩,λh=>h.elim .inl λh=>.inr h.2⟩
 rw [if_neg hx,if_neg (by omega)];refine zbx λj _=>?_;show j∈nxA n A x↔j∈nxA n (A++[a]) x;rw [zqj hf ht hi hk];exact ⟨.inl,λh=>h.elim id λh=>absurd h.1.symm hx⟩
end
section
variable {n i j f:Nat} {way:Nat→Nat→Prop} {told:Nat→Prop}
def zky (way:Nat→Nat→Prop) (i j x:Nat):Prop:=x=i∨(x<j∧way i x∧way x i)
theorem zrk (hi:i<n):2^i=zcF (zky way i 0) n:=by
 rw [zme hi];exact zbx λj _=>⟨.inl,λh=>h.elim id λh=>by omega⟩
theorem ztv (hj:j<n) (h1:way i j) (h2:way j i):zcF (zky way i j) n ||| 2^j=zcF (zky way i (j+1)) n:=by
 rw [zme hj,zmd];refine zbx λx _=>?_;unfold zky;constructor
 · rintro ((h | h) | rfl)
   · exact .inl h
   · exact .inr ⟨by omega,h.2⟩
   exact .inr ⟨by omega,h1,h2⟩
 rintro (h | ⟨h3,h4⟩)
 · exact .inl (.inl h)
 rcases Nat.lt_or_eq_of_le (Nat.lt_succ_iff.1 h3) with h5 | h5
 · exact .inl (.inr ⟨h5,h4⟩)
 exact .inr h5
theorem zqk (h:¬(way i j∧way j i)):zcF (zky way i j) n=zcF (zky way i (j+1)) n:=by
 refine zbx λx _=>?_;unfold zky;constructor
 · rintro (h1 | h1)
   · exact .inl h1
   exact .inr ⟨by omega,h1.2⟩
 rintro (h1 | ⟨h3,h4⟩)
 · exact .inl h1
 rcases Nat.lt_or_eq_of_le (Nat.lt_succ_iff.1 h3) with h5 | h5
 · exact .inr ⟨h5,h4⟩
 subst h5;exact absurd h4 h
theorem ztw:zcF (zky way i n) n=zcF (zbV way i) n:=zbx λx hx=>
 ⟨λh=>h.elim .inl λh=>.inr h.2,λh=>h.elim .inl λh=>.inr ⟨hx,h⟩⟩
theorem zuO (hi:i<n) (ht:¬told i):zlZ (zlZ (zcF (way i) n) (zcF (zbV way i) n)) (zcF told n)=0↔OkC n way told i:=by
 constructor
 · intro h
   refine ⟨hi,ht,λj hj hw=>?_⟩;have h1:(zlZ (zlZ (zcF (way i) n) (zcF (zbV way i) n)) (zcF told n)).testBit j=false:=by rw [h];simp
   rw [zdy,zdy] at h1;have h2:(zcF (way i) n).testBit j=true:=zaY.2 ⟨hj,hw⟩;rw [h2] at h1;by_cases h3:(zcF told n).testBit j=true
   · exact .inr (zaY.1 h3).2
   have h4:(zcF (zbV way i) n).testBit j=true:=by
     cases e:(zcF (zbV way i) n).testBit j
     · simp [e,h3] at h1
     rfl
   rcases (zaY.1 h4).2 with rfl | h5
   · exact .inl hw
   exact .inl h5.2
 rintro ⟨_,_,h⟩;refine Nat.eq_of_testBit_eq λj=>?_;rw [zdy,zdy,Nat.zero_testBit];cases e:(zcF (way i) n).testBit j
 · simp
 obtain ⟨hj,hw⟩:=zaY.1 e;rcases h j hj hw with h1 | h1
 · have:(zcF (zbV way i) n).testBit j=true:=zaY.2 ⟨hj,.inr ⟨hw,h1⟩⟩
   simp [this]
 have:(zcF told n).testBit j=true:=zaY.2 ⟨hj,h1⟩;simp [this]
theorem zwq (h:i<n):zcF told n ||| zcF (zbV way i) n=zcF (zgQ way told i) n:=zmd
end
def F79 (a0 a1:Value) (w:World) (R:VW):Prop:=
 oP (Instr.makeSlice 106 a0 a0) w λx11 w=>
 rN 68 3 a1 w λx13=>
 LOOPI [14] [(iV 0)] w λu3 w n3=>
 rC (u3 14) x13 w λx15=>
 BR x15
 (rX 68 a1 (u3 14) w λx16=>
 rL 112 x16 w λx17=>
 oP (aL 112) w λx7 w=>
 oS 112 x7 x17 w λw=>
 (λw=>rF 112 x7 0 w λx19=>
 rL 3 x19 w λx20=>
 rX 106 x11 x20 w λx21=>
 rL 108 x21 w λx22=>
 rF 112 x7 1 w λx23=>
 rL 3 x23 w λx24=>
 rD (convert 3 77 x24) w λx25=>
 rB .shl 108 U0 T0 (Value.int .u64 1) x25 w λx26=>
 rB .or 108 T0 T0 x22 x26 w λx27=>
 rX 106 x11 x20 w λx28=>
 oS 108 x28 x27 w λw=>
 rI (u3 14) w λx29=>
 n3 [x29] w) (World.drew1 w))
 (rN 106 3 x11 w λx31=>
 LOOPI [32] [(iV 0)] w λu8 w n8=>
 rC (u8 32) x31 w λx33=>
 BR x33
 (rN 106 3 x11 w λx36=>
 LOOPI [37] [(iV 0)] w λu11 w n11=>
 rC (u11 37) x36 w λx38=>
 BR x38
 (rX 106 x11 (u11 37) w λx42=>
 rL 108 x42 w λx43=>
 rD (convert 3 77 (u8 32)) w λx45=>
 rB .shr 108 T0 T0 x43 x45 w λx46=>
 rB .and 108 T0 U0 x46 (Value.int .u64 1) w λx47=>
 rB .eql 108 T0 U0 x47 (Value.int .u64 1) w λx48=>
 BR x48
 ((λw=>rX 106 x11 (u11 37) w λx51=>
 rL 108 x51 w λx52=>
 rX 106 x11 (u8 32) w λx55=>
 rL 108 x55 w λx56=>
 rB .or 108 T0 T0 x52 x56 w λx57=>
 rX 106 x11 (u11 37) w λx58=>
 oS 108 x58 x57 w λw=>
 rI (u11 37) w λx59=>
 n11 [x59] w) (World.drew1 w))
 (rI (u11 37) w λx59=>
 n11 [x59] w))
 (rI (u8 32) w λx60=>
 n8 [x60] w))
 (R x11 w))
theorem F79_call {a0 a1 w R} (h:F79 a0 a1 w R):cL 79 [a0,a1] w R:=co (g:=(kf [] [(3,1073725568,[14]),(8,2305843004918727424,[32]),(11,1152921367167894016,[37])] [(5,[0,1,2,3,4,5,6,7,8,9,10,11],0),(14,[0,1,2,3,4,5,6,7,8,9,10],0)])) Tryz.func79 h
open Rep (rep)
theorem zyc:zcu tp 108=some [.int .u64 0]:=by kernel_rfl
structure RU (w0 w:World) (v:Value) (l:List Nat):Prop where
 ext:Ext w0 w
 own:Own w0.heap.size w v l
section
variable {w0 w w':World} {v:Value} {l:List Nat} {i m n:Nat}
theorem RU.step (h:RU w0 w v l) (hx:Ext w w'):RU w0 w' v l:=⟨h.ext.trans hx,h.own.ext hx⟩
theorem RU.get {K:Value→Prop} (h:RU w0 w v l) (hi:i<l.length) (k:K (.int .u64 (l[i]:Int))) :
   RD tp (Instr.indexAt 106 v (.int .i64 (i:Int))) w λa=>RD tp (Instr.loadAt 108 a) w K:=
 zad zwF zoq h.own.is hi λb o hA=>zqh zoq hA (Ext.refl _) k
theorem zmf {w1:World} {K:Value→Prop} (h:Is w1 v l) (hx:Ext w1 w) (hi:i<l.length) (k:K (.int .u64 (l[i]:Int))) :
   RD tp (Instr.indexAt 106 v (.int .i64 (i:Int))) w λa=>RD tp (Instr.loadAt 108 a) w K:=
 zad zwF zoq h hi λb o hA=>zqh zoq hA hx k
theorem RU.set {K:World→Prop} (h:RU w0 w v l) (hi:i<l.length) (hm:m<18446744073709551616) (k:∀ w',RU w0 w' v (l.set i m)→K w') :
   RD tp (Instr.indexAt 106 v (.int .i64 (i:Int))) w λa=>OPU tp (Instr.storeAt 108 a (.int .u64 (m:Int))) w K:=by
 obtain ⟨F,hM,hF⟩:=h.own;refine zfv zwF zoq hM hi λb o G hL=>?_;refine ze9 (upd:=λy=>l.set i y) (y':=m) zoq hL (zuM hm) λw2 F2 hc2 hm2 hF2=>?_;exact k w2 ⟨h.ext.chg_trans hc2 hF,F2,hm2,λb hb=>hF b (hF2 b hb)⟩
theorem zuP {K:Value→World→Prop} (hn:n≤60) (k:∀ v w',RU w w' v (List.replicate n 0)→K v w'):OP tp (Instr.makeSlice 106 (.int .i64 (n:Int)) (.int .i64 (n:Int))) w K:=
 zfw (α:=Nat) zwF zoq rfl rfl zyc (by omega) (by omega) λw2 hx2 hr2=>k _ w2 ⟨hx2,hr2.own.own⟩
end
theorem zrG {m i:Nat}:(((m >>> i &&& 1:Nat):Int)=1)↔m.testBit i=true:=by
 have:=zsR m i;constructor
 · intro h;rw [←this,decide_eq_true_eq];exact h
 intro h;rw [←this,decide_eq_true_eq] at h;exact h
theorem zla {w W1:World} {v1:Value} {n:Nat} {A:List DArc} (h1:Is W1 v1 A) (e1:Ext W1 w) (hn:n≤60) (hA:∀ a∈A,(0≤a.fr∧a.fr<n)∧0≤a.to∧a.to<n) (hl:A.length≤2000) :
   CALL tp 79 [.int .i64 (n:Int),v1] w λr w'=>Ext w w'∧Own w.heap.size w' r (zkg (nxA n A) n):=by
 refine F79_call ?_;unfold F79;refine zuP hn λvr w1 hR1=>?_;refine zae u68 h1 ?_;refine zat A.length (λk us w'=>us=[.int .i64 (k:Int)]∧k≤A.length∧RU w w' vr (zdC (nxA n (A.take k)) n 0 0)) 0 (z0 _) ⟨rfl,z0 _,by rw [List.take_zero,←ztu];exact hR1⟩ ?_;rintro k mk u w2 hkm ⟨hu,hkl,hR2⟩;try replace hu:=zbG hu
 rw [hu];refine zaf ?_;refine br (λhlt=>?_) (λhge=>?_)
 · have hk:k<A.length:=by omega
   refine zad u68 zdU h1 hk λb3 o3 hA3=>?_;refine zab zdU hA3 (e1.trans hR2.ext) λv17 h17=>?_;refine zcX zt6 rfl zdU rfl h17 (e1.trans hR2.ext) λw3 hx3 hAt3 hV3=>?_;have hxd:=zai w3;generalize World.drew1 w3=w4 at *;have hR4:=(hR2.step hx3).step hxd;obtain ⟨⟨hf0,hf1⟩,ht0,ht1⟩:=hA _ (List.getElem_mem hk);obtain ⟨i,hi⟩:∃ i:Nat,A[k].fr=(i:Int):=⟨A[k].fr.toNat,by omega⟩;obtain ⟨j,hj⟩:∃ j:Nat,A[k].to=(j:Int):=⟨A[k].to.toNat,by omega⟩;refine zaa zjk ?_;refine zac ty3 (zfW hAt3) hxd λ_=>?_;rw [hi];refine hR4.get (by rw [zcS];omega) ?_;refine zaa zjl ?_;refine zac ty3 (zfX hAt3) hxd λ_=>?_;rw [hj];refine zce (by kernel_rfl) u77 (by omega) ?_;refine zpa (by omega) ?_;have hj60:2^j<4611686018427387904:=Nat.lt_of_le_of_lt (Nat.pow_le_pow_right (n:=2) (by omega) (show j≤60 by omega)) (by decide);refine zqi (by rw [zdA];exact zdX hn) hj60 ?_;have hb:(zdC (nxA n (A.take k)) n 0 0)[i]'(by rw [zcS];omega) ||| 2^j<2^62:=Nat.or_lt_two_pow (by rw [zdA];exact zdX hn) hj60;refine hR4.set (by rw [zcS];omega) (by omega) λw5 hR5=>?_;rw [zrj hi hj (by omega) (by omega)] at hR5;refine zaB ?_;refine ⟨mk-1,by omega,k+1,by omega,rfl,by omega,?_⟩;rw [tk hk];exact hR5
 have hke:k=A.length:=by omega
 rw [hke,List.take_length] at hR2;refine zae zwF hR2.own.is ?_;rw [zcS];refine zat n (λm us w'=>us=[.int .i64 (m:Int)]∧m≤n∧RU w w' vr (zdC (nxA n A) n m 0)) 0 (z0 _) ⟨rfl,z0 _,hR2⟩ ?_;rintro m mm q3 w3 hmm ⟨hu3,hml,hR3⟩;try replace hu3:=zbG hu3
 rw [hu3];refine zaf ?_;refine br (λhlt3=>?_) (λhge3=>?_)
 case refine_2=>
   have hme:m=n:=by omega
   rw [hme,ztt zvw] at hR3;exact ⟨hR3.ext,hR3.own⟩
 have hm:m<n:=by omega
 refine zae zwF hR3.own.is ?_;rw [zcS];refine zat n (λk us w'=>us=[.int .i64 (k:Int)]∧k≤n∧RU w w' vr (zdC (nxA n A) n m k)) 0 (z0 _) ⟨rfl,z0 _,hR3⟩ ?_;rintro i mi q4 w4 hmi ⟨hu4,hil,hR4⟩;try replace hu4:=zbG hu4
 rw [hu4];refine zaf ?_;refine br (λhlt4=>?_) (λhge4=>?_)
 case refine_2=>
   have hie:i=n:=by omega
   rw [hie,zrg] at hR4;refine zaB ?_;exact ⟨mm-1,by omega,m+1,by omega,rfl,by omega,hR4⟩
 have hi:i<n:=by omega
 refine hR4.get (by rw [zcS];omega) ?_;refine zce (by kernel_rfl) u77 (by omega) ?_;refine zil (by rw [zdA];exact zdX hn) ?_;have h62:zcF (FWy (nxA n A) m i) n<4611686018427387904:=zdX hn;have hgi:(zdC (nxA n A) n m i)[i]'(by rw [zcS];omega)=zcF (FWy (nxA n A) m i) n:=by rw [zdA,if_neg (by omega)]
 have hgm:(zdC (nxA n A) n m i)[m]'(by rw [zcS];omega)=zcF (FWy (nxA n A) m m) n:=zrf _;refine zik (n:=1) (Nat.lt_of_le_of_lt (by rw [Nat.shiftRight_eq_div_pow];exact Nat.div_le_self _ _) (show _<_ by rw [hgi];exact h62)) (by omega) ?_;refine zag ?_;refine br (λhb=>?_) (λhb=>?_)
 · have hFW:FWy (nxA n A) m i m:=by
     rw [zrG,hgi,zaY] at hb;exact hb.2
   have hxd:=zai w4;generalize World.drew1 w4=w5 at *;have hR5:=hR4.step hxd;refine hR5.get (by rw [zcS];omega) ?_;refine hR5.get (by rw [zcS];omega) ?_;refine zqi (by rw [hgi];exact h62) (by rw [hgm];exact zdX hn) ?_;rw [hgi,hgm,zxP hFW];refine hR5.set (by rw [zcS];omega) (zwo hn) λw6 hR6=>?_;rw [zrh _ rfl hi] at hR6;refine zaB ?_;exact ⟨mi-1,by omega,i+1,by omega,rfl,by omega,hR6⟩
 have hFW:¬FWy (nxA n A) m i m:=λh=>hb (by rw [zrG,hgi,zaY];exact ⟨hm,h⟩);rw [zri hFW] at hR4;refine zaB ?_;exact ⟨mi-1,by omega,i+1,by omega,rfl,by omega,hR4⟩
def F38 (a0 a1:Value) (w:World) (R:VW):Prop:=
 cL 79 [a0,a1] w λx16 w=>
 LOOPI [6,7] [(Value.slice none 0 0),(Value.int .u64 0)] w λu4 w n4=>
 JOIN [8,9] (λJ19=>
 LOOPI [8,9,10] [(iV (-1)),(Value.int .u64 0),(iV 0)] w λu7 w n7=>
 rC (u7 10) a0 w λx19=>
 BR x19
 (rB .lss 3 T0 U0 (u7 8) (iV 0) w λx22=>
 BR x22
 (rD (convert 3 77 (u7 10)) w λx28=>
 rB .shr 108 T0 T0 (u4 7) x28 w λx29=>
 rB .and 108 T0 U0 x29 (Value.int .u64 1) w λx30=>
 rB .eql 108 T0 U0 x30 (Value.int .u64 1) w λx31=>
 BR x31
 (rI (u7 10) w λx25=>
 n7 [(u7 8),(u7 9),x25] w)
 (rD (convert 3 77 (u7 10)) w λx33=>
 rB .shl 108 U0 T0 (Value.int .u64 1) x33 w λx34=>
 LOOPI [9,36] [x34,(iV 0)] w λu12 w n12=>
 rC (u12 36) a0 w λx37=>
 BR x37
 (rX 106 x16 (u7 10) w λx41=>
 rL 108 x41 w λx42=>
 rD (convert 3 77 (u12 36)) w λx44=>
 rB .shr 108 T0 T0 x42 x44 w λx45=>
 rB .and 108 T0 U0 x45 (Value.int .u64 1) w λx46=>
 rB .eql 108 T0 U0 x46 (Value.int .u64 1) w λx47=>
 BR x47
 (rX 106 x16 (u12 36) w λx51=>
 rL 108 x51 w λx52=>
 rD (convert 3 77 (u7 10)) w λx54=>
 rB .shr 108 T0 T0 x52 x54 w λx55=>
 rB .and 108 T0 U0 x55 (Value.int .u64 1) w λx56=>
 rB .eql 108 T0 U0 x56 (Value.int .u64 1) w λx57=>
 BR x57
 (rD (convert 3 77 (u12 36)) w λx61=>
 rB .shl 108 U0 T0 (Value.int .u64 1) x61 w λx62=>
 rB .or 108 T0 T0 (u12 9) x62 w λx63=>
 rI (u12 36) w λx64=>
 n12 [x63,x64] w)
 (rI (u12 36) w λx64=>
 n12 [(u12 9),x64] w))
 (rI (u12 36) w λx64=>
 n12 [(u12 9),x64] w))
 (rX 106 x16 (u7 10) w λx67=>
 rL 108 x67 w λx68=>
 rB .andNot 108 T0 T0 x68 (u12 9) w λx70=>
 rB .andNot 108 T0 T0 x70 (u4 7) w λx72=>
 rB .eql 108 T0 U0 x72 (Value.int .u64 0) w λx73=>
 BR x73
 (rI (u7 10) w λx25=>
 n7 [(u7 10),(u12 9),x25] w)
 (rI (u7 10) w λx25=>
 n7 [(u7 8),(u12 9),x25] w))))
 (J19 [(u7 8),(u7 9)] w))
 (J19 [(u7 8),(u7 9)] w)) (λu19 w=>
 rB .lss 3 T0 U0 (u19 8) (iV 0) w λx76=>
 BR x76
 (R (u4 6) w)
 (LOOPI [12,79] [(Value.slice none 0 0),(iV 0)] w λu23 w n23=>
 rC (u23 79) a0 w λx80=>
 BR x80
 (rD (convert 3 77 (u23 79)) w λx84=>
 rB .shr 108 T0 T0 (u19 9) x84 w λx85=>
 rB .and 108 T0 U0 x85 (Value.int .u64 1) w λx86=>
 rB .eql 108 T0 U0 x86 (Value.int .u64 1) w λx87=>
 BR x87
 (oP (bS 25 (u23 79)) w λx90 w=>
 oP (aP 25 (u23 12) x90) w λx91 w=>
 rI (u23 79) w λx92=>
 n23 [x91,x92] w)
 (rI (u23 79) w λx92=>
 n23 [(u23 12),x92] w))
 (oP (bS 33 (u23 12)) w λx95 w=>
 oP (aP 33 (u4 6) x95) w λx96 w=>
 rB .or 108 T0 T0 (u4 7) (u19 9) w λx99=>
 n4 [x96,x99] w)))
theorem F38_call {a0 a1 w R} (h:F38 a0 a1 w R):cL 38 [a0,a1] w R:=co (g:=(kf [(19,37778931862957161582336,[8,9])] [(4,1267650600228229401496703090640,[6,7]),(7,37778931862957161582336,[8,9,10]),(12,36893488078699629056,[9,36]),(23,9902915851373234884605652992,[12,79])] [])) Tryz.func38 h
open Rep (rep)
theorem znP (m i:Nat):m >>> i≤m:=by rw [Nat.shiftRight_eq_div_pow];exact Nat.div_le_self _ _
theorem zkh {w W1:World} {v1:Value} {n:Nat} {A:List DArc} (h1:Is W1 v1 A) (e1:Ext W1 w) (hn:n≤60) (hA:∀ a∈A,(0≤a.fr∧a.fr<n)∧0≤a.to∧a.to<n) (hl:A.length≤2000) :
   CALL tp 38 [.int .i64 (n:Int),v1] w λr w'=>Ext w w'∧Own w.heap.size w' r ((znD n (RP (nxA n A))).map za9):=by
 refine F38_call ?_;unfold F38;refine (zla h1 e1 hn hA hl).mono ?_;rintro v16 w1 ⟨hx1,ho1⟩;have hWay:=ho1.is;have hWl:(zkg (nxA n A) n).length=n:=znN;have hWg:∀ i (h:i<(zkg (nxA n A) n).length),(zkg (nxA n A) n)[i]=zcF (RP (nxA n A) i) n:=λi h=>znO h;generalize zkg (nxA n A) n=ws at *;generalize RP (nxA n A)=way at *;have hs1:=hx1.size;refine zat n (λk us w'=>∃ out f told L,us=[out,.int .u64 ((zcF told n:Nat):Int)]∧f+k=n∧zdB n told≤f∧znD n way=L++zdE n way f told∧L.length=k∧Ext w1 w'∧∃ lo hi,w1.heap.size≤lo∧lo≤w'.heap.size∧hi≤w'.heap.size∧RowI lo hi 25 w' out (L.map za9)) 0 (z0 _) ⟨_,n,λ_=>False,[],by rw [←zts];rfl,rfl,zi6,rfl,rfl,Ext.refl _,w1.heap.size,w1.heap.size,lr _,Nat.le_refl _,lr _,zcm _ _ _ _⟩ ?_;rintro k mk u w2 hkm ⟨out,f,told,L,hu,hfk,hlf,hcL,hLl,hx2,lo,hi,hlo,hlo2,hhi,hr2⟩;obtain ⟨hu1,hu2⟩:=zd4 hu;rw [hu1,hu2];have hD62:zcF told n<4611686018427387904:=zdX hn;refine JOIN.mk (λus w'=>w'=w2∧((zfA n way told=none∧∃ p,us=[.int .i64 (-1),.int .u64 p])∨∃ i:Nat,zfA n way told=some i∧us=[.int .i64 (i:Int),.int .u64 ((zcF (zbV way i) n:Nat):Int)])) ?_ ?_
 · refine zat n (λi us w'=>w'=w2∧i≤n∧∃ fd p,us=[.int .i64 fd,.int .u64 p,.int .i64 (i:Int)]∧((fd=-1∧∀ j,j<i→¬OkC n way told j)∨∃ i0:Nat,fd=(i0:Int)∧OkC n way told i0∧(∀ j,j<i0→¬OkC n way told j)∧p=((zcF (zbV way i0) n:Nat):Int))) 0 (z0 _) ⟨rfl,z0 _,-1,0,rfl,.inl ⟨rfl,λj hj=>by omega⟩⟩ ?_
   rintro i mi q7 w3 hmi ⟨rfl,hil,fd,p,hu7,hcase⟩;obtain ⟨hu71,hu72,hu73⟩:=zxw hu7;rw [hu71,hu72,hu73];refine zaf ?_;refine br (λhlt=>?_) (λhge=>?_)
   case refine_2=>
     have hie:i=n:=by omega
     refine ⟨rfl,?_⟩;rcases hcase with ⟨rfl,hno⟩ | ⟨i0,rfl,hok,hmin,rfl⟩
     · exact .inl ⟨zgm.2 λj hj=>hno j (by have:=hj.1;omega) hj,_,rfl⟩
     exact .inr ⟨i0,zii hok hmin,rfl⟩
   have hi':i<n:=by omega
   refine zaf ?_;refine br (λhfd=>?_) (λhfd=>?_)
   case refine_2=>
     refine ⟨rfl,?_⟩;rcases hcase with ⟨rfl,hno⟩ | ⟨i0,rfl,hok,hmin,rfl⟩
     · exact absurd (by decide) hfd
     exact .inr ⟨i0,zii hok hmin,rfl⟩
   have hno:fd=-1∧∀ j,j<i→¬OkC n way told j:=by
     rcases hcase with h | ⟨i0,rfl,_⟩
     · exact h
     omega
   obtain ⟨rfl,hno⟩:=hno;refine zce (by kernel_rfl) u77 (by omega) ?_;refine zil hD62 ?_;refine zik (n:=1) (Nat.lt_of_le_of_lt (znP _ _) hD62) (by omega) ?_;refine zag ?_;refine br (λhb=>?_) (λhb=>?_)
   · rw [zrG,zaY] at hb
     refine zaB ?_;refine ⟨mi-1,by omega,i+1,by omega,rfl,by omega,-1,p,rfl,.inl ⟨rfl,λj hj=>?_⟩⟩;rcases Nat.lt_or_eq_of_le (Nat.lt_succ_iff.1 hj) with h | rfl
     · exact hno j h
     exact λh=>h.2.1 hb.2
   have htd:¬told i:=λh=>hb (by rw [zrG,zaY];exact ⟨hi',h⟩);refine zce (by kernel_rfl) u77 (by omega) ?_;refine zpa (by omega) ?_;rw [zrk (way:=way) hi'];refine zat n (λj us w'=>w'=w3∧j≤n∧us=[.int .u64 ((zcF (zky way i j) n:Nat):Int),.int .i64 (j:Int)]) 0 (z0 _) ⟨rfl,z0 _,rfl⟩ ?_;rintro j mj q12 w4 hmj ⟨rfl,hjl,hu12⟩;obtain ⟨hu121,hu122⟩:=zd4 hu12;rw [hu121,hu122];have hP62:∀ j,zcF (zky way i j) n<4611686018427387904:=λj=>zdX hn;have hW62:∀ j,zcF (way j) n<4611686018427387904:=λj=>zdX hn;refine zaf ?_;refine br (λhlt2=>?_) (λhge2=>?_)
   · have hj:j<n:=by omega
     refine zmf (i:=i) hWay hx2 (by omega) ?_;rw [hWg];refine zce (by kernel_rfl) u77 (by omega) ?_;refine zil (hW62 _) ?_;refine zik (n:=1) (Nat.lt_of_le_of_lt (znP _ _) (hW62 _)) (by omega) ?_;refine zag ?_;refine br (λhb1=>?_) (λhb1=>?_)
     · rw [zrG,zaY] at hb1
       refine zmf (i:=j) hWay hx2 (by omega) ?_;rw [hWg];refine zce (by kernel_rfl) u77 (by omega) ?_;refine zil (hW62 _) ?_;refine zik (n:=1) (Nat.lt_of_le_of_lt (znP _ _) (hW62 _)) (by omega) ?_;refine zag ?_;refine br (λhb2=>?_) (λhb2=>?_)
       · rw [zrG,zaY] at hb2
         refine zce (by kernel_rfl) u77 (by omega) ?_;refine zpa (by omega) ?_;refine zqi (hP62 _) (Nat.lt_of_le_of_lt (Nat.pow_le_pow_right (n:=2) (by omega) (show j≤60 by omega)) (by decide)) ?_;rw [ztv hj hb1.2 hb2.2];refine zaB ?_;exact ⟨mj-1,by omega,j+1,by omega,rfl,by omega,rfl⟩
       rw [zqk (n:=n) (j:=j) λh=>hb2 (by rw [zrG,zaY];exact ⟨hi',h.2⟩)];refine zaB ?_;exact ⟨mj-1,by omega,j+1,by omega,rfl,by omega,rfl⟩
     rw [zqk (n:=n) (j:=j) λh=>hb1 (by rw [zrG,zaY];exact ⟨hj,h.1⟩)];refine zaB ?_;exact ⟨mj-1,by omega,j+1,by omega,rfl,by omega,rfl⟩
   have hje:j=n:=by omega
   rw [hje,ztw];refine zmf (i:=i) hWay hx2 (by omega) ?_;rw [hWg];refine zk9 (hW62 _) (zdX hn) ?_;refine zk9 (Nat.lt_of_le_of_lt (zjU _ _) (hW62 _)) hD62 ?_;refine zag ?_;have hokb:=zuO (way:=way) hi' htd;refine br (λhb=>?_) (λhb=>?_)
   · have hok:OkC n way told i:=hokb.1 (by omega)
     refine zaB ?_;exact ⟨mi-1,by omega,i+1,by omega,rfl,by omega,_,_,rfl,.inr ⟨i,rfl,hok,hno,rfl⟩⟩
   have hok:¬OkC n way told i:=λh=>hb (by rw [hokb.2 h];rfl);refine zaB ?_;refine ⟨mi-1,by omega,i+1,by omega,rfl,by omega,-1,_,rfl,.inl ⟨rfl,λj hj=>?_⟩⟩;rcases Nat.lt_or_eq_of_le (Nat.lt_succ_iff.1 hj) with h | rfl
   · exact hno j h
   exact hok
 rintro q19 w3 ⟨rfl,hJ⟩;rcases hJ with ⟨hnx,p,hu19⟩ | ⟨i,hnx,hu19⟩
 · obtain ⟨hu191,hu192⟩:=zd4 hu19;clear hu19
   rw [hu191];refine zaf ?_;refine br (λ_=>?_) (λh=>absurd (by decide) h);rw [zgR hnx,List.append_nil] at hcL;rw [hcL];exact ⟨hx1.t hx2,hr2.own.own.mono (by omega)⟩
 obtain ⟨hu191,hu192⟩:=zd4 hu19;rw [hu191,hu192];refine zaf ?_;refine br (λh=>by omega) (λ_=>?_);have hok:=zgn hnx;obtain ⟨f',hcf,hlf',hff⟩:=zgS hlf hnx;refine zat n (λj us w'=>∃ lv,us=[lv,.int .i64 (j:Int)]∧j≤n∧Ext w3 w'∧RowI w3.heap.size w'.heap.size 3 w' lv (za9 (zcr j (zbV way i)))) 0 (z0 _) ⟨_,rfl,z0 _,Ext.refl _,zcm _ _ _ _⟩ ?_;rintro j mj q23 w4 hmj ⟨lv,hu23,hjl,hx4,hr4⟩;obtain ⟨hu231,hu232⟩:=zd4 hu23;rw [hu231,hu232];have hs4:=hx4.size;have hP62:zcF (zbV way i) n<4611686018427387904:=zdX hn;have hsl:(zcr j (zbV way i)).length≤j:=zc6;refine zaf ?_;refine br (λhlt=>?_) (λhge=>?_)
 · have hj:j<n:=by omega
   refine zce (by kernel_rfl) u77 (by omega) ?_;refine zil hP62 ?_;refine zik (n:=1) (Nat.lt_of_le_of_lt (znP _ _) hP62) (by omega) ?_;refine zag ?_;refine br (λhb=>?_) (λhb=>?_)
   · rw [zrG,zaY] at hb
     refine zcn (lo2:=w4.heap.size) (hi2:=w4.heap.size) (x:=(j:Int)) u25 ty3 z3 zc3 (by decide) hr4 hs4 (ownI_int (by unfold I64;omega)) (lr _) hs4 (by rw [zak,zaj];omega) (by rw [zaj];omega) λv54 w9 hc9 hr9=>?_;refine zaB ?_;refine ⟨mj-1,by omega,j+1,by omega,v54,rfl,by omega,hx4.chgI hc9 (lr _),?_⟩;rw [zea hb.2,zcR];exact hr9
   refine zaB ?_;refine ⟨mj-1,by omega,j+1,by omega,lv,rfl,by omega,hx4,?_⟩;rw [zeW λh=>hb (by rw [zrG,zaY];exact ⟨hj,h⟩)];exact hr4
 have hje:j=n:=by omega
 rw [hje] at hr4;refine zcn (lo2:=w3.heap.size) (hi2:=w4.heap.size) (x:=za9 (zcr n (zbV way i))) u33 zaK z25 zt5 (by decide) (hr2.ext hx4) (by omega) hr4.own hhi (by omega) (by rw [zak,List.length_map];omega) (by rw [List.length_map];omega) λv54 w9 hc9 hr9=>?_;refine zqi hD62 hP62 ?_;rw [zwq (n:=n) hok.1];have hs9:=hc9.size;refine ⟨mk-1,by omega,k+1,by omega,v54,f',zgQ way told i,L++[zcr n (zbV way i)],rfl,by omega,hlf',by rw [hcL,hcf,List.append_assoc];rfl,by simp [hLl],(hx2.t hx4).chgI hc9 hlo,lo,w9.heap.size,hlo,by omega,lr _,?_⟩;rw [List.map_append];exact hr9
section
variable {nx:Nat→List Nat} {n m i j k t:Nat} {A:List DArc} {p q:Nat→Prop}
noncomputable def zck (nx:Nat→List Nat) (n m k j:Nat):List (List Bool):=(List.range n).map λi=>zdf n λx=>FWy nx (if i<k∨(i=k∧x<j) then m+1 else m) i x
theorem znQ:(zck nx n m k j).length=n:=by simp [zck]
theorem zcl (h:i<(zck nx n m k j).length):(zck nx n m k j)[i]=zdf n λx=>FWy nx (if i<k∨(i=k∧x<j) then m+1 else m) i x:=by simp [zck]
theorem zql (h:i<(zck nx n m k j).length) {x:Nat} (hx:x<((zck nx n m k j)[i]).length):((zck nx n m k j)[i])[x]=true↔FWy nx (if i<k∨(i=k∧x<j) then m+1 else m) i x:=by
 rw [←zbK hx,zcl,zb6];rw [zcl,zaD] at hx;exact ⟨λh=>h.2,λh=>⟨hx,h⟩⟩
theorem zmg:FWy nx 0 i j↔j∈nx i:=.rfl
theorem zuQ:FWy nx (m+1) k m↔FWy nx m k m:=⟨FWy.old,.inl⟩
theorem zuR:FWy nx (m+1) m j↔FWy nx m m j:=⟨FWy.old',.inl⟩
theorem ztx:zck nx n m k n=zck nx n m (k+1) 0:=List.map_congr_left λi _=>zbw λx hx=>by
 have:(i<k∨(i=k∧x<n))↔(i<k+1∨(i=k+1∧x<0)):=by omega
 simp only [this]
theorem zrl:zck nx n m n 0=zck nx n (m+1) 0 0:=List.map_congr_left λi hi=>zbw λx hx=>by
 have hi:=List.mem_range.1 hi;rw [if_pos (.inl hi),if_neg (by omega)]
theorem zrm (h:¬FWy nx m k m):zck nx n m k 0=zck nx n m (k+1) 0:=List.map_congr_left λi hi=>zbw λx hx=>by
 by_cases h3:i<k
 · rw [if_pos (.inl h3),if_pos (by omega)]
 rw [if_neg (by omega)];by_cases h4:i=k
 · subst h4
   rw [if_pos (by omega)];exact ⟨.inl,λh'=>h'.elim id λh'=>absurd h'.1 h⟩
 rw [if_neg (by omega)]
theorem zuS (h:¬FWy nx m m j):zck nx n m k j=zck nx n m k (j+1):=List.map_congr_left λi hi=>zbw λx hx=>by
 by_cases h1:i<k∨(i=k∧x<j)
 · rw [if_pos h1,if_pos (by omega)]
 rw [if_neg h1];by_cases h2:i=k∧x=j
 · obtain ⟨rfl,rfl⟩:=h2
   rw [if_pos (by omega)];exact ⟨.inl,λh'=>h'.elim id λh'=>absurd h'.2 h⟩
 rw [if_neg (by omega)]
theorem zmh {p:Nat→Prop} (hj:j<n):(zdf n p).set j true=zdf n λx=>p x∨x=j:=by
 refine zci (by rw [List.length_set,zaD]) λi hi=>?_;rw [zcE (by rw [zaD];exact hj),zb6];exact ⟨λh=>h.elim (λh=>.inl h.2) .inr,λh=>h.elim (λh=>.inl ⟨hi,h⟩) .inr⟩
theorem zty (hk:k<n) (hj:j<n) (h1:FWy nx m k m) (h2:FWy nx m m j) (h:k<(zck nx n m k j).length) :
   (zck nx n m k j).set k ((zck nx n m k j)[k].set j true)=zck nx n m k (j+1):=by
 refine List.ext_getElem (by simp [zck]) λi h3 h4=>?_;rw [List.getElem_set];by_cases hi:k=i
 · subst hi
   rw [if_pos rfl,zcl,zcl,zmh hj];refine zbw λx hx=>?_;by_cases hxj:x=j
   · subst hxj
     have e1:(if k<k∨(k=k∧x<x+1) then m+1 else m)=m+1:=if_pos (.inr ⟨rfl,by omega⟩);rw [e1];exact ⟨λ_=>.inr ⟨h1,h2⟩,λ_=>.inr rfl⟩
   by_cases hl:x<j
   · rw [if_pos (.inr ⟨rfl,hl⟩),if_pos (.inr ⟨rfl,by omega⟩)]
     exact ⟨λh=>h.elim id λh=>absurd h hxj,.inl⟩
   rw [if_neg (by omega),if_neg (by omega)];exact ⟨λh=>h.elim id λh=>absurd h hxj,.inl⟩
 rw [if_neg hi,zcl,zcl];refine zbw λx hx=>?_;by_cases h5:i<k∨(i=k∧x<j)
 · rw [if_pos h5,if_pos (by omega)]
 rw [if_neg h5,if_neg (by omega)]
noncomputable def zfB (nx:Nat→List Nat) (n:Nat):List (List Bool):=(List.range n).map λi=>zdf n (RP nx i)
theorem znR:(zfB nx n).length=n:=by simp [zfB]
theorem zhA (h:i<(zfB nx n).length):(zfB nx n)[i]=zdf n (RP nx i):=by simp [zfB]
theorem zqm (h:i<(zfB nx n).length) {x:Nat} (hx:x<((zfB nx n)[i]).length):((zfB nx n)[i])[x]=true↔RP nx i x:=by
 rw [←zbK hx,zhA,zb6];rw [zhA,zaD] at hx;exact ⟨λh=>h.2,λh=>⟨hx,h⟩⟩
theorem ztz (hn:∀ i j,j∈nx i→i<n∧j<n):zck nx n n 0 0=zfB nx n:=List.map_congr_left λi hi=>zbw λx hx=>by
 rw [if_neg (by omega)];exact FWy.iff hn
theorem zuT:nxA n []=λ_=>[]:=by
 funext i;unfold nxA zcr;rw [List.filter_eq_nil_iff];intro j _ h;simp at h
theorem znS {a:DArc} (hf:a.fr=(i:Int)) (ht:a.to=(k:Int)) (hi:i<n) (hk:k<n) {x y:Nat}:y∈nxA n (A++[a]) x↔y∈nxA n A x∨(x=i∧y=k):=by
 unfold nxA;simp only [zbq,List.mem_append,List.mem_singleton,DArc.ext_iff,hf,ht];constructor
 · rintro ⟨h1,h2,h3 | ⟨h3,h4⟩⟩
   · exact .inl ⟨h1,h2,h3⟩
   exact .inr ⟨Int.ofNat_inj.1 h3,Int.ofNat_inj.1 h4⟩
 rintro (⟨h1,h2,h3⟩ | ⟨rfl,rfl⟩)
 · exact ⟨h1,h2,.inl h3⟩
 exact ⟨hk,hi,.inr ⟨rfl,rfl⟩⟩
theorem zrn:List.replicate n (List.replicate n false)=zck (nxA n []) n 0 0 0:=by
 refine List.ext_getElem (by simp [zck]) λi h1 h2=>?_;rw [zcl,List.getElem_replicate];refine zci (by simp) λj _=>?_;rw [if_neg (by omega),zuT];simp [FWy,zb5]
theorem zpb {a:DArc} (hf:a.fr=(i:Int)) (ht:a.to=(k:Int)) (hi:i<n) (hk:k<n) (h:i<(zck (nxA n A) n 0 0 0).length) :
   (zck (nxA n A) n 0 0 0).set i ((zck (nxA n A) n 0 0 0)[i].set k true)=zck (nxA n (A++[a])) n 0 0 0:=by
 refine List.ext_getElem (by simp [zck]) λx h1 h2=>?_;rw [List.getElem_set];by_cases hx:i=x
 · subst hx
   rw [if_pos rfl,zcl,zcl,zmh hk];refine zbw λj _=>?_;rw [if_neg (by omega)];rw [zmg,zmg,znS hf ht hi hk];exact ⟨λh=>h.elim .inl λh=>.inr ⟨rfl,h⟩,λh=>h.elim .inl λh=>.inr h.2⟩
 rw [if_neg hx,zcl,zcl];refine zbw λj _=>?_;rw [if_neg (by omega)];rw [zmg,zmg,znS hf ht hi hk];exact ⟨.inl,λh=>h.elim id λh=>absurd h.1.symm hx⟩
end
section
variable {n i j f:Nat} {way:Nat→Nat→Prop} {told:Nat→Prop}
def OkK (way:Nat→Nat→Prop) (told:Nat→Prop) (i j:Nat):Prop:=¬told i∧∀ x,x<j→way i x→way x i∨told x
theorem ztA (hi:i<n):OkK way told i n↔OkC n way told i:=⟨λh=>⟨hi,h⟩,λh=>h.2⟩
theorem zuU:OkK way told i (j+1)↔OkK way told i j∧(way i j→way j i∨told j):=by
 constructor
 · rintro ⟨h1,h2⟩;exact ⟨⟨h1,λx hx=>h2 x (by omega)⟩,h2 j (by omega)⟩
 rintro ⟨⟨h1,h2⟩,h3⟩;refine ⟨h1,λx hx=>?_⟩;rcases Nat.lt_or_eq_of_le (Nat.lt_succ_iff.1 hx) with h | rfl
 · exact h2 x h
 exact h3
def zki (way:Nat→Nat→Prop) (told:Nat→Prop) (i j x:Nat):Prop:=told x∨(x<j∧zbV way i x)
theorem zro:zdf n told=zdf n (zki way told i 0):=zbw λx _=>⟨.inl,λh=>h.elim id λh=>by omega⟩
theorem ztB:zdf n (zki way told i n)=zdf n (zgQ way told i):=zbw λx hx=>⟨λh=>h.elim .inl λh=>.inr h.2,λh=>h.elim .inl λh=>.inr ⟨hx,h⟩⟩
theorem znT (hj:j<n) (h:zbV way i j):(zdf n (zki way told i j)).set j true=zdf n (zki way told i (j+1)):=by
 rw [zmh hj];refine zbw λx _=>?_;unfold zki;constructor
 · rintro ((h1 | h1) | rfl)
   · exact .inl h1
   · exact .inr ⟨by omega,h1.2⟩
   exact .inr ⟨by omega,h⟩
 rintro (h1 | ⟨h1,h2⟩)
 · exact .inl (.inl h1)
 rcases Nat.lt_or_eq_of_le (Nat.lt_succ_iff.1 h1) with h3 | h3
 · exact .inl (.inr ⟨h3,h2⟩)
 exact .inr h3
theorem zuV (h:¬zbV way i j):zdf n (zki way told i j)=zdf n (zki way told i (j+1)):=by
 refine zbw λx _=>?_;unfold zki;constructor
 · rintro (h1 | h1)
   · exact .inl h1
   exact .inr ⟨by omega,h1.2⟩
 rintro (h1 | ⟨h1,h2⟩)
 · exact .inl h1
 rcases Nat.lt_or_eq_of_le (Nat.lt_succ_iff.1 h1) with h3 | h3
 · exact .inr ⟨h3,h2⟩
 subst h3;exact absurd h2 h
end
def F157 (a0 a1:Value) (w:World) (R:VW):Prop:=
 oP (Instr.buildSlice 138 0 #[]) w λx11 w=>
 LOOPI [5,6] [x11,(iV 0)] w λu3 w n3=>
 rC (u3 6) a0 w λx14=>
 BR x14
 (oP (Instr.makeSlice 85 a0 a0) w λx19 w=>
 oP (bS 138 x19) w λx20 w=>
 oP (aP 138 (u3 5) x20) w λx21 w=>
 rI (u3 6) w λx16=>
 n3 [x21,x16] w)
 (LOOPI [7] [(iV 0)] w λu7 w n7=>
 rN 68 3 a1 w λx24=>
 rC (u7 7) x24 w λx25=>
 BR x25
 ((λw=>rX 68 a1 (u7 7) w λx31=>
 rF 112 x31 0 w λx32=>
 rL 3 x32 w λx33=>
 rX 138 (u3 5) x33 w λx34=>
 rL 85 x34 w λx35=>
 rX 68 a1 (u7 7) w λx38=>
 rF 112 x38 1 w λx39=>
 rL 3 x39 w λx40=>
 rX 85 x35 x40 w λx41=>
 oS 4 x41 vT w λw=>
 rI (u7 7) w λx27=>
 n7 [x27] w) (World.drew1 w))
 (LOOPI [8] [(iV 0)] w λu11 w n11=>
 rC (u11 8) a0 w λx44=>
 BR x44
 (LOOPI [9] [(iV 0)] w λu14 w n14=>
 rC (u14 9) a0 w λx49=>
 BR x49
 (LOOPI [10] [(iV 0)] w λu17 w n17=>
 rC (u17 10) a0 w λx54=>
 BR x54
 (rX 138 (u3 5) (u14 9) w λx58=>
 rL 85 x58 w λx59=>
 rX 85 x59 (u11 8) w λx61=>
 rL 4 x61 w λx62=>
 BR x62
 (rX 138 (u3 5) (u11 8) w λx68=>
 rL 85 x68 w λx69=>
 rX 85 x69 (u17 10) w λx71=>
 rL 4 x71 w λx72=>
 BR x72
 (rX 138 (u3 5) (u14 9) w λx75=>
 rL 85 x75 w λx76=>
 rX 85 x76 (u17 10) w λx78=>
 oS 4 x78 vT w λw=>
 rI (u17 10) w λx65=>
 n17 [x65] w)
 (rI (u17 10) w λx65=>
 n17 [x65] w))
 (rI (u14 9) w λx51=>
 n14 [x51] w))
 (rI (u14 9) w λx51=>
 n14 [x51] w))
 (rI (u11 8) w λx46=>
 n11 [x46] w))
 (R (u3 5) w)))
theorem F157_call {a0 a1 w R} (h:F157 a0 a1 w R):cL 157 [a0,a1] w R:=co (g:=(kf [] [(3,4190304,[5,6]),(7,4398042316928,[7]),(11,604462909802916540843776,[8]),(14,604462909666577098999296,[9]),(17,604462905303714959983616,[10])] [(9,[0,1,2,3,4,5,6,7,8,9,10,11,12,13,14],0)])) Tryz.func157 h
open Rep (rep)
theorem zx0:zcu tp 4=some [.bool false]:=by kernel_rfl
structure RB (w0 w:World) (v:Value) (l:List (List Bool)):Prop where
 ext:Ext w0 w
 own:Own w0.heap.size w v l
section
variable {w0 w w' w1:World} {v:Value} {l:List (List Bool)} {i j m n:Nat}
theorem RB.step (h:RB w0 w v l) (hx:Ext w w'):RB w0 w' v l:=⟨h.ext.trans hx,h.own.ext hx⟩
theorem zim {K:Value→Prop} (h:Is w1 v l) (hx:Ext w1 w) (hi:i<l.length) (hj:j<l[i].length) (k:K (.bool l[i][j])) :
   RD tp (Instr.indexAt 138 v (.int .i64 (i:Int))) w λa=>RD tp (Instr.loadAt 85 a) w λb=>RD tp (Instr.indexAt 85 b (.int .i64 (j:Int))) w λc=>RD tp (Instr.loadAt 4 c) w K:=
 zad zwG zhF h hi λb o hA=>zab zhF hA hx λv2 h2=>zad u85 ty4 h2 hj λb2 o2 hA2=>zby ty4 hA2 hx k
theorem RB.set {K:World→Prop} (h:RB w0 w v l) (hi:i<l.length) (hj:j<l[i].length) (k:∀ w',RB w0 w' v (l.set i (l[i].set j true))→K w') :
   RD tp (Instr.indexAt 138 v (.int .i64 (i:Int))) w λa=>RD tp (Instr.loadAt 85 a) w λb=>RD tp (Instr.indexAt 85 b (.int .i64 (j:Int))) w λc=>OPU tp (Instr.storeAt 4 c (.bool true)) w K:=by
 obtain ⟨F,hM,hF⟩:=h.own;refine zfv zwG zhF hM hi λb o G hL=>?_;refine zjD zhF hL λb3 hM3 hG3 hb3=>?_;refine zfv u85 ty4 hM3 hj λb4 o4 G4 hL4=>?_;refine ze9 (upd:=λy=>l[i].set j y) (y':=true) ty4 hL4 zjE λw2 F2 hc2 hm2 hF2=>?_;obtain ⟨F5,hm5,hF5⟩:=hb3 w2 F2 _ hc2 hm2 λc hc=>.inl (hF2 c hc);refine k w2 ⟨h.ext.chg_trans (hc2.mono hG3) hF,F5,hm5,λc hc=>?_⟩;rcases hF5 c hc with h6 | h6
 · exact hF c h6
 exact hF c (hG3 c (hF2 c h6))
end
theorem zkj {w W1:World} {v1:Value} {n:Nat} {A:List DArc} (h1:Is W1 v1 A) (e1:Ext W1 w) (hn:n≤60) (hA:∀ a∈A,(0≤a.fr∧a.fr<n)∧0≤a.to∧a.to<n) (hl:A.length≤2000) :
   CALL tp 157 [.int .i64 (n:Int),v1] w λr w'=>Ext w w'∧Own w.heap.size w' r (zfB (nxA n A) n):=by
 refine F157_call ?_;unfold F157;refine zaQ (α:=List Bool) zwG zhF λa8 w1 hx1 hr1=>?_;refine zat n (λk us w'=>∃ out,us=[out,.int .i64 (k:Int)]∧k≤n∧Ext w w'∧RowI w.heap.size w'.heap.size 85 w' out (List.replicate k (List.replicate n false))) 0 (z0 _) ⟨_,rfl,z0 _,hx1,zcw _ _ _ _ _⟩ ?_;rintro k mk q w2 hkm ⟨out,hq,hkl,hx2,hr2⟩;obtain ⟨hq1,hq2⟩:=zd4 hq;clear hq;rw [hq1,hq2];have hs2:=hx2.size;refine zaf ?_;refine br (λhlt=>?_) (λhge=>?_)
 · refine zfw (α:=Bool) u85 ty4 rfl rfl zx0 (by omega) (by omega) λw3 hx3 hr3=>?_
   have hs3:=hx3.size;refine zcn (x:=List.replicate n false) zwG zhF z85 zx5 (by decide) (hr2.ext hx3) (by omega) hr3.own (lr _) (by omega) (by rw [zak,List.length_replicate];omega) (by rw [List.length_replicate];omega) λv54 w9 hc9 hr9=>?_;refine zaB ?_;refine ⟨mk-1,by omega,k+1,by omega,v54,rfl,by omega,(hx2.t hx3).chgI hc9 (lr _),?_⟩;rw [List.replicate_succ'];exact hr9
 have hke:k=n:=by omega
 rw [hke,zrn] at hr2;have hR2:RB w w2 out (zck (nxA n []) n 0 0 0):=⟨hx2,hr2.own.own⟩;clear hr2;refine zat A.length (λk us w'=>us=[.int .i64 (k:Int)]∧k≤A.length∧RB w w' out (zck (nxA n (A.take k)) n 0 0 0)) 0 (z0 _) ⟨rfl,z0 _,by rw [List.take_zero];exact hR2⟩ ?_;rintro k mk q w3 hkm ⟨hq,hkl,hR3⟩;try replace hq:=zbG hq
 rw [hq];refine zae u68 h1 ?_;refine zaf ?_;refine br (λhlt=>?_) (λhge=>?_)
 · have hk:k<A.length:=by omega
   have hxd:=zai w3;generalize World.drew1 w3=w4 at *;have hR4:=hR3.step hxd;obtain ⟨⟨hf0,hf1⟩,ht0,ht1⟩:=hA _ (List.getElem_mem hk);obtain ⟨i,hi⟩:∃ i:Nat,A[k].fr=(i:Int):=⟨A[k].fr.toNat,by omega⟩;obtain ⟨j,hj⟩:∃ j:Nat,A[k].to=(j:Int):=⟨A[k].to.toNat,by omega⟩;refine zad u68 zdU h1 hk λb3 o3 hA3=>?_;refine zaa zjk ?_;refine zac ty3 (zfW hA3) (e1.trans hR4.ext) λ_=>?_;rw [hi];obtain ⟨F,hM,hF⟩:=hR4.own;have hil:i<(zck (nxA n (A.take k)) n 0 0 0).length:=by rw [znQ];omega
   refine zfv zwG zhF hM hil λb o G hL=>?_;refine zjD zhF hL λb5 hM5 hG5 hb5=>?_;refine zad u68 zdU h1 hk λb6 o6 hA6=>?_;refine zaa zjl ?_;refine zac ty3 (zfX hA6) (e1.trans hR4.ext) λ_=>?_;rw [hj];refine zfv u85 ty4 hM5 (k:=j) (by rw [zcl,zaD];omega) λb7 o7 G7 hL7=>?_;refine ze9 (upd:=λy=>(zck (nxA n (A.take k)) n 0 0 0)[i].set j y) (y':=true) ty4 hL7 zjE λw5 F5 hc5 hm5 hF5=>?_;obtain ⟨F6,hm6,hF6⟩:=hb5 w5 F5 _ hc5 hm5 λc hc=>.inl (hF5 c hc)
   have hR6:RB w w5 out ((zck (nxA n (A.take k)) n 0 0 0).set i ((zck (nxA n (A.take k)) n 0 0 0)[i].set j true)):=⟨hR4.ext.chg_trans (hc5.mono hG5) hF,F6,hm6,λc hc=>by
     rcases hF6 c hc with h6 | h6
     · exact hF c h6
     exact hF c (hG5 c (hF5 c h6))⟩
   rw [zpb hi hj (by omega) (by omega)] at hR6;refine zaB ?_;refine ⟨mk-1,by omega,k+1,by omega,rfl,by omega,?_⟩;rw [tk hk];exact hR6
 have hke:k=A.length:=by omega
 rw [hke,List.take_length] at hR3;refine zat n (λm us w'=>us=[.int .i64 (m:Int)]∧m≤n∧RB w w' out (zck (nxA n A) n m 0 0)) 0 (z0 _) ⟨rfl,z0 _,hR3⟩ ?_;rintro m mm q3 w4 hmm ⟨hq3,hml,hR4⟩;try replace hq3:=zbG hq3
 rw [hq3];refine zaf ?_;refine br (λhlt3=>?_) (λhge3=>?_)
 case refine_2=>
   have hme:m=n:=by omega
   rw [hme,ztz zvw] at hR4;exact ⟨hR4.ext,hR4.own⟩
 have hm:m<n:=by omega
 refine zat n (λk us w'=>us=[.int .i64 (k:Int)]∧k≤n∧RB w w' out (zck (nxA n A) n m k 0)) 0 (z0 _) ⟨rfl,z0 _,hR4⟩ ?_;rintro i mi q4 w5 hmi ⟨hq4,hil,hR5⟩;try replace hq4:=zbG hq4
 rw [hq4];refine zaf ?_;refine br (λhlt4=>?_) (λhge4=>?_)
 case refine_2=>
   have hie:i=n:=by omega
   rw [hie,zrl] at hR5;refine zaB ?_;exact ⟨mm-1,by omega,m+1,by omega,rfl,by omega,hR5⟩
 have hi:i<n:=by omega
 refine zat n (λj us w'=>us=[.int .i64 (j:Int)]∧j≤n∧(0<j→FWy (nxA n A) m i m)∧RB w w' out (zck (nxA n A) n m i j)) 0 (z0 _) ⟨rfl,z0 _,λh=>absurd h (by omega),hR5⟩ ?_;rintro j mj q5 w6 hmj ⟨hq5,hjl,hpos,hR6⟩;try replace hq5:=zbG hq5
 rw [hq5];refine zaf ?_;refine br (λhlt5=>?_) (λhge5=>?_)
 case refine_2=>
   have hje:j=n:=by omega
   rw [hje,ztx] at hR6;refine zaB ?_;exact ⟨mi-1,by omega,i+1,by omega,rfl,by omega,hR6⟩
 have hj:j<n:=by omega
 have hL6:(zck (nxA n A) n m i j).length=n:=znQ;have hl6:∀ x (hx:x<(zck (nxA n A) n m i j).length),((zck (nxA n A) n m i j)[x]).length=n:=λx hx=>by rw [zcl,zaD]
 refine zim (i:=i) (j:=m) hR6.own.is (Ext.refl _) (by omega) (by rw [hl6];omega) ?_;have hat:=zql (nx:=nxA n A) (n:=n) (m:=m) (k:=i) (j:=j) (i:=i) (by omega) (x:=m) (by rw [hl6];omega)
 have hfw:FWy (nxA n A) (if i<i∨(i=i∧m<j) then m+1 else m) i m↔FWy (nxA n A) m i m:=by
   split
   · exact zuQ
   exact .rfl
 rw [hfw] at hat;refine zcd (λhb=>?_) (λhb=>?_)
 case refine_2=>
   have hno:¬FWy (nxA n A) m i m:=λh=>by rw [hat.2 h] at hb;cases hb
   have hj0:j=0:=by
     rcases Nat.eq_zero_or_pos j with h | h
     · exact h
     exact absurd (hpos h) hno
   subst hj0;rw [zrm hno] at hR6;refine zaB ?_;exact ⟨mi-1,by omega,i+1,by omega,rfl,by omega,hR6⟩
 have hyes:=hat.1 hb;refine zim (i:=m) (j:=j) hR6.own.is (Ext.refl _) (by omega) (by rw [hl6];omega) ?_;have hat2:=zql (nx:=nxA n A) (n:=n) (m:=m) (k:=i) (j:=j) (i:=m) (by omega) (x:=j) (by rw [hl6];omega)
 have hfw2:FWy (nxA n A) (if m<i∨(m=i∧j<j) then m+1 else m) m j↔FWy (nxA n A) m m j:=by
   split
   · exact zuR
   exact .rfl
 rw [hfw2] at hat2;refine zcd (λhb2=>?_) (λhb2=>?_)
 · have hy2:=hat2.1 hb2
   refine hR6.set (i:=i) (j:=j) (by omega) (by rw [hl6];omega) λw7 hR7=>?_;rw [zty hi hj hyes hy2] at hR7;refine zaB ?_;exact ⟨mj-1,by omega,j+1,by omega,rfl,by omega,λ_=>hyes,hR7⟩
 have hn2:¬FWy (nxA n A) m m j:=λh=>by rw [hat2.2 h] at hb2;cases hb2
 rw [zuS hn2] at hR6;refine zaB ?_;exact ⟨mj-1,by omega,j+1,by omega,rfl,by omega,λ_=>hyes,hR6⟩
theorem zlb {w:World} {v:Value} {x:DArc}:Is w v x↔v=.agg #[.int .i64 x.fr,.int .i64 x.to]∧I64 x.fr∧I64 x.to:=by
 constructor
 · rintro ⟨F,cs,⟨F1,F2,c1,c2,rfl,rfl,⟨rfl,rfl,h1⟩,⟨rfl,rfl,h2⟩⟩,rfl⟩
   exact ⟨rfl,h1,h2⟩
 rintro ⟨rfl,h1,h2⟩;exact ⟨[],_,⟨[],[],[.int .i64 x.fr],[.int .i64 x.to],rfl,rfl,⟨rfl,rfl,h1⟩,⟨rfl,rfl,h2⟩⟩,rfl⟩
set_option maxRecDepth 20000 in
theorem zrp {w w0 w1:World} {K:Value→Prop} {x y:Operand} {v1 v2:Value} {a b:DArc} (h1:Is w0 v1 a) (h2:Is w1 v2 b) (k:K (.bool (decide (a=b)))):RD tp (bin .eql 112 x y v1 v2) w K:=by
  obtain ⟨rfl,_⟩:=zlb.1 h1;obtain ⟨rfl,_⟩:=zlb.1 h2;refine za3 (λw' _=>?_) k;have hg:tp.eqGuardType tp.depth 112=false:=by kernel_rfl
  have e0:∀ xs ys w,(eqGuard .eql 112 x y (.agg xs) (.agg ys)).run tp w=.ok () w:=λxs ys w=>run_eqGuard_agg (P:=tp) w .eql 112 x y xs ys hg;have e1:∀ xs ys w,(Op.equalIn 10000 112 (.agg xs) (.agg ys)).run tp w=(Op.eqFields 9999 xs ys (tp.fieldsOf 112).toList).run tp w:=λxs ys w=>run_equalIn_struct w 9999 112 xs ys (by kernel_rfl) (by kernel_rfl);have e2:(tp.fieldsOf 112).toList.map (λf=>(f.name,f.type,f.offset))=[("From", 3,0),("To", 3,1)]:=by kernel_rfl
  have e3:∀ (c d:Int) (w:World),(Op.equalIn 9999 3 (.int .i64 c) (.int .i64 d)).run tp w=.ok (c == d) w:=λc d w=>run_equalIn_int w 9998 3 .i64 .i64 c d u3;have hd:(a=b)↔(a.fr=b.fr∧a.to=b.to):=DArc.ext_iff;generalize hF:(tp.fieldsOf 112).toList=fs at e1 e2
  match fs,e2 with
  | [f0,f1],e2=>
    simp only [List.map_cons,List.map_nil,List.cons.injEq,Prod.mk.injEq,and_true] at e2;obtain ⟨⟨n0,t0,o0⟩,⟨n1,t1,o1⟩⟩:=e2;have p0:∀ (a b:Value) (w:World),(part 3 #[a,b] 0).run tp w=.ok a w:=λa b w=>by simp [part,zc1 ty3]
    have p1:∀ (a b:Value) (w:World),(part 3 #[a,b] 1).run tp w=.ok b w:=λa b w=>by simp [part,zc1 ty3]
    simp only [bin,Sem.run_bind,e0,Result.andThen_ok,run_eql_struct,e1,Op.eqFields,n0,n1,t0,t1,o0,o1];simp only [ne_eq,String.reduceEq,not_false_eq_true,if_true,Sem.run_bind,p0,p1,Result.andThen_ok,e3,Sem.run_ite,Sem.run_pure,hd];by_cases x0:a.fr=b.fr<;>by_cases x1:a.to=b.to<;>simp [x0,x1]
set_option maxRecDepth 20000 in
theorem zrq {w w0 w1:World} {K:Value→Prop} {x y:Operand} {v1 v2:Value} {a b:DArc} (h1:Is w0 v1 a) (h2:Is w1 v2 b) (k:K (.bool (decide (a≠b)))):RD tp (bin .neq 112 x y v1 v2) w K:=by
  obtain ⟨rfl,_⟩:=zlb.1 h1;obtain ⟨rfl,_⟩:=zlb.1 h2;refine za3 (λw' _=>?_) k;have hg:tp.eqGuardType tp.depth 112=false:=by kernel_rfl
  have e0:∀ xs ys w,(eqGuard .neq 112 x y (.agg xs) (.agg ys)).run tp w=.ok () w:=λxs ys w=>run_eqGuard_agg (P:=tp) w .neq 112 x y xs ys hg;have e1:∀ xs ys w,(Op.equalIn 10000 112 (.agg xs) (.agg ys)).run tp w=(Op.eqFields 9999 xs ys (tp.fieldsOf 112).toList).run tp w:=λxs ys w=>run_equalIn_struct w 9999 112 xs ys (by kernel_rfl) (by kernel_rfl);have e2:(tp.fieldsOf 112).toList.map (λf=>(f.name,f.type,f.offset))=[("From", 3,0),("To", 3,1)]:=by kernel_rfl
  have e3:∀ (c d:Int) (w:World),(Op.equalIn 9999 3 (.int .i64 c) (.int .i64 d)).run tp w=.ok (c == d) w:=λc d w=>run_equalIn_int w 9998 3 .i64 .i64 c d u3;have hd:(a=b)↔(a.fr=b.fr∧a.to=b.to):=DArc.ext_iff;generalize hF:(tp.fieldsOf 112).toList=fs at e1 e2
  match fs,e2 with
  | [f0,f1],e2=>
    simp only [List.map_cons,List.map_nil,List.cons.injEq,Prod.mk.injEq,and_true] at e2;obtain ⟨⟨n0,t0,o0⟩,⟨n1,t1,o1⟩⟩:=e2;have p0:∀ (a b:Value) (w:World),(part 3 #[a,b] 0).run tp w=.ok a w:=λa b w=>by simp [part,zc1 ty3]
    have p1:∀ (a b:Value) (w:World),(part 3 #[a,b] 1).run tp w=.ok b w:=λa b w=>by simp [part,zc1 ty3]
    simp only [bin,Sem.run_bind,e0,Result.andThen_ok,run_neq_struct,e1,Op.eqFields,n0,n1,t0,t1,o0,o1];simp only [ne_eq,String.reduceEq,not_false_eq_true,if_true,Sem.run_bind,p0,p1,Result.andThen_ok,e3,Sem.run_ite,Sem.run_pure,ne_eq,hd];by_cases x0:a.fr=b.fr<;>by_cases x1:a.to=b.to<;>simp [x0,x1]
theorem zkz {l:List DArc} {k:Nat} {y:DArc} (hk:k<l.length) (h:y∉l.take k) (c:¬l[k]=y):y∉l.take (k+1):=by
 rw [tk hk];simp only [List.mem_append,List.mem_cons,List.not_mem_nil,or_false,not_or];exact ⟨h,λe=>c e.symm⟩
def F145 (a0 a1:Value) (w:World) (R:VW):Prop:=
 oX 112 a1 w λx3 w=>
 rN 68 3 a0 w λx7=>
 LOOPI [8] [(iV 0)] w λu2 w n2=>
 rC (u2 8) x7 w λx9=>
 BR x9
 ((λw=>rL 112 x3 w λx11=>
 rX 68 a0 (u2 8) w λx14=>
 rL 112 x14 w λx15=>
 rB .eql 112 T0 T0 x11 x15 w λx16=>
 BR x16
 (R (u2 8) w)
 (rI (u2 8) w λx18=>
 n2 [x18] w)) (World.drew1 w))
 (R (iV (-1)) w)
theorem F145_call {a0 a1 w R} (h:F145 a0 a1 w R):cL 145 [a0,a1] w R:=co (g:=(kf [] [(2,524080,[8])] [(4,[0,1,2,3,4,5],0)])) Tryz.func145 h
theorem zpc {w:World} {v0:Value} {W0:World} {l:(List DArc)} {v1:Value} {W1:World} {y:DArc}  (h0:Is W0 v0 l) (e0:Ext W0 w) (h1:Is W1 v1 y) (e1:Ext W1 w)  :
   CALL tp 145 [v0,v1] w λr w'=>Ext w w'∧(∃ n:Int,r=.int .i64 n∧(0≤n↔y∈l)):=by
 refine F145_call ?_;unfold F145;refine zao zdU rfl h1 e1 λw1_ η1 hA3 hV3=>?_;have hln7:=zah h0;refine zae u68 h0 ?_;refine zat (l.length) (λk us w'=>us=[.int .i64 (k:Int)]∧Ext w1_ w'∧(y∉l.take k)) (0) (by omega) ⟨by simp,Ext.refl w1_,by simp⟩ ?_;rintro k m2 uu2 w2_ hk2 ⟨hu,η2,hinv⟩;try replace hu:=zbG hu
 try rw [hu]
 try clear hu
 refine zaf ?_;refine br (λc1=>?_) (λc1=>?_)
 · have η3:=zai w2_
   refine zau hV3 (η2.t η3) ?_;refine zad u68 zdU h0 (by omega) λb14 o14 h14=>?_;refine zab zdU h14 (e0.t (η1.t (η2.t η3))) λv15 h15=>?_;refine zrp h1 h15 ?_;refine br (λc2=>?_) (λc2=>?_)
   · refine ⟨(η1.t (η2.t η3)),?_⟩
     have:y∈l:=c2▸List.getElem_mem _;exact ⟨_,rfl,by simp [this]⟩
   refine zaB ?_;refine ⟨m2-1,by omega,k+1,by omega,by simp,(η2.t η3),?_⟩;exact zkz (by omega) hinv (λe=>c2 e.symm)
 refine ⟨(η1.t η2),?_⟩;rw [List.take_of_length_le (by omega)] at hinv;exact ⟨-1,rfl,by simp [hinv]⟩
def F80 (a0 a1:Value) (w:World) (R:VW):Prop:=
 oX 112 a1 w λx3 w=>
 rL 112 x3 w λx6=>
 cL 145 [a0,x6] w λx7 w=>
 rB .geq 3 T0 U0 x7 (iV 0) w λx8=>
 R x8 w
theorem F80_call {a0 a1 w R} (h:F80 a0 a1 w R):cL 80 [a0,a1] w R:=co (g:=(kf [] [] [])) Tryz.func80 h
theorem zkA {w:World} {v0:Value} {W0:World} {l:(List DArc)} {v1:Value} {W1:World} {y:DArc}  (h0:Is W0 v0 l) (e0:Ext W0 w) (h1:Is W1 v1 y) (e1:Ext W1 w)  :
   CALL tp 80 [v0,v1] w λr w'=>Ext w w'∧(r=.bool (decide (y∈l))):=by
 refine F80_call ?_;unfold F80;refine zao zdU rfl h1 e1 λw1_ η1 hA3 hV3=>?_;refine zau hV3 (Ext.refl w1_) ?_;refine (zpc h0 (e0.t η1) h1 (e1.trans η1)).mono ?_;rintro _ w2_ ⟨η2,n7,rfl,hn7⟩;refine zbW ?_;refine ⟨(η1.t η2),?_⟩;simp [hn7]
def F156 (a0 a1:Value) (w:World) (R:VW):Prop:=
 cL 151 [a0,(iV 0),(iV 60)] w λx7 w=>
 rT x7 w λx8=>
 BR x8
 (R vF w)
 (rN 68 3 a1 w λx11=>
 rB .gtr 3 T0 U0 x11 (iV 2000) w λx12=>
 BR x12
 (R vF w)
 (LOOPI [5] [(iV 0)] w λu4 w n4=>
 rN 68 3 a1 w λx16=>
 rC (u4 5) x16 w λx17=>
 BR x17
 (rX 68 a1 (u4 5) w λx22=>
 rF 112 x22 0 w λx23=>
 rL 3 x23 w λx24=>
 rB .sub 3 T0 U0 a0 (iV 1) w λx26=>
 cL 151 [x24,(iV 0),x26] w λx27 w=>
 rT x27 w λx28=>
 BR x28
 (R vF w)
 (rX 68 a1 (u4 5) w λx32=>
 rF 112 x32 1 w λx33=>
 rL 3 x33 w λx34=>
 rB .sub 3 T0 U0 a0 (iV 1) w λx36=>
 cL 151 [x34,(iV 0),x36] w λx37 w=>
 rT x37 w λx38=>
 BR x38
 (R vF w)
 (rI (u4 5) w λx19=>
 n4 [x19] w)))
 (R vT w)))
theorem F156_call {a0 a1 w R} (h:F156 a0 a1 w R):cL 156 [a0,a1] w R:=co (g:=(kf [] [(4,1099511611440,[5])] [])) Tryz.func156 h
def F87 (a0 a1:Value) (w:World) (R:VW):Prop:=
 oP (Instr.buildSlice 33 0 #[]) w λx14 w=>
 cL 156 [a0,a1] w λx17 w=>
 rT x17 w λx18=>
 BR x18
 (R x14 w)
 (cL 157 [a0,a1] w λx22 w=>
 oP (Instr.makeSlice 85 a0 a0) w λx24 w=>
 LOOPI [5,8] [x14,a0] w λu7 w n7=>
 rB .gtr 3 T0 U0 (u7 8) (iV 0) w λx27=>
 BR x27
 (LOOPI [5,8,9] [(u7 5),(u7 8),(iV 0)] w λu9 w n9=>
 rC (u9 9) a0 w λx30=>
 BR x30
 (rX 85 x24 (u9 9) w λx35=>
 rL 4 x35 w λx36=>
 rT x36 w λx37=>
 JOIN [10] (λJ16=>
 LOOPI [10,11] [x37,(iV 0)] w λu13 w n13=>
 rC (u13 11) a0 w λx40=>
 BR x40
 (BR (u13 10)
 (rX 138 x22 (u9 9) w λx48=>
 rL 85 x48 w λx49=>
 rX 85 x49 (u13 11) w λx51=>
 rL 4 x51 w λx52=>
 rT x52 w λx53=>
 BR x53
 (rI (u13 11) w λx45=>
 n13 [vT,x45] w)
 (rX 138 x22 (u13 11) w λx57=>
 rL 85 x57 w λx58=>
 rX 85 x58 (u9 9) w λx60=>
 rL 4 x60 w λx61=>
 BR x61
 (rI (u13 11) w λx45=>
 n13 [vT,x45] w)
 (rX 85 x24 (u13 11) w λx66=>
 rL 4 x66 w λx67=>
 rI (u13 11) w λx45=>
 n13 [x67,x45] w)))
 (J16 [(u13 10)] w))
 (J16 [(u13 10)] w)) (λu16 w=>
 rT (u16 10) w λx70=>
 BR x70
 (rI (u9 9) w λx32=>
 n9 [(u9 5),(u9 8),x32] w)
 (oP (Instr.buildSlice 25 0 #[]) w λx71 w=>
 LOOPI [12,13] [x71,(iV 0)] w λu19 w n19=>
 rC (u19 13) a0 w λx74=>
 BR x74
 (rB .eql 3 T0 T0 (u19 13) (u9 9) w λx79=>
 BR x79
 (oP (bS 25 (u19 13)) w λx100 w=>
 oP (aP 25 (u19 12) x100) w λx101 w=>
 rX 85 x24 (u19 13) w λx104=>
 oS 4 x104 vT w λw=>
 rI (u19 13) w λx76=>
 n19 [x101,x76] w)
 (rX 138 x22 (u9 9) w λx83=>
 rL 85 x83 w λx84=>
 rX 85 x84 (u19 13) w λx86=>
 rL 4 x86 w λx87=>
 GBR x87
 (rX 138 x22 (u19 13) w λx91=>
 rL 85 x91 w λx92=>
 rX 85 x92 (u9 9) w λx94=>
 rL 4 x94 w λx95=>
 BR x95
 (oP (bS 25 (u19 13)) w λx100 w=>
 oP (aP 25 (u19 12) x100) w λx101 w=>
 rX 85 x24 (u19 13) w λx104=>
 oS 4 x104 vT w λw=>
 rI (u19 13) w λx76=>
 n19 [x101,x76] w)
 (rI (u19 13) w λx76=>
 n19 [(u19 12),x76] w))
 (rI (u19 13) w λx76=>
 n19 [(u19 12),x76] w)
 (BR undef
 (BR undef
 (oP (bS 25 (u19 13)) w λx100 w=>
 oP (aP 25 (u19 12) x100) w λx101 w=>
 rX 85 x24 (u19 13) w λx104=>
 oS 4 x104 vT w λw=>
 rI (u19 13) w λx76=>
 n19 [x101,x76] w)
 (rI (u19 13) w λx76=>
 n19 [(u19 12),x76] w))
 (rI (u19 13) w λx76=>
 n19 [(u19 12),x76] w))))
 (rN 25 3 (u19 12) w λx107=>
 rB .sub 3 T0 T0 (u9 8) x107 w λx108=>
 oP (bS 33 (u19 12)) w λx111 w=>
 oP (aP 33 (u9 5) x111) w λx112 w=>
 n7 [x112,x108] w))))
 (n7 [(u9 5),(u9 8)] w))
 (R (u7 5) w))
theorem F87_call {a0 a1 w R} (h:F87 a0 a1 w R):cL 87 [a0,a1] w R:=co (g:=(kf [(16,590295810083827747840,[10])] [(7,10384593717069655257060992591347488,[5,8]),(9,10384593717069655257060992390020896,[5,8,9]),(13,590295810083827747840,[10,11]),(19,40564819202580974365024857370624,[12,13])] [])) Tryz.func87 h
open Rep (rep)
theorem zgz {w W1:World} {v1:Value} {n:Nat} {A:List DArc} (h1:Is W1 v1 A) (e1:Ext W1 w) (hn:n≤60) (hA:∀ a∈A,(0≤a.fr∧a.fr<n)∧0≤a.to∧a.to<n) (hl:A.length≤2000) :
   CALL tp 156 [.int .i64 (n:Int),v1] w λr w'=>Ext w w'∧r=.bool true:=by
 refine F156_call ?_;unfold F156;refine l01In_ok.mono ?_;rintro _ w1 ⟨hx1,rfl⟩;refine zav ?_;refine br (λh=>absurd ⟨by omega,by omega⟩ h) (λ_=>?_);refine zae u68 h1 ?_;refine zb1 ?_;refine br (λh=>by omega) (λ_=>?_);refine zat A.length (λk us w'=>us=[.int .i64 (k:Int)]∧k≤A.length∧Ext w w') 0 (z0 _) ⟨rfl,z0 _,hx1⟩ ?_;rintro k mk q w3 hkm ⟨hq,hkl,hx3⟩;try replace hq:=zbG hq
 rw [hq];refine zae u68 h1 ?_;refine zaf ?_;refine br (λhlt=>?_) (λhge=>?_)
 case refine_2=>exact ⟨hx3,rfl⟩
 have hk:k<A.length:=by omega
 obtain ⟨⟨hf0,hf1⟩,ht0,ht1⟩:=hA _ (List.getElem_mem hk);refine zad u68 zdU h1 hk λb3 o3 hA3=>?_;refine zaa zjk ?_;refine zac ty3 (zfW hA3) (e1.trans hx3) λ_=>?_;refine za0 (by unfold I64;omega) ?_;refine l01In_ok.mono ?_;rintro _ w4 ⟨hx4,rfl⟩;refine zav ?_;refine br (λh=>absurd ⟨by omega,by omega⟩ h) (λ_=>?_);refine zad u68 zdU h1 hk λb5 o5 hA5=>?_;refine zaa zjl ?_;refine zac ty3 (zfX hA5) ((e1.trans hx3).trans hx4) λ_=>?_;refine za0 (by unfold I64;omega) ?_;refine l01In_ok.mono ?_;rintro _ w6 ⟨hx6,rfl⟩;refine zav ?_;refine br (λh=>absurd ⟨by omega,by omega⟩ h) (λ_=>?_);refine zaB ?_;exact ⟨mk-1,by omega,k+1,by omega,rfl,by omega,(hx3.t hx4).trans hx6⟩
structure CI (w1 wT w4 w:World) (tv out lv:Value) (T:List Bool) (lo hi:Nat) (L:List (List Int)) (P:List Int):Prop where
 ext:Ext w1 w
 told:OwnI w1.heap.size wT.heap.size w tv T
 s1:w1.heap.size≤wT.heap.size
 s2:wT.heap.size≤lo
 s3:hi≤w4.heap.size
 s4:w4.heap.size≤w.heap.size
 s5:wT.heap.size≤w4.heap.size
 out:RowI lo hi 25 w out L
 row:RowI w4.heap.size w.heap.size 3 w lv P
theorem CI.push {w1 wT w4 w:World} {tv out lv:Value} {T:List Bool} {lo hi j:Nat} {L:List (List Int)} {P:List Int} {K:Value→World→Prop} (h:CI w1 wT w4 w tv out lv T lo hi L P) (hj:j<T.length) (hj60:j≤60) (hP:P.length≤60)
   (k:∀ v' w',CI w1 wT w4 w' tv out v' (T.set j true) lo hi L (P++[(j:Int)])→K v' w') :
   OP tp (Instr.buildSlice 25 1 #[(0,.int .i64 (j:Int))]) w λs w=>OP tp (Builtin.append_ #[25,25] 25 [lv,s].toArray) w λx w=>RD tp (Instr.indexAt 85 tv (.int .i64 (j:Int))) w λa=>OPU tp (Instr.storeAt 4 a (.bool true)) w λw=>K x w:=by
 have hs1:=h.s1;have hs2:=h.s2;have hs3:=h.s3;have hs4:=h.s4;have hs5:=h.s5;refine zcn (lo2:=w.heap.size) (hi2:=w.heap.size) (x:=(j:Int)) u25 ty3 z3 zc3 (by decide) h.row hs4 (zex _ _ (by unfold I64;omega)) (lr _) hs4 (by rw [zak];omega) (by omega) λv5 w5 hc5 hr5=>?_;have hsz5:=hc5.size;obtain ⟨F,hM,hF⟩:=h.told.chg hc5 (by omega);refine zfv u85 ty4 hM hj λb o G hL=>?_;refine ze9 (upd:=λy=>T.set j y) (y':=true) ty4 hL zjE λw6 F6 hc6 hm6 hF6=>?_;have hcI:=hc6.toI hF;have hsz6:=hcI.size;refine k v5 w6 ⟨(h.ext.chgI hc5 (by omega)).chgI hcI (lr _),⟨F6,hm6,λb hb=>hF b (hF6 b hb)⟩,hs1,hs2,hs3,by omega,hs5,(h.out.chg hc5 (by omega)).chg hcI (by omega),(hr5.chg hcI (by omega)).mono (lr _) hsz6⟩
theorem zuW {way:Nat→Nat→Prop} {told:Nat→Prop} {i j m:Nat} (h:OkK way told i m) (hj:j≤m):OkK way told i j:=⟨h.1,λx hx=>h.2 x (by omega)⟩
theorem zrr {w W1:World} {v1:Value} {n:Nat} {A:List DArc} (h1:Is W1 v1 A) (e1:Ext W1 w) (hn:n≤60) (hA:∀ a∈A,(0≤a.fr∧a.fr<n)∧0≤a.to∧a.to<n) (hl:A.length≤2000) :
   CALL tp 87 [.int .i64 (n:Int),v1] w λr w'=>Ext w w'∧Own w.heap.size w' r ((znD n (RP (nxA n A))).map za9):=by
 refine F87_call ?_;unfold F87;refine zaQ (α:=List Int) u33 zaK λa8 wa hxa hra=>?_;refine (zgz h1 (e1.trans hxa) hn hA hl).mono ?_;rintro _ wb ⟨hxb,rfl⟩;refine za1 ?_;refine zcd (λh=>by cases h) (λ_=>?_);refine (zkj h1 ((e1.trans hxa).trans hxb) hn hA hl).mono ?_;rintro v22 w1 ⟨hx1,ho1⟩;have hWay:=ho1.is;have hWl:(zfB (nxA n A) n).length=n:=znR;have hWr:∀ i (h:i<(zfB (nxA n A) n).length),((zfB (nxA n A) n)[i]).length=n:=λi h=>by rw [zhA,zaD]
 have hWg:∀ i (h:i<(zfB (nxA n A) n).length) x (hx:x<((zfB (nxA n A) n)[i]).length),((zfB (nxA n A) n)[i])[x]=true↔RP (nxA n A) i x:=λi h x hx=>zqm h hx;have htr:∀ i j k,RP (nxA n A) i j→RP (nxA n A) j k→RP (nxA n A) i k:=λ_ _ _=>RP.trans;generalize zfB (nxA n A) n=ws at *;generalize RP (nxA n A)=way at *;have hxw1:=(hxa.t hxb).trans hx1;have hsw1:=hxw1.size;refine zfw (α:=Bool) u85 ty4 rfl rfl zx0 (by omega) (by omega) λwT hxT hrT=>?_;have hsT:=hxT.size;generalize htv:(Value.slice (some ⟨w1.heap.size,0,none⟩) n n)=tv at *;have hoT:=hrT.own;rw [show List.replicate n (RepZ.zv:Bool)=zdf n λ_=>False from zeX n λ_=>id] at hoT
 have hl0:zdB n (λ_=>False)=n:=by
   unfold zdB zcr;rw [List.filter_eq_self.2 (λa _=>by simp),List.length_range]
 refine zat n (λk us w'=>∃ out f told L lo hi,us=[out,.int .i64 ((zdB n told:Nat):Int)]∧f+k=n∧zdB n told≤f∧znD n way=L++zdE n way f told∧L.length=k∧Whole way told∧Ext w1 w'∧OwnI w1.heap.size wT.heap.size w' tv (zdf n told)∧wT.heap.size≤lo∧lo≤w'.heap.size∧hi≤w'.heap.size∧RowI lo hi 25 w' out (L.map za9)) 0 (z0 _) ⟨.slice (some a8) 0 0,n,λ_=>False,[],wT.heap.size,wT.heap.size,by rw [hl0],rfl,zi6,rfl,rfl,Whole.start,hxT,hoT,lr _,Nat.le_refl _,lr _,zcw _ _ _ _ _⟩ ?_;rintro k mk q w2 hkm ⟨out,f,told,L,lo,hi,hq,hfk,hlf,hcL,hLl,hwh,hx2,ho2,hlo,hlo2,hhi,hr2⟩;obtain ⟨hq1,hq2⟩:=zd4 hq;rw [hq1,hq2];have hs2:=hx2.size;have hll:zdB n told≤n:=zi6;refine zb1 ?_;refine br (λhpos=>?_) (λhzero=>?_)
 case refine_2=>rw [zgR (zrb (by omega)),List.append_nil] at hcL;rw [hcL];exact ⟨hxw1.t hx2,hr2.own.own.mono (by omega)⟩
 obtain ⟨i1,hnx⟩:=zk5 (told:=told) htr (show 0<zdB n told by omega);refine zat n (λi us w'=>w'=w2∧i≤n∧us=[out,.int .i64 ((zdB n told:Nat):Int),.int .i64 (i:Int)]∧∀ j,j<i→¬OkC n way told j) 0 (z0 _) ⟨rfl,z0 _,rfl,λj hj=>by omega⟩ ?_;rintro i mi q9 w3 hmi ⟨rfl,hil,hq9,hno⟩;obtain ⟨hq91,hq92,hq93⟩:=zxw hq9;rw [hq91,hq92,hq93];refine zaf ?_;refine br (λhlt=>?_) (λhge=>?_)
 case refine_2=>have h:=zgn hnx;exact absurd h (hno i1 (by have:=h.1;omega))
 have hi':i<n:=by omega
 have hTl:(zdf n told).length=n:=zaD
 have hTg:∀ x (hx:x<(zdf n told).length),(zdf n told)[x]=true↔told x:=λx hx=>by
   rw [←zbK hx,zb6];exact ⟨λh=>h.2,λh=>⟨by omega,h⟩⟩
 refine zad (i:=i) u85 ty4 ho2.is (by omega) λb4 o4 hA4=>?_;refine zby ty4 hA4 (Ext.refl _) ?_;refine za1 ?_;refine JOIN.mk (λus w'=>w'=w3∧∃ b,us=[.bool b]∧(b=true↔OkC n way told i)) ?_ ?_
 · refine zat n (λj us w'=>w'=w3∧j≤n∧∃ b,us=[.bool b,.int .i64 (j:Int)]∧(b=true↔OkK way told i j)) 0 (z0 _) ⟨rfl,z0 _,_,rfl,?_⟩ ?_
   · rw [Bool.not_eq_true',←Bool.not_eq_true,hTg]
     exact ⟨λh=>⟨h,λx hx=>by omega⟩,λh=>h.1⟩
   rintro j mj q13 w4 hmj ⟨rfl,hjl,b,hq13,hb⟩;obtain ⟨hq131,hq132⟩:=zd4 hq13;rw [hq131,hq132];refine zaf ?_;refine br (λhlt2=>?_) (λhge2=>?_)
   case refine_2=>
     have hje:j=n:=by omega
     rw [hje] at hb;exact ⟨rfl,b,rfl,hb.trans (ztA hi')⟩
   have hj:j<n:=by omega
   refine zcd (λht=>?_) (λhf=>?_)
   case refine_2=>refine ⟨rfl,b,rfl,?_⟩;rw [hf];refine ⟨(λh=>by cases h),λh=>?_⟩;have:=hb.2 (zuW ((ztA hi').2 h) (by omega));rw [hf] at this;cases this
   have hK:=hb.1 ht;have hsucc:=zuU (way:=way) (told:=told) (i:=i) (j:=j);refine zim (i:=i) (j:=j) hWay hx2 (by omega) (by rw [hWr];omega) ?_;have hw1:=hWg i (by omega) j (by rw [hWr];omega);refine za1 ?_;refine zcd (λhn1=>?_) (λhy1=>?_)
   · rw [Bool.not_eq_true',←Bool.not_eq_true,hw1] at hn1
     refine zaB ?_;exact ⟨mj-1,by omega,j+1,by omega,rfl,by omega,true,rfl,⟨λ_=>hsucc.2 ⟨hK,λh=>absurd h hn1⟩,λ_=>rfl⟩⟩
   rw [Bool.not_eq_false',hw1] at hy1;refine zim (i:=j) (j:=i) hWay hx2 (by omega) (by rw [hWr];omega) ?_;have hw2:=hWg j (by omega) i (by rw [hWr];omega);refine zcd (λhy2=>?_) (λhn2=>?_)
   · refine zaB ?_
     exact ⟨mj-1,by omega,j+1,by omega,rfl,by omega,true,rfl,⟨λ_=>hsucc.2 ⟨hK,λ_=>.inl (hw2.1 hy2)⟩,λ_=>rfl⟩⟩
   have hn2':¬way j i:=λh=>by rw [hw2.2 h] at hn2;cases hn2
   refine zad (i:=j) u85 ty4 ho2.is (by omega) λb5 o5 hA5=>?_;refine zby ty4 hA5 (Ext.refl _) ?_;refine zaB ?_;refine ⟨mj-1,by omega,j+1,by omega,rfl,by omega,_,rfl,?_⟩;rw [hTg,hsucc];exact ⟨λh=>⟨hK,λ_=>.inr h⟩,λh=>(h.2 hy1).resolve_left hn2'⟩
 rintro q16 w4 ⟨rfl,b,hq16,hb⟩;try replace hq16:=zbG hq16
 rw [hq16];refine za1 ?_;refine zcd (λhnb=>?_) (λhyb=>?_)
 · have hnok:¬OkC n way told i:=λh=>by rw [hb.2 h] at hnb;cases hnb
   refine zaB ?_;refine ⟨mi-1,by omega,i+1,by omega,rfl,by omega,rfl,λj hj=>?_⟩;rcases Nat.lt_or_eq_of_le (Nat.lt_succ_iff.1 hj) with h | rfl
   · exact hno j h
   exact hnok
 have hok:OkC n way told i:=hb.1 (by simpa using hyb);have hnxi:=zii hok hno;obtain ⟨f',hcf,hlf',hff⟩:=zgS hlf hnxi;have hleft:=zqc (n:=n) hwh hok.2.1;refine zaQ (α:=Int) u25 ty3 λa9 w5 hx5 hr5=>?_;have hs5:=hx5.size
 have hCI0:CI w1 wT w5 w5 tv out (.slice (some a9) 0 0) (zdf n (zki way told i 0)) lo hi (L.map za9) (za9 (zcr 0 (zbV way i))):=
   ⟨hx2.t hx5,by rw [←zro];exact ho2.ext hx5,hsT,hlo,by omega,lr _,by omega,hr2.ext hx5,zcw _ _ _ _ _⟩
 refine zat n (λj us w'=>∃ lv,us=[lv,.int .i64 (j:Int)]∧j≤n∧CI w1 wT w5 w' tv out lv (zdf n (zki way told i j)) lo hi (L.map za9) (za9 (zcr j (zbV way i)))) 0 (z0 _) ⟨_,rfl,z0 _,hCI0⟩ ?_;rintro j mj q19 w6 hmj ⟨lv,hq19,hjl,hCI⟩;obtain ⟨hq191,hq192⟩:=zd4 hq19;rw [hq191,hq192];have hsl:(zcr j (zbV way i)).length≤j:=zc6;refine zaf ?_;refine br (λhlt2=>?_) (λhge2=>?_)
 · have hj:j<n:=by omega
   refine zag ?_;refine br (λheq=>?_) (λhne=>?_)
   · have hp:zbV way i j:=.inl (by omega)
     refine hCI.push (by rw [zaD];exact hj) (by omega) (by rw [zaj];omega) λv' w' hC'=>?_;rw [znT hj hp,show za9 (zcr j (zbV way i))++[(j:Int)]=za9 (zcr (j+1) (zbV way i)) by rw [zea hp,zcR];rfl] at hC';refine zaB ?_;exact ⟨mj-1,by omega,j+1,by omega,v',rfl,by omega,hC'⟩
   have hnext:¬zbV way i j→∃ m',m'<mj∧∃ k',k'+m'=n∧∃ lv',[lv,Value.int .i64 ((j+1:Nat):Int)]=[lv',.int .i64 (k':Int)]∧k'≤n∧CI w1 wT w5 w6 tv out lv' (zdf n (zki way told i k')) lo hi (L.map za9) (za9 (zcr k' (zbV way i))):=λhp=>by
     rw [zuV hp,←zeW hp] at hCI;exact ⟨mj-1,by omega,j+1,by omega,lv,rfl,by omega,hCI⟩
   refine zim (i:=i) (j:=j) hWay hCI.ext (by omega) (by rw [hWr];omega) ?_;have hw1:=hWg i (by omega) j (by rw [hWr];omega);refine zwP (λhy1=>?_) (λhn1=>?_)
   · refine zim (i:=j) (j:=i) hWay hCI.ext (by omega) (by rw [hWr];omega) ?_
     have hw2:=hWg j (by omega) i (by rw [hWr];omega);refine zcd (λhy2=>?_) (λhn2=>?_)
     · have hp:zbV way i j:=.inr ⟨hw1.1 hy1,hw2.1 hy2⟩
       refine hCI.push (by rw [zaD];exact hj) (by omega) (by rw [zaj];omega) λv' w' hC'=>?_;rw [znT hj hp,show za9 (zcr j (zbV way i))++[(j:Int)]=za9 (zcr (j+1) (zbV way i)) by rw [zea hp,zcR];rfl] at hC';refine zaB ?_;exact ⟨mj-1,by omega,j+1,by omega,v',rfl,by omega,hC'⟩
     refine zaB ?_;refine hnext λhp=>?_;rcases hp with h | h
     · exact hne (by omega)
     rw [hw2.2 h.2] at hn2;cases hn2
   refine zaB ?_;refine hnext λhp=>?_;rcases hp with h | h
   · exact hne (by omega)
   rw [hw1.2 h.1] at hn1;cases hn1
 have hje:j=n:=by omega
 rw [hje,ztB] at hCI;have hsn:(zcr n (zbV way i)).length≤n:=zc6;have hc4:=hCI.s4;refine zae u25 hCI.row.is ?_;refine za0 (by rw [zaj];unfold I64;omega) ?_;refine zcn (lo2:=w5.heap.size) (hi2:=w6.heap.size) (x:=za9 (zcr n (zbV way i))) u33 zaK z25 zt5 (by decide) hCI.out (by omega) hCI.row.own (by omega) (by omega) (by rw [zak,List.length_map];omega) (by rw [List.length_map];omega) λv54 w9 hc9 hr9=>?_;have hs9:=hc9.size;refine ⟨mk-1,by omega,k+1,by omega,v54,f',zgQ way told i,L++[zcr n (zbV way i)],lo,w9.heap.size,?_,by omega,hlf',by rw [hcL,hcf,List.append_assoc];rfl,by simp [hLl],hwh.more htr,hCI.ext.chgI hc9 (by omega),hCI.told.chg hc9 (by omega),hlo,by omega,lr _,?_⟩
 · have:((zdB n told:Nat):Int)-(((za9 (zcr n (zbV way i))).length:Nat):Int)=((zdB n (zgQ way told i):Nat):Int):=by rw [zaj];omega
   rw [this]
 rw [List.map_append];exact hr9
def F142 (a0 a1:Value) (w:World) (R:VW):Prop:=
 rB .lss 3 T0 U0 a0 (iV 0) w λx8=>
 BR x8
 (R vF w)
 (rB .gtr 3 T0 U0 a0 (iV 60) w λx11=>
 BR x11
 (R vF w)
 (rN 68 3 a1 w λx15=>
 rB .gtr 3 T0 U0 x15 (iV 2000) w λx16=>
 BR x16
 (R vF w)
 (rN 68 3 a1 w λx19=>
 LOOPI [20] [(iV 0)] w λu4 w n4=>
 rC (u4 20) x19 w λx21=>
 BR x21
 (rX 68 a1 (u4 20) w λx22=>
 rL 112 x22 w λx23=>
 oP (aL 112) w λx6 w=>
 oS 112 x6 x23 w λw=>
 rF 112 x6 0 w λx24=>
 rL 3 x24 w λx25=>
 rB .lss 3 T0 U0 x25 (iV 0) w λx26=>
 BR x26
 (R vF w)
 (rF 112 x6 0 w λx28=>
 rL 3 x28 w λx29=>
 rB .geq 3 T0 T0 x29 a0 w λx31=>
 BR x31
 (R vF w)
 (rF 112 x6 1 w λx34=>
 rL 3 x34 w λx35=>
 rB .lss 3 T0 U0 x35 (iV 0) w λx36=>
 BR x36
 (R vF w)
 (rF 112 x6 1 w λx39=>
 rL 3 x39 w λx40=>
 rB .geq 3 T0 T0 x40 a0 w λx42=>
 BR x42
 (R vF w)
 (rI (u4 20) w λx44=>
 n4 [x44] w)))))
 (R vT w))))
theorem F142_call {a0 a1 w R} (h:F142 a0 a1 w R):cL 142 [a0,a1] w R:=co (g:=(kf [] [(4,35184371040336,[20])] [])) Tryz.func142 h
def F76 (a0 a1 a2:Value) (w:World) (R:VW):Prop:=
 cL 142 [a0,a1] w λx12 w=>
 rT x12 w λx13=>
 BR x13
 (R vF w)
 (cL 79 [a0,a1] w λx16 w=>
 rN 25 3 a2 w λx18=>
 LOOPI [19] [(iV 0)] w λu5 w n5=>
 rC (u5 19) x18 w λx20=>
 BR x20
 (rX 25 a2 (u5 19) w λx21=>
 rL 3 x21 w λx22=>
 rB .geq 3 T0 U0 x22 (iV 0) w λx24=>
 BR x24
 (rC x22 a0 w λx28=>
 BR x28
 (rX 106 x16 x22 w λx33=>
 rL 108 x33 w λx34=>
 rD (convert 3 77 x22) w λx36=>
 rB .shr 108 T0 T0 x34 x36 w λx37=>
 rB .and 108 T0 U0 x37 (Value.int .u64 1) w λx38=>
 rB .eql 108 T0 U0 x38 (Value.int .u64 1) w λx39=>
 BR x39
 (R vT w)
 (rI (u5 19) w λx41=>
 n5 [x41] w))
 (rI (u5 19) w λx41=>
 n5 [x41] w))
 (rI (u5 19) w λx41=>
 n5 [x41] w))
 (R vF w))
theorem F76_call {a0 a1 a2 w R} (h:F76 a0 a1 a2 w R):cL 76 [a0,a1,a2] w R:=co (g:=(kf [] [(5,4398045987392,[19])] [])) Tryz.func76 h
def F88 (a0 a1 a2:Value) (w:World) (R:VW):Prop:=
 cL 156 [a0,a1] w λx11 w=>
 rT x11 w λx12=>
 BR x12
 (R vF w)
 (cL 157 [a0,a1] w λx15 w=>
 LOOPI [8] [(iV 0)] w λu5 w n5=>
 rN 25 3 a2 w λx18=>
 rC (u5 8) x18 w λx19=>
 BR x19
 ((λw=>rX 25 a2 (u5 8) w λx24=>
 rL 3 x24 w λx25=>
 rB .sub 3 T0 U0 a0 (iV 1) w λx27=>
 cL 151 [x25,(iV 0),x27] w λx28 w=>
 BR x28
 (rX 25 a2 (u5 8) w λx33=>
 rL 3 x33 w λx34=>
 rX 138 x15 x34 w λx35=>
 rL 85 x35 w λx36=>
 rX 25 a2 (u5 8) w λx39=>
 rL 3 x39 w λx40=>
 rX 85 x36 x40 w λx41=>
 rL 4 x41 w λx42=>
 BR x42
 (R vT w)
 (rI (u5 8) w λx21=>
 n5 [x21] w))
 (rI (u5 8) w λx21=>
 n5 [x21] w)) (World.drew1 w))
 (R vF w))
theorem F88_call {a0 a1 a2 w R} (h:F88 a0 a1 a2 w R):cL 88 [a0,a1,a2] w R:=co (g:=(kf [] [(5,17592185979200,[8])] [(7,[0,1,2,3,4,5,6,7,8,9,10,11,12,13,14,15,16,17,18,19,20,21],0)])) Tryz.func88 h
open Rep (rep)
theorem zkB {w W1:World} {v1:Value} {n:Nat} {A:List DArc} (h1:Is W1 v1 A) (e1:Ext W1 w) (hn:n≤60) (hA:∀ a∈A,(0≤a.fr∧a.fr<n)∧0≤a.to∧a.to<n) (hl:A.length≤2000) :
   CALL tp 142 [.int .i64 (n:Int),v1] w λr w'=>Ext w w'∧r=.bool true:=by
 refine F142_call ?_;unfold F142;refine zaf ?_;refine br (λh=>by omega) (λ_=>?_);refine zb1 ?_;refine br (λh=>by omega) (λ_=>?_);refine zae u68 h1 ?_;refine zb1 ?_;refine br (λh=>by omega) (λ_=>?_);refine zae u68 h1 ?_;refine zat A.length (λk us w'=>us=[.int .i64 (k:Int)]∧k≤A.length∧Ext w w') 0 (z0 _) ⟨rfl,z0 _,Ext.refl _⟩ ?_;rintro k mk q w3 hkm ⟨hq,hkl,hx3⟩;try replace hq:=zbG hq
 rw [hq];refine zaf ?_;refine br (λhlt=>?_) (λhge=>?_)
 case refine_2=>exact ⟨hx3,rfl⟩
 have hk:k<A.length:=by omega
 obtain ⟨⟨hf0,hf1⟩,ht0,ht1⟩:=hA _ (List.getElem_mem hk);refine zad u68 zdU h1 hk λb3 o3 hA3=>?_;refine zab zdU hA3 (e1.trans hx3) λv17 h17=>?_;refine zcX zt6 rfl zdU rfl h17 (e1.trans hx3) λw4 hx4 hA4 hV4=>?_;refine zaa zjk ?_;refine zac ty3 (zfW hA4) (Ext.refl _) λ_=>?_;refine zaf ?_;refine br (λh=>by omega) (λ_=>?_);refine zaa zjk ?_;refine zac ty3 (zfW hA4) (Ext.refl _) λ_=>?_;refine zbW ?_;refine br (λh=>by omega) (λ_=>?_);refine zaa zjl ?_;refine zac ty3 (zfX hA4) (Ext.refl _) λ_=>?_;refine zaf ?_;refine br (λh=>by omega) (λ_=>?_);refine zaa zjl ?_;refine zac ty3 (zfX hA4) (Ext.refl _) λ_=>?_;refine zbW ?_;refine br (λh=>by omega) (λ_=>?_);refine zaB ?_;exact ⟨mk-1,by omega,k+1,by omega,rfl,by omega,hx3.t hx4⟩
theorem zmi {w W1 W2:World} {v1 v2:Value} {n:Nat} {A:List DArc} {p:List Nat} (h1:Is W1 v1 A) (e1:Ext W1 w) (h2:Is W2 v2 (za9 p)) (e2:Ext W2 w) (hn:n≤60) (hA:∀ a∈A,(0≤a.fr∧a.fr<n)∧0≤a.to∧a.to<n) (hl:A.length≤2000) (hp:∀ x∈p,x<n) (hpl:p.length≤60) :
   CALL tp 76 [.int .i64 (n:Int),v1,v2] w λr w'=>Ext w w'∧∃ b,r=.bool b∧(b=true↔zqd (nxA n A) p):=by
 refine F76_call ?_;unfold F76;refine (zkB h1 e1 hn hA hl).mono ?_;rintro _ w1 ⟨hx1,rfl⟩;refine za1 ?_;refine zcd (λh=>by cases h) (λ_=>?_);refine (zla h1 (e1.trans hx1) hn hA hl).mono ?_;rintro v16 w2 ⟨hx2,ho2⟩;have hWay:=ho2.is;refine zae u25 h2 ?_;rw [zaj];refine zat p.length (λk us w'=>us=[.int .i64 (k:Int)]∧k≤p.length∧Ext w2 w'∧∀ x∈p.take k,¬RP (nxA n A) x x) 0 (z0 _) ⟨rfl,z0 _,Ext.refl _,by simp⟩ ?_;rintro k mk q w3 hkm ⟨hq,hkl,hx3,hno⟩;try replace hq:=zbG hq
 rw [hq];refine zaf ?_;refine br (λhlt=>?_) (λhge=>?_)
 case refine_2=>
   have hke:k=p.length:=by omega
   rw [hke,List.take_length] at hno;exact ⟨(hx1.t hx2).trans hx3,false,rfl,(λh=>by cases h),λ⟨x,hx,hr⟩=>absurd hr (hno x hx)⟩
 have hk:k<p.length:=by omega
 have hpk:=hp _ (List.getElem_mem hk);refine zad (i:=k) u25 ty3 h2 (by rw [zaj];exact hk) λb3 o3 hA3=>?_;rw [zbz] at hA3;refine zac ty3 hA3 (((e2.trans hx1).trans hx2).trans hx3) λ_=>?_;refine zbW ?_;refine br (λ_=>?_) (λh=>by omega);refine zaf ?_;refine br (λ_=>?_) (λh=>by omega);refine zmf (i:=p[k]) hWay hx3 (by rw [znN];exact hpk) ?_;rw [znO];have h62:zcF (RP (nxA n A) p[k]) n<4611686018427387904:=zdX hn;refine zce (by kernel_rfl) u77 (by omega) ?_;refine zil h62 ?_;refine zik (n:=1) (Nat.lt_of_le_of_lt (znP _ _) h62) (by omega) ?_;refine zag ?_;refine br (λhb=>?_) (λhb=>?_)
 · rw [zrG,zaY] at hb
   exact ⟨(hx1.t hx2).trans hx3,true,rfl,λ_=>⟨_,List.getElem_mem hk,hb.2⟩,λ_=>rfl⟩
 refine zaB ?_;refine ⟨mk-1,by omega,k+1,by omega,rfl,by omega,hx3,λx hx=>?_⟩;rw [tk hk] at hx;rcases List.mem_append.1 hx with hx | hx
 · exact hno x hx
 simp only [List.mem_singleton] at hx;subst hx;exact λh=>hb (by rw [zrG,zaY];exact ⟨hpk,h⟩)
theorem zmj {w W1 W2:World} {v1 v2:Value} {n:Nat} {A:List DArc} {p:List Nat} (h1:Is W1 v1 A) (e1:Ext W1 w) (h2:Is W2 v2 (za9 p)) (e2:Ext W2 w) (hn:n≤60) (hA:∀ a∈A,(0≤a.fr∧a.fr<n)∧0≤a.to∧a.to<n) (hl:A.length≤2000) (hp:∀ x∈p,x<n) (hpl:p.length≤60) :
   CALL tp 88 [.int .i64 (n:Int),v1,v2] w λr w'=>Ext w w'∧∃ b,r=.bool b∧(b=true↔zqd (nxA n A) p):=by
 refine F88_call ?_;unfold F88;refine (zgz h1 e1 hn hA hl).mono ?_;rintro _ w1 ⟨hx1,rfl⟩;refine za1 ?_;refine zcd (λh=>by cases h) (λ_=>?_);refine (zkj h1 (e1.trans hx1) hn hA hl).mono ?_;rintro v16 w2 ⟨hx2,ho2⟩;have hWay:=ho2.is;refine zat p.length (λk us w'=>us=[.int .i64 (k:Int)]∧k≤p.length∧Ext w2 w'∧∀ x∈p.take k,¬RP (nxA n A) x x) 0 (z0 _) ⟨rfl,z0 _,Ext.refl _,by simp⟩ ?_;rintro k mk q w3 hkm ⟨hq,hkl,hx3,hno⟩;try replace hq:=zbG hq
 rw [hq];refine zae u25 h2 ?_;rw [zaj];refine zaf ?_;refine br (λhlt=>?_) (λhge=>?_)
 case refine_2=>
   have hke:k=p.length:=by omega
   rw [hke,List.take_length] at hno;exact ⟨(hx1.t hx2).trans hx3,false,rfl,(λh=>by cases h),λ⟨x,hx,hr⟩=>absurd hr (hno x hx)⟩
 have hk:k<p.length:=by omega
 have hpk:=hp _ (List.getElem_mem hk);have hxd:=zai w3;generalize World.drew1 w3=w4 at *;have hx4:=hx3.t hxd;have e4:=((e2.trans hx1).trans hx2).trans hx4;refine zad (i:=k) u25 ty3 h2 (by rw [zaj];exact hk) λb3 o3 hA3=>?_;rw [zbz] at hA3;refine zac ty3 hA3 e4 λ_=>?_;refine za0 (by unfold I64;omega) ?_;refine l01In_ok.mono ?_;rintro _ w5 ⟨hx5,rfl⟩;refine br (λ_=>?_) (λh=>absurd ⟨by omega,by omega⟩ h);refine zad (i:=k) u25 ty3 h2 (by rw [zaj];exact hk) λb6 o6 hA6=>?_;rw [zbz] at hA6;refine zac ty3 hA6 (e4.trans hx5) λ_=>?_;have hi:p[k]<(zfB (nxA n A) n).length:=by rw [znR];exact hpk
 refine zad (i:=p[k]) zwG zhF hWay hi λb7 o7 hA7=>?_;refine zab zhF hA7 (hx4.t hx5) λv7 h7=>?_;refine zad (i:=k) u25 ty3 h2 (by rw [zaj];exact hk) λb8 o8 hA8=>?_;rw [zbz] at hA8;refine zac ty3 hA8 (e4.trans hx5) λ_=>?_;have hj:p[k]<((zfB (nxA n A) n)[p[k]]).length:=by rw [zhA,zaD];exact hpk
 refine zad (i:=p[k]) u85 ty4 h7 hj λb9 o9 hA9=>?_;refine zby ty4 hA9 (hx4.t hx5) ?_;have hat:=zqm hi hj;refine zcd (λhb=>?_) (λhb=>?_)
 · exact ⟨((hx1.t hx2).trans hx4).trans hx5,true,rfl,λ_=>⟨_,List.getElem_mem hk,hat.1 hb⟩,λ_=>rfl⟩
 refine zaB ?_;refine ⟨mk-1,by omega,k+1,by omega,rfl,by omega,hx4.t hx5,λx hx=>?_⟩;rw [tk hk] at hx;rcases List.mem_append.1 hx with hx | hx
 · exact hno x hx
 simp only [List.mem_singleton] at hx;subst hx;exact λh=>by rw [hat.2 h] at hb;cases hb
def F39 (a0:Value) (w:World) (R:VW):Prop:=
 rN 70 3 a0 w λx8=>
 LOOPI [3,9] [(Value.slice none 0 0),(iV 0)] w λu3 w n3=>
 rC (u3 9) x8 w λx10=>
 BR x10
 (rX 70 a0 (u3 9) w λx11=>
 rL 110 x11 w λx12=>
 oP (aL 110) w λx5 w=>
 oS 110 x5 x12 w λw=>
 rF 110 x5 0 w λx13=>
 rL 3 x13 w λx14=>
 rF 110 x5 1 w λx15=>
 rL 3 x15 w λx16=>
 rD (Instr.build 112 #[(0,x14),(1,x16)]) w λx17=>
 oP (aL 112) w λx6 w=>
 oS 112 x6 x17 w λw=>
 rL 112 x6 w λx19=>
 cL 80 [(u3 3),x19] w λx20 w=>
 rT x20 w λx21=>
 BR x21
 (rL 112 x6 w λx23=>
 oP (bS 68 x23) w λx24 w=>
 oP (aP 68 (u3 3) x24) w λx25 w=>
 rI (u3 9) w λx26=>
 n3 [x25,x26] w)
 (rI (u3 9) w λx26=>
 n3 [(u3 3),x26] w))
 (R (u3 3) w)
theorem F39_call {a0 w R} (h:F39 a0 w R):cL 39 [a0] w R:=co (g:=(kf [] [(3,134217320,[3,9])] [])) Tryz.func39 h
open Rep (rep)
theorem zkk {w W1:World} {v1:Value} {c:DCode} (h1:Is W1 v1 (zec c)) (e1:Ext W1 w) (hc:CodeR c) :
   CALL tp 39 [v1] w λr w'=>Ext w w'∧∃ A,AInv (zec c) A∧Own w.heap.size w' r A:=by
 refine F39_call ?_;unfold F39;have hol:=zqa hc;have h6l:=hc.1.locks6;refine zae u70 h1 ?_;refine zat (zec c).length (λk us w'=>∃ out A,us=[out,.int .i64 (k:Int)]∧k≤(zec c).length∧Ext w w'∧RowI w.heap.size w'.heap.size 112 w' out A∧AInv ((zec c).take k) A) 0 (z0 _) ⟨_,[],rfl,z0 _,Ext.refl _,zcm _ _ _ _,by rw [List.take_zero];exact AInv.start⟩ ?_;rintro k mk q w2 hkm ⟨out,A,hq,hkl,hx2,hr2,hI⟩;obtain ⟨hq1,hq2⟩:=zd4 hq;rw [hq1,hq2];have hs2:=hx2.size;refine zaf ?_;refine br (λhlt=>?_) (λhge=>?_)
 case refine_2=>
   have hke:k=(zec c).length:=by omega
   rw [hke,List.take_length] at hI;exact ⟨hx2,A,hI,hr2.own.own⟩
 have hk:k<(zec c).length:=by omega
 have hso:((zec c).take k++[(zec c)[k]]).Pairwise ltO:=by
   rw [←tk hk];exact (zo6 c).sublist (List.take_sublist _ _)
 have hlenA:=zl7 h6l hI.pw (hI.rng hc);refine zad u70 zmJ h1 hk λb3 o3 hA3=>?_;refine zab zmJ hA3 (e1.trans hx2) λv12 h12=>?_;refine zcX zxx rfl zmJ rfl h12 (e1.trans hx2) λw3 hx3 hAt3 hV3=>?_;refine zaa zlr ?_;refine zac ty3 (zj6 hAt3) (Ext.refl _) λhI0=>?_;refine zaa zls ?_;refine zac ty3 (zj7 hAt3) (Ext.refl _) λhI1=>?_;refine zaX (cells:=#[.int .i64 (zec c)[k].fr,.int .i64 (zec c)[k].to]) (by kernel_rfl) ?_;have hIs:Is w3 (.agg #[.int .i64 (zec c)[k].fr,.int .i64 (zec c)[k].to]) (zgs (zec c)[k]):=zlb.2 ⟨rfl,hI0,hI1⟩;refine zcX zt6 rfl zdU rfl hIs (Ext.refl _) λw4 hx4 hAt4 hV4=>?_;refine zab zdU hAt4 (Ext.refl _) λv19 h19=>?_;have hr4:=(hr2.ext hx3).ext hx4;refine (zkA hr4.is (Ext.refl _) h19 (Ext.refl _)).mono ?_;rintro _ w5 ⟨hx5,rfl⟩;have hx25:=(hx3.t hx4).trans hx5;refine zav ?_;refine br (λhno=>?_) (λhyes=>?_)
 · refine zab zdU hAt4 hx5 λv23 h23=>?_
   have hs25:=hx25.size;refine zcn (lo2:=w5.heap.size) (hi2:=w5.heap.size) (x:=zgs (zec c)[k]) u68 zdU zxU zw1 (by decide) (hr4.ext hx5) (by omega) (zi4 (h23.ext hx5)) (by omega) (by omega) (by rw [zak];omega) (by omega) λv' w9 hc9 hr9=>?_;refine zaB ?_;refine ⟨mk-1,by omega,k+1,by omega,v',A++[zgs (zec c)[k]],rfl,by omega,(hx2.t hx25).chgI hc9 (lr _),hr9,?_⟩;rw [tk hk];exact hI.new hso hno
 have hyes:=Decidable.not_not.1 hyes;refine zaB ?_;refine ⟨mk-1,by omega,k+1,by omega,out,A,rfl,by omega,hx2.t hx25,(hr4.ext hx5).mono (lr _) hx25.size,?_⟩;rw [tk hk];exact hI.old hyes
theorem zmk {c:DCode} (hc:CodeR c) {A:List DArc} (h:AInv (zec c) A):(∀ a∈A,(0≤a.fr∧a.fr<c.locks.length)∧0≤a.to∧a.to<c.locks.length)∧A.length≤2000:=by
 have h1:AInv ((zec c).take (zec c).length) A:=by rw [List.take_length];exact h
 have h2:=h1.rng hc;have:=zl7 hc.1.locks6 h.pw h2;exact ⟨h2,by omega⟩
open Classical in
noncomputable def zpd (c:DCode) (k:Nat):List (List Nat):=((zbd c).take k).filter λp=>decide (zqd (nxL c) p)
theorem zuX {c:DCode} {k:Nat} (hk:k<(zbd c).length) (h:zqd (nxL c) (zbd c)[k]):zpd c (k+1)=zpd c k++[(zbd c)[k]]:=by
 unfold zpd;rw [tk hk,List.filter_append];simp [h]
theorem zwr {c:DCode} {k:Nat} (hk:k<(zbd c).length) (h:¬zqd (nxL c) (zbd c)[k]):zpd c (k+1)=zpd c k:=by
 unfold zpd;rw [tk hk,List.filter_append];simp [h]
theorem zqn (c:DCode) (k:Nat):(zpd c k).length≤k:=Nat.le_trans (List.length_filter_le _ _) (by rw [List.length_take];omega)
theorem zpe {c:DCode} {cs:List (List Int)} (hp:cs.Perm ((zpd c (zbd c).length).map za9)) (hs:cs.Pairwise λa b=>hd0 a<hd0 b):cs=(zeN c).map za9:=by
 refine zke hs (by rw [List.pairwise_map];exact zth c) λx=>?_;rw [hp.mem_iff];simp only [List.mem_map,zk7];unfold zpd;rw [List.take_length];simp only [List.mem_filter,decide_eq_true_eq]
theorem zuY {α:Type} {f:α→List Nat} {Z:List α} {z:α} (hz:z∈Z) (h:(Z.flatMap f).Nodup):(f z).Nodup:=by
 obtain ⟨l1,l2,rfl⟩:=List.append_of_mem hz;rw [List.flatMap_append,List.nodup_append] at h;have h2:=h.2.1;rw [List.flatMap_cons,List.nodup_append] at h2;exact h2.1
theorem ztC {w:World} {v:Value} {l:List (List Int)} {F:List Nat} (hM:Mine F w v l):∃ Z:List (List Nat×Value×List Int),l=Z.map (·.2.2)∧(∀ z∈Z,Mine z.1 w z.2.1 z.2.2)∧(Z.flatMap (·.1)).Nodup∧(∀ c∈Z.flatMap (·.1),c∈F) ∧
   (Z≠[]→∃ b o cap,v=.slice (some ⟨b,o,none⟩) l.length cap∧b∈F∧b∉Z.flatMap (·.1)∧w.rangeAt b o (Z.map (·.2.1))):=by
 obtain ⟨⟨c0,⟨a,cap,Fi,xs,rfl,h1,h2,hc,h4⟩,rfl⟩,hnd,hw⟩:=hM;obtain ⟨Z,rfl,rfl,rfl,hZ⟩:=zgT hc;rcases h4 with ⟨h4,rfl⟩ | ⟨b,o,rfl,rfl,hr,hbl⟩
 · have:Z=[]:=by simpa using h4
   subst this;exact ⟨[],rfl,by simp,by simp,by simp,λh=>absurd rfl h⟩
 rw [List.nodup_cons] at hnd;have hsub:∀ z∈Z,∀ c∈z.1,c∈Z.flatMap (·.1):=λz hz c hc=>List.mem_flatMap.2 ⟨z,hz,hc⟩;refine ⟨Z,rfl,λz hz=>⟨⟨_,hZ z hz,rfl⟩,?_,hw.sub λc hc=>List.mem_cons_of_mem _ (hsub z hz c hc)⟩,hnd.2,λc hc=>List.mem_cons_of_mem _ hc,λ_=>⟨b,o,cap,rfl,by simp,hnd.1,hr⟩⟩;exact zuY (f:=(·.1)) hz hnd.2
def F37 (a0:Value) (w:World) (R:VW):Prop:=
 (λw=>NIL a0 <|
 rF 101 a0 0 w λx10=>
 rF 28 x10 1 w λx11=>
 rL 24 x11 w λx12=>
 rN 24 3 x12 w λx13=>
 (λw_=>cL 40 [a0] w_ λx15 w=>
 Ext w_ w ∧
 (λw_=>cL 39 [x15] w_ λx16 w=>
 Ext w_ w ∧
 cL 38 [x13,x16] w λx19 w=>
 rN 33 3 x19 w λx20=>
 LOOPI [5,21] [(Value.slice none 0 0),(iV 0)] w λu4 w n4=>
 rC (u4 21) x20 w λx22=>
 BR x22
 (rX 33 x19 (u4 21) w λx23=>
 rL 25 x23 w λx24=>
 cL 76 [x13,x16,x24] w λx28 w=>
 BR x28
 (oP (bS 33 x24) w λx31 w=>
 oP (aP 33 (u4 5) x31) w λx32 w=>
 rI (u4 21) w λx33=>
 n4 [x32,x33] w)
 (rI (u4 21) w λx33=>
 n4 [(u4 5),x33] w))
 (cL 77 [(u4 5),(Value.func (.func 78) #[] #[])] w λx35 w=>
 R (u4 5) w)) w) w) (World.drew1 w)
theorem F37_call {a0 w R} (h:F37 a0 w R):cL 37 [a0] w R:=co (g:=(kf [] [(4,17177772192,[5,21])] [(1,[0,1,2,3,4,5,6,7,8,9,10],384)])) Tryz.func37 h
def F8 (a0:Value) (w:World) (R:VW):Prop:=
 oX 28 a0 w λx1 w=>
 rL 28 x1 w λx10=>
 cL 36 [x10] w λx11 w=>
 rE x11 0 w λx12=>
 rE x11 1 w λx13=>
 rT x13 w λx15=>
 BR x15
 (R (Value.tuple #[(Value.slice none 0 0),vF]) w)
 (cL 37 [x12] w λx18 w=>
 rN 33 3 x18 w λx19=>
 rB .gtr 3 T0 U0 x19 (iV 0) w λx20=>
 BR x20
 (R (Value.tuple #[(Value.slice none 0 0),vF]) w)
 ((λw=>rF 28 x1 1 w λx22=>
 rL 24 x22 w λx23=>
 rN 24 3 x23 w λx24=>
 (λw_=>cL 40 [x12] w_ λx26 w=>
 Ext w_ w ∧
 (λw_=>cL 39 [x26] w_ λx27 w=>
 Ext w_ w ∧
 (λw_=>cL 38 [x24,x27] w_ λx28 w=>
 Ext w_ w ∧
 rN 33 3 x28 w λx29=>
 LOOPI [6,30] [(Value.slice none 0 0),(iV 0)] w λu6 w n6=>
 rC (u6 30) x29 w λx31=>
 BR x31
 (rX 33 x28 (u6 30) w λx32=>
 rL 25 x32 w λx33=>
 oP (aP 25 (u6 6) x33) w λx36 w=>
 rI (u6 30) w λx37=>
 n6 [x36,x37] w)
 (R (Value.tuple #[(u6 6),vT]) w)) w) w) w) (World.drew1 w)))
theorem F8_call {a0 w R} (h:F8 a0 w R):cL 8 [a0] w R:=co (g:=(kf [] [(6,273804165440,[6,30])] [(5,[0,1,2,3,8,4,5,6,7],112)])) Tryz.func8 h
open Rep (rep)
theorem znU {α β:Type} {f:α→List β} {l:List α} {k:Nat} {x:β} (h:x∈(l.take k).flatMap f):x∈l.flatMap f:=by
 obtain ⟨z,hz,hx⟩:=List.mem_flatMap.1 h;exact List.mem_flatMap.2 ⟨z,List.mem_of_mem_take hz,hx⟩
theorem zrs {α:Type} {f:α→List Nat} {l:List α} {k:Nat} (hk:k<l.length) (hn:(l.flatMap f).Nodup):∀ c∈f l[k],c∉(l.take k).flatMap f:=λc hc h=>by
 have e:l=l.take k++l[k] :: l.drop (k+1):=by rw [←List.drop_eq_getElem_cons hk,List.take_append_drop]
 rw [e,List.flatMap_append,List.nodup_append] at hn;exact hn.2.2 c h c (by rw [List.flatMap_cons];exact List.mem_append_left _ hc) rfl
theorem zdP {α β:Type} {f:α→List β} {l:List α} {k:Nat} (hk:k<l.length):(l.take (k+1)).flatMap f=(l.take k).flatMap f++f l[k]:=by
 rw [tk hk,List.flatMap_append];simp
theorem ztD {w W0:World} {b:Nat} {c:DCode} (hW:WAt W0 b c) (e0:Ext W0 w) (hc:CodeR c) :
   CALL tp 37 [.pointer (some ⟨b,0,none⟩)] w λr w'=>Ext w w'∧Own w.heap.size w' r ((zeN c).map za9):=by
 refine F37_call ?_;unfold F37;have h6l:=hc.1.locks6;have hcode:=hW.wl.code;have hxd:=zai w;generalize World.drew1 w=w1 at *;refine NIL.mk rfl ?_;refine zaa zcK ?_;refine zaa zdD ?_;refine zab zc0 (zba hcode) (e0.t hxd) λv12 h12=>?_;refine zae u24 h12 ?_;refine (znM hW (e0.t hxd) hc).mono ?_;rintro v15 w2 ⟨hx2,ho2⟩;refine ⟨hx2,?_⟩;refine (zkk ho2.is (Ext.refl _) hc).mono ?_;rintro v16 w3 ⟨hx3,A,hAI,ho3⟩;refine ⟨hx3,?_⟩;obtain ⟨hAr,hAl⟩:=zmk hc hAI;refine (zkh ho3.is (Ext.refl _) (by omega) hAr hAl).mono ?_;rintro v19 w4 ⟨hx4,ho4⟩;rw [zhz hc hAI] at ho4;have hx03:=(hxd.t hx2).trans hx3;have hs3:=hx03.size;have hs4:=hx4.size;obtain ⟨F,hM,hF⟩:=ho4;change Mine F w4 v19 ((zbd c).map za9) at hM;have hll:=zfY c;refine zae u33 hM.is ?_;rw [List.length_map];obtain ⟨Z,hZl,hZ,hZn,hZF,hZs⟩:=ztC hM;have hZlen:Z.length=(zbd c).length:=by have:=congrArg List.length hZl;simpa using this.symm
 refine zat (zbd c).length (λk us w'=>∃ out FO,us=[out,.int .i64 (k:Int)]∧k≤(zbd c).length∧Ext w3 w'∧w4.heap.size≤w'.heap.size∧RowG FO 25 w' out ((zpd c k).map za9)∧FO.Nodup∧(∀ x∈FO,x∈(Z.take k).flatMap (·.1)∨w4.heap.size≤x)∧∀ x,x<w4.heap.size→x∉(Z.take k).flatMap (·.1)→w'.heap[x]?=w4.heap[x]?) 0 (z0 _) ⟨_,[],rfl,z0 _,hx4,lr _,.inl ⟨none,rfl,by simp [zpd],rfl⟩,List.nodup_nil,by simp,λ_ _ _=>rfl⟩ ?_;rintro k mk q w5 hkm ⟨out,FO,hq,hkl,hx5,hs5,hr5,hn5,hFO,hkeep⟩;obtain ⟨hq1,hq2⟩:=zd4 hq;rw [hq1,hq2];have hcl:=zqn c k
 have hFOge:∀ x∈FO,w3.heap.size≤x:=λx hx=>by
   rcases hFO x hx with h | h
   · exact hF x (hZF x (znU h))
   omega
 refine zaf ?_;refine br (λhlt=>?_) (λhge=>?_)
 case refine_2=>
   have hke:k=(zbd c).length:=by omega
   rw [hke] at hr5;have hown:OwnI w3.heap.size w5.heap.size w5 out ((zpd c (zbd c).length).map za9):=⟨FO,⟨hr5.own,hn5,hr5.wr⟩,λx hx=>⟨hFOge x hx,hr5.lt x hx⟩⟩
   have hin:∀ p∈zpd c (zbd c).length,p∈zbd c:=λp hp=>by
     unfold zpd at hp;exact List.mem_of_mem_take (List.mem_filter.1 hp).1
   refine (zuK hown (by rw [List.length_map];have:=zqn c (zbd c).length;omega) (λx hx=>?_) (λx hx=>?_) ?_).mono ?_
   · obtain ⟨p,hp,rfl⟩:=List.mem_map.1 hx
     obtain ⟨n,_,h2,_⟩:=zgo (hin p hp);intro e;have h3:p=[]:=List.eq_nil_of_length_eq_zero (by rw [←zaj,e];rfl);rw [h3] at h2;cases h2
   · obtain ⟨p,hp,rfl⟩:=List.mem_map.1 hx
     obtain ⟨n,h1,_,h2⟩:=zgo (hin p hp);rw [zeO h1];omega
   · rw [List.pairwise_map]
     unfold zpd;exact ((znI c).sublist (List.take_sublist _ _)).filter _
   rintro _ w6 ⟨hc6,cs',ho6,hp6,hs6⟩;rw [zpe hp6 hs6] at ho6;exact ⟨(hx03.t hx5).chgI hc6 hs3,ho6.own.mono hs3⟩
 have hk:k<(zbd c).length:=by omega
 have hkZ:k<Z.length:=by omega
 obtain ⟨b9,o9,cap,rfl,hbF,hbZ,hrZ⟩:=hZs (List.ne_nil_of_length_pos (by omega));have hzk:=hZ _ (List.getElem_mem hkZ)
 have hlk:Z[k].2.2=za9 (zbd c)[k]:=by
   have h1:((zbd c).map za9)[k]?=(Z.map (·.2.2))[k]?:=by rw [hZl]
   rw [List.getElem?_map,List.getElem?_map,List.getElem?_eq_getElem hk,List.getElem?_eq_getElem hkZ] at h1;simpa using h1.symm
 have hap:=zrs (f:=(·.1)) hkZ hZn;have hzk5:Mine Z[k].1 w5 Z[k].2.1 Z[k].2.2:=hzk.keep λx hx=>hkeep x (hzk.lt x hx) (hap x hx);have hb5:w5.heap[b9]?=w4.heap[b9]?:=hkeep b9 (hM.lt b9 hbF) λh=>hbZ (znU h)
 have hr9:w5.rangeAt b9 (o9+k*1) [Z[k].2.1]:=λj v hj=>by
   cases j with
   | zero=>
     simp only [List.getElem?_cons_zero,Option.some.injEq] at hj;subst hj;rw [World.cell?_of_block (w:=w4) hb5,Nat.mul_one,Nat.add_zero];exact hrZ k _ (by rw [List.getElem?_map,List.getElem?_eq_getElem hkZ];rfl)
   | succ j=>simp at hj
 refine za3 (v:=.pointer (some ⟨b9,o9+k*1,none⟩)) (λw' _=>by rw [zb2 u33 zaK (by omega) (by rw [List.length_map];omega)];simp) ?_
 refine ztW (α:=List Int) zaK (by
   obtain ⟨cs,hr,hv⟩:=hzk5.own;obtain ⟨v,rfl⟩:∃ v,cs=[v]:=List.length_eq_one_iff.1 (Rep.len hr);have:Z[k].2.1=v:=hv;rw [this];exact hr) hr9 ?_
 change CALL tp _ [_,_,Z[k].2.1] w5 _;rw [hlk] at hzk5;refine (zmi ho3.is hx5 hzk5.is (Ext.refl _) (by omega) hAr hAl (zfi (List.getElem_mem hk)).2 (by have:=(zfi (List.getElem_mem hk)).1;omega)).mono ?_;rintro _ w6 ⟨hx6,bb,rfl,hbb⟩;rw [zhz hc hAI] at hbb;have hs6:=hx6.size;have hr6:=hr5.keep λx hx=>hx6.heap (hr5.lt x hx);have hkeep6:∀ x,x<w4.heap.size→x∉(Z.take k).flatMap (·.1)→w6.heap[x]?=w4.heap[x]?:=λx hx hn=>(hx6.heap (by omega)).trans (hkeep x hx hn);refine zcd (λhy=>?_) (λhn=>?_)
 · have hcy:=hbb.1 hy
   refine zd9 (K:=λw1 r w2=>_) u33 zaK z25 zt5 (by decide) hr6 hn5 (hzk5.ext hx6) (λx hx hxF=>?_) (by rw [List.length_map,zak];omega) (by rw [List.length_map];omega) (λw7 v' w8 G' hx7 hc8 hR8 hN8 hs8=>?_) λs w7 _ h=>h
   · rcases hFO x hxF with h | h
     · exact hap x hx h
     have:=hzk.lt x hx;omega
   refine zaB ?_;refine ⟨mk-1,by omega,k+1,by omega,v',G',rfl,by omega,((hx5.t hx6).trans hx7).chg_trans hc8 hFOge,?_,?_,hN8,λx hx=>?_,λx hx hn=>?_⟩
   · have:=hx7.size;have:=hc8.size;omega
   · rw [zuX hk hcy,List.map_append];exact hR8
   · rw [zdP hkZ]
     rcases hs8 x hx with h | h | h
     · rcases hFO x h with h | h
       · exact .inl (List.mem_append_left _ h)
       exact .inr h
     · exact .inl (List.mem_append_right _ h)
     exact .inr (by omega)
   rw [zdP hkZ] at hn;have hn1:x∉(Z.take k).flatMap (·.1):=λh=>hn (List.mem_append_left _ h)
   have hnF:x∉FO:=λh=>by
     rcases hFO x h with h | h
     · exact hn1 h
     omega
   have h7:=hx7.size;rw [hc8.block x (by omega) hnF,hx7.heap (by omega)];exact hkeep6 x hx hn1
 have hcy:¬zqd (nxL c) (zbd c)[k]:=λh=>by rw [hbb.2 h] at hn;cases hn
 refine zaB ?_;refine ⟨mk-1,by omega,k+1,by omega,out,FO,rfl,by omega,hx5.t hx6,by omega,by rw [zwr hk hcy];exact hr6,hn5,λx hx=>?_,λx hx hn=>?_⟩
 · rw [zdP hkZ]
   rcases hFO x hx with h | h
   · exact .inl (List.mem_append_left _ h)
   exact .inr h
 rw [zdP hkZ] at hn;exact hkeep6 x hx λh=>hn (List.mem_append_left _ h)
open Classical in
noncomputable def zin (c:DCode):List (List Int):=if CodeR c then (zeN c).map za9 else []
def okR (c:DCode):Prop:=CodeR c∧zeN c=[]
open Classical in
noncomputable def zkl (c:DCode):List Int:=if okR c then za9 (zwk c) else []
open Classical in
noncomputable def ztN (c:DCode):Bool:=decide (okR c)
theorem zrt {l:List (List Nat)} {k:Nat} (hk:k<l.length):za9 ((l.take (k+1)).flatten)=za9 ((l.take k).flatten)++za9 l[k]:=by
 rw [tk hk,List.flatten_append,zcR];simp
theorem znV {c:DCode} (hc:CodeR c) (k:Nat):((zbd c).take k).flatten.length≤36:=by
 have h6:=hc.1.locks6;have h1:=znJ (m:=c.locks.length) (l:=(zbd c).take k) λp hp=>(zfi (List.mem_of_mem_take hp)).1;have h2:=zfY c;have h3:((zbd c).take k).length≤6:=by rw [List.length_take];omega
 have:((zbd c).take k).length*c.locks.length≤6*6:=Nat.mul_le_mul h3 h6;omega
theorem zml {w W0:World} {v0:Value} {c:DCode} (h0:Is W0 v0 c) (e0:Ext W0 w) :
   CALL tp 8 [v0] w λr w'=>Ext w w'∧∃ v,r=.tuple #[v,.bool (ztN c)]∧Own w.heap.size w' v (zkl c):=by
 refine F8_call ?_;unfold F8;refine zcb h0 e0 λw1 hx1 hA=>?_;refine zab zcv hA (Ext.refl _) λv6 h6=>?_;refine (zre h6 (Ext.refl _)).mono ?_;rintro r7 w2 ⟨hx2,hr⟩;have hs1:=hx1.size;have hs2:=hx2.size
 have hno:¬okR c→Ext w w2∧∃ v,Value.tuple #[.slice none 0 0,.bool false]=.tuple #[v,.bool (ztN c)]∧Own w.heap.size w2 v (zkl c):=λh=>
   ⟨hx1.t hx2,.slice none 0 0,by unfold ztN;simp only [h,decide_false],by unfold zkl;rw [if_neg h];exact zje rfl⟩
 rcases hr with ⟨hn,rfl⟩ | ⟨hc,b,rfl,hW⟩
 · refine zb0 rfl ?_
   refine zb0 rfl ?_;refine za1 ?_;refine zcd (λ_=>?_) (λh=>by cases h);exact hno λh=>hn h.1
 refine zb0 rfl ?_;refine zb0 rfl ?_;refine za1 ?_;refine zcd (λh=>by cases h) (λ_=>?_);refine (ztD hW (Ext.refl _) hc).mono ?_;rintro v18 w3 ⟨hx3,ho3⟩;refine zae u33 ho3.is ?_;rw [List.length_map];refine zb1 ?_;refine br (λhg=>?_) (λhg=>?_)
 · have h:¬okR c:=λh=>by rw [h.2] at hg;simp at hg
   exact ⟨(hx1.t hx2).trans hx3,.slice none 0 0,by unfold ztN;simp only [h,decide_false],by unfold zkl;rw [if_neg h];exact zje rfl⟩
 have hok:okR c:=⟨hc,List.eq_nil_of_length_eq_zero (by omega)⟩;have h6l:=hc.1.locks6;have hxd:=zai w3;generalize World.drew1 w3=w4 at *;refine zaa zdD ?_;refine zab zc0 (zba hA) ((hx2.t hx3).trans hxd) λv23 h23=>?_;refine zae u24 h23 ?_;refine (znM hW (hx3.t hxd) hc).mono ?_;rintro v26 w5 ⟨hx5,ho5⟩;refine ⟨hx5,?_⟩;refine (zkk ho5.is (Ext.refl _) hc).mono ?_;rintro v27 w6 ⟨hx6,A,hAI,ho6⟩;refine ⟨hx6,?_⟩;obtain ⟨hAr,hAl⟩:=zmk hc hAI;refine (zkh ho6.is (Ext.refl _) (by omega) hAr hAl).mono ?_;rintro v28 w7 ⟨hx7,ho7⟩;rw [zhz hc hAI] at ho7;change Own w6.heap.size w7 v28 ((zbd c).map za9) at ho7;refine ⟨hx7,?_⟩;have hx27:=(((hx2.t hx3).trans hxd).trans hx5).trans (hx6.t hx7);have hs27:=hx27.size;have hll:=zfY c;refine zae u33 ho7.is ?_;rw [List.length_map];refine zat (zbd c).length (λk us w'=>∃ out,us=[out,.int .i64 (k:Int)]∧k≤(zbd c).length∧Ext w7 w'∧RowI w7.heap.size w'.heap.size 3 w' out (za9 ((zbd c).take k).flatten)) 0 (z0 _) ⟨_,rfl,z0 _,Ext.refl _,by rw [List.take_zero];exact zcm _ _ _ _⟩ ?_;rintro k mk q w8 hkm ⟨out,hq,hkl,hx8,hr8⟩;obtain ⟨hq1,hq2⟩:=zd4 hq;rw [hq1,hq2];have hs8:=hx8.size;refine zaf ?_;refine br (λhlt=>?_) (λhge=>?_)
 · have hk:k<(zbd c).length:=by omega
   have hfl:=znV hc k;have hpl:=(zfi (List.getElem_mem hk)).1;refine zad (i:=k) u33 zaK ho7.is (by rw [List.length_map];exact hk) λb3 o3 hA3=>?_;refine zab zaK hA3 hx8 λv33 h33=>?_;rw [List.getElem_map] at h33;refine zhP u25 ty3 zc3 hr8 hs8 h33 hx8 (by rw [zaj,zaj,zak];omega) (by rw [zaj,zaj];omega) λv36 w9 hc9 hr9=>?_;refine zaB ?_;refine ⟨mk-1,by omega,k+1,by omega,v36,rfl,by omega,hx8.chgI hc9 (lr _),?_⟩;rw [zrt hk];exact hr9
 have hke:k=(zbd c).length:=by omega
 rw [hke,List.take_length] at hr8;refine ⟨(hx1.t hx27).trans hx8,out,by unfold ztN;simp only [hok,decide_true],?_⟩;unfold zkl;rw [if_pos hok];exact hr8.own.own.mono (by omega)
theorem znW {n:Nat} {way:Nat→Nat→Prop} (ht:∀ i j k,way i j→way j k→way i k):∀ (f:Nat) (told:Nat→Prop),Whole way told→zdB n told≤f →
   (zdE n way f told).flatten.length=zdB n told∧∀ i,i<n→¬told i→i∈(zdE n way f told).flatten
 | 0,told,hw,hf=>by
   refine ⟨by simp [zdE];omega,λi hi hti=>?_⟩;have:=zhy (p:=λi=>¬told i) hi hti;unfold zdB at hf;omega
 | f+1,told,hw,hf=>by
   cases e:zfA n way told with
   | none=>
     have h0:zdB n told=0:=by
       rcases Nat.eq_zero_or_pos (zdB n told) with h | h
       · exact h
       obtain ⟨i,hi⟩:=zk5 ht h;rw [e] at hi;cases hi
     refine ⟨by rw [zgR e];simp [h0],λi hi hti=>?_⟩;have:=zhy (p:=λi=>¬told i) hi hti;unfold zdB at h0;omega
   | some a=>
     have ho:=zgn e;obtain ⟨f',h1,h2,h3⟩:=zgS hf e;obtain rfl:f=f':=by omega
     obtain ⟨i1,i2⟩:=znW ht f (zgQ way told a) (hw.more ht) h2;rw [h1];refine ⟨by rw [List.flatten_cons,List.length_append,i1,zqc hw ho.2.1];omega,λi hi hti=>?_⟩;rw [List.flatten_cons,List.mem_append];by_cases hp:zbV way a i
     · exact .inl (zbq.2 ⟨hi,hp⟩)
     exact .inr (i2 i hi λh=>by
       rcases h with h | h
       · exact hti h
       exact hp h)
theorem zuZ {c:DCode} {i:Nat} (hi:i<c.locks.length):i∈zwk c:=
 (znW (n:=c.locks.length) (way:=RP (nxL c)) (λ_ _ _=>RP.trans) c.locks.length (λ_=>False) Whole.start zi6).2 i hi id
def F5 (a0:Value) (w:World) (R:VW):Prop:=
 rN 22 3 a0 w λx4=>
 rB .gtr 3 T0 U0 x4 (iV 1048576) w λx5=>
 R x5 w
theorem F5_call {a0 w R} (h:F5 a0 w R):cL 5 [a0] w R:=co (g:=(kf [] [] [])) Tryz.func5 h
theorem zxl {w:World} {v0:Value} {W0:World} {bs:(List UInt8)}  (h0:Is W0 v0 bs) (e0:Ext W0 w)  :
   CALL tp 5 [v0] w λr w'=>Ext w w'∧(r=.bool (decide ((1048576:Int)<bs.length))):=by
 refine F5_call ?_;unfold F5;have hln4:=zah h0;refine zae u22 h0 ?_;refine zb1 ?_;refine ⟨Ext.refl w,?_⟩;rfl
def F57 (a0 a1:Value) (w:World) (R:VW):Prop:=
 rN 25 3 a0 w λx7=>
 rN 25 3 a1 w λx9=>
 rB .neq 3 T0 T0 x7 x9 w λx10=>
 BR x10
 (R vF w)
 (LOOPI [5] [(iV 0)] w λu4 w n4=>
 rN 25 3 a0 w λx13=>
 rC (u4 5) x13 w λx14=>
 BR x14
 ((λw=>rX 25 a0 (u4 5) w λx19=>
 rL 3 x19 w λx20=>
 rX 25 a1 (u4 5) w λx23=>
 rL 3 x23 w λx24=>
 rB .neq 3 T0 T0 x20 x24 w λx25=>
 BR x25
 (R vF w)
 (rI (u4 5) w λx16=>
 n4 [x16] w)) (World.drew1 w))
 (R vT w))
theorem F57_call {a0 a1 w R} (h:F57 a0 a1 w R):cL 57 [a0,a1] w R:=co (g:=(kf [] [(4,67106864,[5])] [(6,[0,1,2,3,4,5,6,7,8],0)])) Tryz.func57 h
theorem zfZ {w:World} {v0:Value} {W0:World} {l1:(List Int)} {v1:Value} {W1:World} {l2:(List Int)}  (h0:Is W0 v0 l1) (e0:Ext W0 w) (h1:Is W1 v1 l2) (e1:Ext W1 w)  :
   CALL tp 57 [v0,v1] w λr w'=>Ext w w'∧(r=.bool (decide (l1=l2))):=by
 refine F57_call ?_;unfold F57;have hl1:=zah h0;have hln7:=zah h0;refine zae u25 h0 ?_;have hln9:=zah h1;refine zae u25 h1 ?_;refine zaV ?_;refine br (λc1=>?_) (λc1=>?_)
 · refine ⟨Ext.refl w,?_⟩
   have:l1≠l2:=λe=>c1 (by rw [e]);simp [this]
 refine zat (l1.length) (λk us w'=>us=[.int .i64 (k:Int)]∧Ext w w'∧(l1.take k=l2.take k)) (0) (by omega) ⟨by simp,Ext.refl w,by simp⟩ ?_;rintro k m4 uu4 w1_ hk4 ⟨hu,η1,hinv⟩;try replace hu:=zbG hu
 try rw [hu]
 try clear hu
 have hln13:=zah h0;refine zae u25 h0 ?_;refine zaf ?_;refine br (λc2=>?_) (λc2=>?_)
 · have η2:=zai w1_
   refine zad u25 ty3 h0 (by omega) λb19 o19 h19=>?_;refine zac ty3 h19 (e0.t (η1.t η2)) λhI20=>?_;refine zad u25 ty3 h1 (by omega) λb23 o23 h23=>?_;refine zac ty3 h23 (e1.trans (η1.t η2)) λhI24=>?_;refine zaV ?_;refine br (λc3=>?_) (λc3=>?_)
   · refine ⟨(η1.t η2),?_⟩
     have:l1≠l2:=λe=>c3 (by subst e;rfl);simp [this]
   refine zaB ?_;refine ⟨m4-1,by omega,k+1,by omega,by simp,(η1.t η2),?_⟩;rw [tk (by omega),tk (by omega),hinv,Decidable.not_not.1 c3]
 refine ⟨η1,?_⟩;rw [List.take_of_length_le (by omega),List.take_of_length_le (by omega)] at hinv;simp [hinv]
def F24 (a0 a1:Value) (w:World) (R:VW):Prop:=
 rN 33 3 a0 w λx7=>
 rN 33 3 a1 w λx9=>
 rB .neq 3 T0 T0 x7 x9 w λx10=>
 BR x10
 (R vF w)
 (LOOPI [5] [(iV 0)] w λu4 w n4=>
 rN 33 3 a0 w λx13=>
 rC (u4 5) x13 w λx14=>
 BR x14
 ((λw=>rX 33 a0 (u4 5) w λx19=>
 rL 25 x19 w λx20=>
 rX 33 a1 (u4 5) w λx23=>
 rL 25 x23 w λx24=>
 cL 57 [x20,x24] w λx25 w=>
 rT x25 w λx26=>
 BR x26
 (R vF w)
 (rI (u4 5) w λx16=>
 n4 [x16] w)) (World.drew1 w))
 (R vT w))
theorem F24_call {a0 a1 w R} (h:F24 a0 a1 w R):cL 24 [a0,a1] w R:=co (g:=(kf [] [(4,134215728,[5])] [(6,[0,1,2,3,4,5,6,7,8,9],0)])) Tryz.func24 h
theorem znX {w:World} {v0:Value} {W0:World} {l1:(List (List Int))} {v1:Value} {W1:World} {l2:(List (List Int))}  (h0:Is W0 v0 l1) (e0:Ext W0 w) (h1:Is W1 v1 l2) (e1:Ext W1 w)  :
   CALL tp 24 [v0,v1] w λr w'=>Ext w w'∧(r=.bool (decide (l1=l2))):=by
 refine F24_call ?_;unfold F24;have hl1:=zah h0;have hln7:=zah h0;refine zae u33 h0 ?_;have hln9:=zah h1;refine zae u33 h1 ?_;refine zaV ?_;refine br (λc1=>?_) (λc1=>?_)
 · refine ⟨Ext.refl w,?_⟩
   have:l1≠l2:=λe=>c1 (by rw [e]);simp [this]
 refine zat (l1.length) (λk us w'=>us=[.int .i64 (k:Int)]∧Ext w w'∧(l1.take k=l2.take k)) (0) (by omega) ⟨by simp,Ext.refl w,by simp⟩ ?_;rintro k m4 uu4 w1_ hk4 ⟨hu,η1,hinv⟩;try replace hu:=zbG hu
 try rw [hu]
 try clear hu
 have hln13:=zah h0;refine zae u33 h0 ?_;refine zaf ?_;refine br (λc2=>?_) (λc2=>?_)
 · have η2:=zai w1_
   refine zad u33 zaK h0 (by omega) λb19 o19 h19=>?_;refine zab zaK h19 (e0.t (η1.t η2)) λv20 h20=>?_;refine zad u33 zaK h1 (by omega) λb23 o23 h23=>?_;refine zab zaK h23 (e1.trans (η1.t η2)) λv24 h24=>?_;refine (zfZ h20 (e0.t (η1.t η2)) h24 (e1.trans (η1.t η2))).mono ?_;rintro _ w3_ ⟨η3,rfl⟩;refine zav ?_;refine br (λc3=>?_) (λc3=>?_)
   · refine ⟨(η1.t (η2.t η3)),?_⟩
     have:l1≠l2:=λe=>c3 (by subst e;rfl);simp [this]
   refine zaB ?_;refine ⟨m4-1,by omega,k+1,by omega,by simp,(η1.t (η2.t η3)),?_⟩;rw [tk (by omega),tk (by omega),hinv,Decidable.not_not.1 c3]
 refine ⟨η1,?_⟩;rw [List.take_of_length_le (by omega),List.take_of_length_le (by omega)] at hinv;simp [hinv]
def F19 (a0 a1:Value) (w:World) (R:VW):Prop:=
 oX 36 a0 w λx2 w=>
 oX 36 a1 w λx3 w=>
 rF 36 x2 0 w λx5=>
 rL 25 x5 w λx6=>
 rF 36 x3 0 w λx7=>
 rL 25 x7 w λx8=>
 cL 57 [x6,x8] w λx9 w=>
 BR x9
 (rF 36 x2 1 w λx11=>
 rL 25 x11 w λx12=>
 rF 36 x3 1 w λx13=>
 rL 25 x13 w λx14=>
 cL 57 [x12,x14] w λx15 w=>
 BR x15
 (rF 36 x2 2 w λx18=>
 rL 33 x18 w λx19=>
 rF 36 x3 2 w λx20=>
 rL 33 x20 w λx21=>
 cL 24 [x19,x21] w λx22 w=>
 R x22 w)
 (R vF w))
 (R vF w)
theorem F19_call {a0 a1 w R} (h:F19 a0 a1 w R):cL 19 [a0,a1] w R:=co (g:=(kf [] [] [])) Tryz.func19 h
theorem znY {w:World} {v0:Value} {W0:World} {s1:DState} {v1:Value} {W1:World} {s2:DState}  (h0:Is W0 v0 s1) (e0:Ext W0 w) (h1:Is W1 v1 s2) (e1:Ext W1 w)  :
   CALL tp 19 [v0,v1] w λr w'=>Ext w w'∧(r=.bool (decide (s1=s2))):=by
 refine F19_call ?_;unfold F19;refine zao zcT rfl h0 e0 λw1_ η1 hA2 hV2=>?_;refine zao zcT rfl h1 (e1.trans η1) λw2_ η2 hA3 hV3=>?_;refine zaa zel ?_;refine zab zaK (zbt hA2) η2 λv6 h6=>?_;refine zaa zel ?_;refine zab zaK (zbt hA3) (Ext.refl w2_) λv8 h8=>?_;refine (zfZ h6 η2 h8 (Ext.refl w2_)).mono ?_;rintro _ w3_ ⟨η3,rfl⟩;refine br (λc1=>?_) (λc1=>?_)
 · refine zaa zc2 ?_
   refine zab zaK (zbu hA2) (η2.t η3) λv12 h12=>?_;refine zaa zc2 ?_;refine zab zaK (zbu hA3) η3 λv14 h14=>?_;refine (zfZ h12 (η2.t η3) h14 η3).mono ?_;rintro _ w4_ ⟨η4,rfl⟩;refine br (λc2=>?_) (λc2=>?_)
   · refine zaa zaW ?_
     refine zab zd5 (zay hA2) (η2.t (η3.t η4)) λv19 h19=>?_;refine zaa zaW ?_;refine zab zd5 (zay hA3) (η3.t η4) λv21 h21=>?_;refine (znX h19 (η2.t (η3.t η4)) h21 (η3.t η4)).mono ?_;rintro _ w5_ ⟨η5,rfl⟩;refine ⟨(η1.t (η2.t (η3.t (η4.t η5)))),?_⟩;cases s1;cases s2;simp_all
   refine ⟨(η1.t (η2.t (η3.t η4))),?_⟩;cases s1;cases s2;simp_all
 refine ⟨(η1.t (η2.t η3)),?_⟩;cases s1;cases s2;simp_all
end Go.Proofs.YtakjaofncelghaaGreat
