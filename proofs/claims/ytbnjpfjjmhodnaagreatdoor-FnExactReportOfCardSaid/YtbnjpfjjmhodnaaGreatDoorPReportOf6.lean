/-
  Parts of the proof, put together by program.
-/
import Derived.Test.YtbnjpfjjmhodnaaGreatDoorPReportOf5
set_option linter.unusedVariables false
set_option linter.unusedSimpArgs false
set_option linter.unusedSectionVars false
namespace Go.Sh
open Rep (rep)
theorem Blk.uniq {w:World} {g e:Nat} {cs cs':List Value} (h:Blk g e w cs) (h':Blk g e w cs'):cs'=cs:=by
 unfold Blk at h h'
 rw [h] at h'
 simp only [Option.some.injEq,Obj.cells.injEq] at h'
 have:=h'.1
 simpa using this.symm
theorem zn1 {w:World} {g e:Nat} {cs ds:List Value} (h:Blk g e w (cs++ds)):w.rangeAt g 0 cs:=(zaU h.range).1
end Go.Sh
namespace Go.Proofs.YtbnjpfjjmhodnaaGreatDoor
open Go Go.Sh Go.Proofs
open Rep (rep)
structure WB (W0 w:World) (b e:Nat) (c:DCode) (kc:List Value) (m:Nat) (x6 x7 x8 x9 x10:Value):Prop where
 ext:Ext W0 w
 blk:Blk b e w (kc++[.slice (some ⟨m,0,none⟩) c.ins.length c.ins.length,x6,x7,x8,x9,x10])
 code:∃ F,rep F W0 kc c
 live:Mine [m] w (.slice (some ⟨m,0,none⟩) c.ins.length c.ins.length) (zbl c.ins.length (zd4 c))
 b0:W0.heap.size≤b
 m0:W0.heap.size≤m
 ne:b≠m
section
variable {W0 w w':World} {b e m:Nat} {c:DCode} {kc:List Value} {x6 x7 x8 x9 x10:Value}
theorem WB.k5 (h:WB W0 w b e c kc m x6 x7 x8 x9 x10):kc.length=5:=by obtain ⟨F,hr⟩:=h.code;exact Rep.len hr
theorem WB.cell (h:WB W0 w b e c kc m x6 x7 x8 x9 x10) (i:Nat):(kc++[Value.slice (some ⟨m,0,none⟩) c.ins.length c.ins.length,x6,x7,x8,x9,x10])[5+i]?=[Value.slice (some ⟨m,0,none⟩) c.ins.length c.ins.length,x6,x7,x8,x9,x10][i]?:=by
 rw [List.getElem?_append_right (by rw [h.k5];omega),h.k5,Nat.add_sub_cancel_left]
theorem WB.code_at (h:WB W0 w b e c kc m x6 x7 x8 x9 x10):At w b 0 c:=by
 obtain ⟨F,hr⟩:=h.code
 exact ⟨F,kc,zbZ hr h.ext,zn1 h.blk⟩
theorem WB.wl (h:WB W0 w b e c kc m x6 x7 x8 x9 x10):WL w b c:=⟨h.code_at,zej h.blk (h.cell 0) h.live.is⟩
theorem WB.step (h:WB W0 w b e c kc m x6 x7 x8 x9 x10) (hx:Ext w w'):WB W0 w' b e c kc m x6 x7 x8 x9 x10:=⟨h.ext.trans hx,h.blk.ext hx,h.code,h.live.ext hx,h.b0,h.m0,h.ne⟩
theorem WB.chg {F:List Nat} (h:WB W0 w b e c kc m x6 x7 x8 x9 x10) (hc:Chg F w w') (hF:∀ x∈F,W0.heap.size≤x∧x≠b∧x≠m):WB W0 w' b e c kc m x6 x7 x8 x9 x10:=
 ⟨h.ext.chgF hc fun x hx=>(hF x hx).1,h.blk.chgF hc fun hb=>(hF b hb).2.1 rfl,h.code,h.live.keep fun x hx=>by
   simp only [List.mem_cons,List.not_mem_nil,or_false] at hx;subst hx
   exact hc.block x (h.live.lt x (by simp)) fun hm=>(hF x hm).2.2 rfl,h.b0,h.m0,h.ne⟩
theorem WB.cells {y6 y7 y8 y9 y10:Value} (h:WB W0 w b e c kc m x6 x7 x8 x9 x10) (hc:ChgI b (b+1) w w') (hB:Blk b e w' (kc++[.slice (some ⟨m,0,none⟩) c.ins.length c.ins.length,y6,y7,y8,y9,y10])):WB W0 w' b e c kc m y6 y7 y8 y9 y10:=
 ⟨h.ext.chgI hc h.b0,hB,h.code,h.live.keep fun x hx=>by
   simp only [List.mem_cons,List.not_mem_nil,or_false] at hx;subst hx
   exact hc.block x (h.live.lt x (by simp)) (by have:=h.ne;omega),h.b0,h.m0,h.ne⟩
theorem WB.set (h:WB W0 w b e c kc m x6 x7 x8 x9 x10) (i:Nat) (v:Value):(kc++[Value.slice (some ⟨m,0,none⟩) c.ins.length c.ins.length,x6,x7,x8,x9,x10]).set (5+i) v=kc++[Value.slice (some ⟨m,0,none⟩) c.ins.length c.ins.length,x6,x7,x8,x9,x10].set i v:=by
 rw [List.set_append_right _ _ (by rw [h.k5];omega),h.k5,Nat.add_sub_cancel_left]
end
def CS (c:DCode) (out:List Nat) (D:Nat→Nat→Prop):Prop:=out.length=c.procs.length∧∀ q,q<c.procs.length→zau out q=zbY (D q) c.procs.length
theorem CS.mono {c:DCode} {out:List Nat} {D D':Nat→Nat→Prop} (h:CS c out D) (hD:∀ q r,q<c.procs.length→r<c.procs.length→(D q r↔D' q r)):CS c out D':=⟨h.1,fun q hq=>by rw [h.2 q hq];exact za8 fun r hr=>hD q r hq hr⟩
theorem CS.set {c:DCode} {out:List Nat} {D D':Nat→Nat→Prop} (h:CS c out D) {p a:Nat} (hp:p<c.procs.length) (ha:a<c.procs.length) (hD:∀ q r,D' q r↔D q r∨(q=p∧r=a)):CS c (out.set p (zau out p ||| 2^a)) D':=by
 refine ⟨by simp [h.1],fun q hq=>?_⟩
 rw [zbQ (by rw [h.1];exact hp)]
 split
 · rename_i e
   subst e
   rw [h.2 p hp]
   refine zcV fun r=>?_
   rw [Nat.testBit_or,Nat.testBit_two_pow,Bool.or_eq_true,zaO,decide_eq_true_eq,hD]
   constructor
   · rintro (⟨h1,h2⟩ | rfl)
     · exact ⟨h1,.inl h2⟩
     exact ⟨ha,.inr ⟨rfl,rfl⟩⟩
   rintro ⟨h1,h2 | ⟨_,h2⟩⟩
   · exact .inl ⟨h1,h2⟩
   exact .inr h2.symm
 rename_i e
 rw [h.2 q hq]
 exact za8 fun r hr=>⟨fun h=>(hD q r).2 (.inl h),fun h=>((hD q r).1 h).resolve_right fun h=>e h.1.symm⟩
theorem CS.lt0 {c:DCode} {out:List Nat} {D:Nat→Nat→Prop} (h:CS c out D) (h8:c.procs.length≤8) {q:Nat} (hq:q<c.procs.length):zau out q<256:=by rw [h.2 q hq];exact za3 h8
theorem CS.zero {c:DCode} {D:Nat→Nat→Prop} (hD:∀ q r,¬D q r):CS c (List.replicate c.procs.length 0) D:=⟨by simp,fun q hq=>by
 rw [←zaX (by simp;exact hq),List.getElem_replicate]
 exact zcV fun r=>by simp [hD]⟩
theorem CS.eq_cls {c:DCode} {out:List Nat} {op:Int} (h:CS c out fun q r=>zip c q op r):out=cls c op:=by
 refine List.ext_getElem (by rw [h.1,zfa]) fun i h1 h2=>?_
 have hi:i<c.procs.length:=by rw [←h.1];exact h1
 rw [zaX h1,zaX h2,ztl hi,h.2 i hi]
def zoL (j:Nat):Nat:=if j=11 then 6 else if j=14 then 7 else 8
def zuD (j:Nat):Prop:=j=11∨j=14∨j=17
def fcB (W:World) (b e:Nat) (hd:List Value) (t9 t10:Value) (w:World):Prop:=ChgI b (b+1) W w∧∃ x6 x7 x8,Blk b e w (hd++[x6,x7,x8,t9,t10])
def fcR (b e:Nat) (j:Nat) (w w':World):Prop:=(zuD j∧ChgI b (b+1) w w'∧∀ cs,Blk b e w cs→∃ v,Blk b e w' (cs.set (zoL j) v))∨(¬zuD j∧Ext w w')
def fcQ (b e n:Nat):ParQ:=fun i u T w=>match i with
 | 0=>u 17=.pointer (some ⟨b,0,none⟩)
 | 1=>u 18=.pointer (some ⟨b,0,none⟩)
 | 2=>u 19=.pointer (some ⟨b,0,none⟩)
 | 3=>u 20=.int .i64 (n:Int)
 | 4=>∃ g,u 21=.slice (some ⟨g,0,none⟩) n n∧(T 4).1≤g∧g<(T 4).2∧g≠b∧Mine [g] w (.slice (some ⟨g,0,none⟩) n n) (zaA (List.replicate n 0))
 | 5=>u 22=.int .i64 (n:Int)
 | 6=>∃ g,u 23=.slice (some ⟨g,0,none⟩) n n∧(T 6).1≤g∧g<(T 6).2∧g≠b∧Mine [g] w (.slice (some ⟨g,0,none⟩) n n) (zaA (List.replicate n 0))
 | 7=>u 24=.int .i64 (n:Int)
 | 8=>∃ g,u 25=.slice (some ⟨g,0,none⟩) n n∧(T 8).1≤g∧g<(T 8).2∧g≠b∧Mine [g] w (.slice (some ⟨g,0,none⟩) n n) (zaA (List.replicate n 0))
 | 9=>u 26=.pointer (some ⟨b,0,none⟩)
 | 10=>u 27=.pointer (some ⟨b,0+6,none⟩)
 | 11=>∃ cs,Blk b e w cs∧cs[6]?=some (u 21)
 | 12=>u 28=.pointer (some ⟨b,0,none⟩)
 | 13=>u 29=.pointer (some ⟨b,0+7,none⟩)
 | 14=>∃ cs,Blk b e w cs∧cs[7]?=some (u 23)
 | 15=>u 30=.pointer (some ⟨b,0,none⟩)
 | 16=>u 31=.pointer (some ⟨b,0+8,none⟩)
 | 17=>∃ cs,Blk b e w cs∧cs[8]?=some (u 25)
 | _=>True
section
variable {b e n:Nat} {w w':World}
theorem fcR.sz {j:Nat} (h:fcR b e j w w'):w.heap.size≤w'.heap.size:=by
 rcases h with ⟨_,h,_⟩ | ⟨_,h⟩
 · exact h.size
 exact h.size
theorem fcR.chg {j:Nat} (h:fcR b e j w w'):ChgI b (b+1) w w':=by
 rcases h with ⟨_,h,_⟩ | ⟨_,h⟩
 · exact h
 exact h.toI
theorem fcR.mine {j g:Nat} {l:List Int} {v:Value} (h:fcR b e j w w') (hg:g≠b) (hm:Mine [g] w v l):Mine [g] w' v l:=hm.keep fun x hx=>by
 simp only [List.mem_cons,List.not_mem_nil,or_false] at hx;subst hx
 exact h.chg.block x (hm.lt x (by simp)) (by omega)
theorem fcR.cell {j:Nat} {u:Value} {k:Nat} (h:fcR b e j w w') (hij:zuD j→zoL j≠k) (hc:∃ cs,Blk b e w cs∧cs[k]?=some u):∃ cs,Blk b e w' cs∧cs[k]?=some u:=by
 obtain ⟨cs,hB,hk⟩:=hc
 rcases h with ⟨hs,_,h⟩ | ⟨_,h⟩
 · obtain ⟨v,hv⟩:=h cs hB
   exact ⟨_,hv,by rw [List.getElem?_set_ne (hij hs)];exact hk⟩
 exact ⟨cs,hB.ext h,hk⟩
theorem fcB.step {W:World} {hd:List Value} {t9 t10:Value} {j:Nat} (h6:hd.length=6) (h:fcB W b e hd t9 t10 w) (hR:fcR b e j w w'):fcB W b e hd t9 t10 w':=by
 obtain ⟨hc,x6,x7,x8,hB⟩:=h
 refine ⟨hc.trans hR.chg,?_⟩
 rcases hR with ⟨hs,_,hR⟩ | ⟨_,hR⟩
 · obtain ⟨v,hv⟩:=hR _ hB
   rcases hs with rfl | rfl | rfl
   · refine ⟨v,x7,x8,?_⟩
     rw [List.set_append_right _ _ (by rw [h6];decide),h6] at hv
     exact hv
   · refine ⟨x6,v,x8,?_⟩
     rw [List.set_append_right _ _ (by rw [h6];decide),h6] at hv
     exact hv
   refine ⟨x6,x7,v,?_⟩
   rw [List.set_append_right _ _ (by rw [h6];decide),h6] at hv
   exact hv
 exact ⟨x6,x7,x8,hB.ext hR⟩
theorem fcR.ext {j:Nat} (hj:¬zuD j) (hx:Ext w w'):fcR b e j w w':=.inr ⟨hj,hx⟩
end
theorem zkx {W:World} {b e n j:Nat} {hd:List Value} {t9 t10:Value} {w:World} {g:Nat} {K:World→Prop} (hs:zuD j) (h6:hd.length=6) (hB:fcB W b e hd t9 t10 w) (k:∀ w',fcR b e j w w'→(∃ cs,Blk b e w' cs∧cs[zoL j]?=some (.slice (some ⟨g,0,none⟩) n n))→K w') :
   OPU Tryz.prog (Instr.storeAt 23 (.pointer (some ⟨b,0+zoL j,none⟩)) (.slice (some ⟨g,0,none⟩) n n)) w K:=by
 obtain ⟨hc,x6,x7,x8,hB⟩:=hB
 have hlt:zoL j<(hd++[x6,x7,x8,t9,t10]).length:=by
   rw [List.length_append,h6]
   show zoL j<11
   rcases hs with rfl | rfl | rfl<;>decide
 rw [Nat.zero_add]
 refine zcG (α:=Raw) (lo:=0) (hi:=0) zbE rfl rfl hB hlt (zcL rfl) fun w2 hc2 hB2=>?_
 have hR:fcR b e j w w2:=.inl ⟨hs,hc2,fun cs hcs=>by
   have:=hB.uniq hcs
   subst this
   exact ⟨_,hB2⟩⟩
 exact k w2 hR ⟨_,hB2,by rw [List.getElem?_set_self hlt]⟩
theorem zt4 {sets:List Nat} {r:Nat} (l:List Int):(orL sets l).testBit r=true↔∃ x∈l,(zau sets x.toNat).testBit r=true:=by
 have key:∀ (l:List Int) (a:Nat),(l.foldl (fun a i=>a ||| sets.getD i.toNat 0) a).testBit r=true↔a.testBit r=true∨∃ x∈l,(zau sets x.toNat).testBit r=true:=fun l=>by
   induction l with
   | nil=>simp
   | cons i l ih=>
     intro a
     rw [List.foldl_cons,ih,Nat.testBit_or,Bool.or_eq_true,or_assoc]
     refine or_congr Iff.rfl ?_
     simp only [List.mem_cons,exists_eq_or_imp]
     exact Iff.rfl
 have:=key l 0
 simpa [orL] using this
theorem zgC {sets:List Nat} {m n r:Nat} (hm:m<2^n) (hn:n≤62):(orL sets (zbn m)).testBit r=true↔∃ i,i<n∧m.testBit i=true∧(zau sets i).testBit r=true:=by
 rw [zt4,zkk hm (by omega)]
 constructor
 · rintro ⟨x,hx,h⟩
   obtain ⟨i,h1,rfl,h3⟩:=zcB.1 hx
   exact ⟨i,h1,h3,by simpa using h⟩
 rintro ⟨i,h1,h2,h3⟩
 exact ⟨(i:Int),zcB.2 ⟨i,h1,rfl,h2⟩,by simpa using h3⟩
theorem zmW {m n:Nat} (h:∀ r,m.testBit r=true→r<n):m<2^n:=Nat.lt_pow_two_of_testBit _ fun i hi=>by
 cases e:m.testBit i
 · rfl
 have:=h i e;omega
def F46 (a0:Value) (w:World) (R:VW):Prop:=
 NIL a0 <|
 rF 97 a0 0 w fun x13=>
 rF 31 x13 2 w fun x14=>
 rL 22 x14 w fun x15=>
 rN 22 3 x15 w fun x16=>
 (fun w0=>GPAR w0 [[(0,17)],[(1,18)],[(2,19)],[(3,20)],[(4,21),(3,20),(3,20)],[(5,22)],[(6,23),(5,22),(5,22)],[(7,24)],[(8,25),(7,24),(7,24)],[(9,26),(0,17),(0,17),(3,20),(4,21)],[(10,27),(9,26),(0,17),(3,20),(4,21)],[(10,27),(4,21),(0,17),(3,20),(4,21)],[(12,28),(1,18),(0,17),(1,18),(3,20),(4,21),(5,22),(6,23),(9,26),(10,27)],[(13,29),(12,28),(0,17),(1,18),(3,20),(4,21),(5,22),(6,23),(9,26),(10,27)],[(13,29),(6,23),(0,17),(1,18),(3,20),(4,21),(5,22),(6,23),(9,26),(10,27)],[(15,30),(2,19),(0,17),(1,18),(2,19),(3,20),(4,21),(5,22),(6,23),(7,24),(8,25),(9,26),(10,27),(12,28),(13,29)],[(16,31),(15,30),(0,17),(1,18),(2,19),(3,20),(4,21),(5,22),(6,23),(7,24),(8,25),(9,26),(10,27),(12,28),(13,29)],[(16,31),(8,25),(0,17),(1,18),(2,19),(3,20),(4,21),(5,22),(6,23),(7,24),(8,25),(9,26),(10,27),(12,28),(13,29)]] (fun B R Q=>
 (∀ (u1:Env) (T:Nat→Nat×Nat) (w:World),B w→w0.heap.size≤w.heap.size→zb2 [] w0.heap.size w.heap.size T→(True)→(fun w1=>R 0 w1 w∧Q 0 (upd u1 17 a0) (zdl T 0 (w1.heap.size,w.heap.size)) w) w) ∧
 (∀ (u1:Env) (T:Nat→Nat×Nat) (w:World),B w→w0.heap.size≤w.heap.size→zb2 [] w0.heap.size w.heap.size T→(True)→(fun w1=>R 1 w1 w∧Q 1 (upd u1 18 a0) (zdl T 1 (w1.heap.size,w.heap.size)) w) w) ∧
 (∀ (u1:Env) (T:Nat→Nat×Nat) (w:World),B w→w0.heap.size≤w.heap.size→zb2 [] w0.heap.size w.heap.size T→(True)→(fun w1=>R 2 w1 w∧Q 2 (upd u1 19 a0) (zdl T 2 (w1.heap.size,w.heap.size)) w) w) ∧
 (∀ (u1:Env) (T:Nat→Nat×Nat) (w:World),B w→w0.heap.size≤w.heap.size→zb2 [] w0.heap.size w.heap.size T→(True)→(fun w1=>R 3 w1 w∧Q 3 (upd u1 20 x16) (zdl T 3 (w1.heap.size,w.heap.size)) w) w) ∧
 (∀ (u1:Env) (T:Nat→Nat×Nat) (w:World),B w→w0.heap.size≤w.heap.size→zb2 [3,3] w0.heap.size w.heap.size T→(Q 3 u1 T w∧Q 3 u1 T w∧True)→(fun w1=>oP (Instr.makeSlice 23 (u1 20) (u1 20)) w fun x21 w=>
 R 4 w1 w∧Q 4 (upd u1 21 x21) (zdl T 4 (w1.heap.size,w.heap.size)) w) w) ∧
 (∀ (u1:Env) (T:Nat→Nat×Nat) (w:World),B w→w0.heap.size≤w.heap.size→zb2 [] w0.heap.size w.heap.size T→(True)→(fun w1=>R 5 w1 w∧Q 5 (upd u1 22 x16) (zdl T 5 (w1.heap.size,w.heap.size)) w) w) ∧
 (∀ (u1:Env) (T:Nat→Nat×Nat) (w:World),B w→w0.heap.size≤w.heap.size→zb2 [5,5] w0.heap.size w.heap.size T→(Q 5 u1 T w∧Q 5 u1 T w∧True)→(fun w1=>oP (Instr.makeSlice 23 (u1 22) (u1 22)) w fun x23 w=>
 R 6 w1 w∧Q 6 (upd u1 23 x23) (zdl T 6 (w1.heap.size,w.heap.size)) w) w) ∧
 (∀ (u1:Env) (T:Nat→Nat×Nat) (w:World),B w→w0.heap.size≤w.heap.size→zb2 [] w0.heap.size w.heap.size T→(True)→(fun w1=>R 7 w1 w∧Q 7 (upd u1 24 x16) (zdl T 7 (w1.heap.size,w.heap.size)) w) w) ∧
 (∀ (u1:Env) (T:Nat→Nat×Nat) (w:World),B w→w0.heap.size≤w.heap.size→zb2 [7,7] w0.heap.size w.heap.size T→(Q 7 u1 T w∧Q 7 u1 T w∧True)→(fun w1=>oP (Instr.makeSlice 23 (u1 24) (u1 24)) w fun x25 w=>
 R 8 w1 w∧Q 8 (upd u1 25 x25) (zdl T 8 (w1.heap.size,w.heap.size)) w) w) ∧
 (∀ (u1:Env) (T:Nat→Nat×Nat) (w:World),B w→w0.heap.size≤w.heap.size→zb2 [0,0,3,4] w0.heap.size w.heap.size T→(Q 0 u1 T w∧Q 0 u1 T w∧Q 3 u1 T w∧Q 4 u1 T w∧True)→(fun w1=>NIL (u1 17) <|
 R 9 w1 w∧Q 9 (upd u1 26 (u1 17)) (zdl T 9 (w1.heap.size,w.heap.size)) w) w) ∧
 (∀ (u1:Env) (T:Nat→Nat×Nat) (w:World),B w→w0.heap.size≤w.heap.size→zb2 [9,0,3,4] w0.heap.size w.heap.size T→(Q 9 u1 T w∧Q 0 u1 T w∧Q 3 u1 T w∧Q 4 u1 T w∧True)→(fun w1=>rF 97 (u1 26) 2 w fun x27=>
 R 10 w1 w∧Q 10 (upd u1 27 x27) (zdl T 10 (w1.heap.size,w.heap.size)) w) w) ∧
 (∀ (u1:Env) (T:Nat→Nat×Nat) (w:World),B w→w0.heap.size≤w.heap.size→zb2 [10,4,0,3,4] w0.heap.size w.heap.size T→(Q 10 u1 T w∧Q 4 u1 T w∧Q 0 u1 T w∧Q 3 u1 T w∧Q 4 u1 T w∧True)→(fun w1=>oS 23 (u1 27) (u1 21) w fun w=>
 R 11 w1 w∧Q 11 u1 (zdl T 11 (w1.heap.size,w.heap.size)) w) w) ∧
 (∀ (u1:Env) (T:Nat→Nat×Nat) (w:World),B w→w0.heap.size≤w.heap.size→zb2 [1,0,1,3,4,5,6,9,10,11] w0.heap.size w.heap.size T→(Q 1 u1 T w∧Q 0 u1 T w∧Q 1 u1 T w∧Q 3 u1 T w∧Q 4 u1 T w∧Q 5 u1 T w∧Q 6 u1 T w∧Q 9 u1 T w∧Q 10 u1 T w∧Q 11 u1 T w∧True)→(fun w1=>NIL (u1 18) <|
 R 12 w1 w∧Q 12 (upd u1 28 (u1 18)) (zdl T 12 (w1.heap.size,w.heap.size)) w) w) ∧
 (∀ (u1:Env) (T:Nat→Nat×Nat) (w:World),B w→w0.heap.size≤w.heap.size→zb2 [12,0,1,3,4,5,6,9,10,11] w0.heap.size w.heap.size T→(Q 12 u1 T w∧Q 0 u1 T w∧Q 1 u1 T w∧Q 3 u1 T w∧Q 4 u1 T w∧Q 5 u1 T w∧Q 6 u1 T w∧Q 9 u1 T w∧Q 10 u1 T w∧Q 11 u1 T w∧True)→(fun w1=>rF 97 (u1 28) 3 w fun x29=>
 R 13 w1 w∧Q 13 (upd u1 29 x29) (zdl T 13 (w1.heap.size,w.heap.size)) w) w) ∧
 (∀ (u1:Env) (T:Nat→Nat×Nat) (w:World),B w→w0.heap.size≤w.heap.size→zb2 [13,6,11,0,1,3,4,5,6,9,10,11] w0.heap.size w.heap.size T→(Q 13 u1 T w∧Q 6 u1 T w∧Q 11 u1 T w∧Q 0 u1 T w∧Q 1 u1 T w∧Q 3 u1 T w∧Q 4 u1 T w∧Q 5 u1 T w∧Q 6 u1 T w∧Q 9 u1 T w∧Q 10 u1 T w∧Q 11 u1 T w∧True)→(fun w1=>oS 23 (u1 29) (u1 23) w fun w=>
 R 14 w1 w∧Q 14 u1 (zdl T 14 (w1.heap.size,w.heap.size)) w) w) ∧
 (∀ (u1:Env) (T:Nat→Nat×Nat) (w:World),B w→w0.heap.size≤w.heap.size→zb2 [2,0,1,2,3,4,5,6,7,8,9,10,11,12,13,14] w0.heap.size w.heap.size T→(Q 2 u1 T w∧Q 0 u1 T w∧Q 1 u1 T w∧Q 2 u1 T w∧Q 3 u1 T w∧Q 4 u1 T w∧Q 5 u1 T w∧Q 6 u1 T w∧Q 7 u1 T w∧Q 8 u1 T w∧Q 9 u1 T w∧Q 10 u1 T w∧Q 11 u1 T w∧Q 12 u1 T w∧Q 13 u1 T w∧Q 14 u1 T w∧True)→(fun w1=>NIL (u1 19) <|
 R 15 w1 w∧Q 15 (upd u1 30 (u1 19)) (zdl T 15 (w1.heap.size,w.heap.size)) w) w) ∧
 (∀ (u1:Env) (T:Nat→Nat×Nat) (w:World),B w→w0.heap.size≤w.heap.size→zb2 [15,0,1,2,3,4,5,6,7,8,9,10,11,12,13,14] w0.heap.size w.heap.size T→(Q 15 u1 T w∧Q 0 u1 T w∧Q 1 u1 T w∧Q 2 u1 T w∧Q 3 u1 T w∧Q 4 u1 T w∧Q 5 u1 T w∧Q 6 u1 T w∧Q 7 u1 T w∧Q 8 u1 T w∧Q 9 u1 T w∧Q 10 u1 T w∧Q 11 u1 T w∧Q 12 u1 T w∧Q 13 u1 T w∧Q 14 u1 T w∧True)→(fun w1=>rF 97 (u1 30) 4 w fun x31=>
 R 16 w1 w∧Q 16 (upd u1 31 x31) (zdl T 16 (w1.heap.size,w.heap.size)) w) w) ∧
 (∀ (u1:Env) (T:Nat→Nat×Nat) (w:World),B w→w0.heap.size≤w.heap.size→zb2 [16,8,14,0,1,2,3,4,5,6,7,8,9,10,11,12,13,14] w0.heap.size w.heap.size T→(Q 16 u1 T w∧Q 8 u1 T w∧Q 14 u1 T w∧Q 0 u1 T w∧Q 1 u1 T w∧Q 2 u1 T w∧Q 3 u1 T w∧Q 4 u1 T w∧Q 5 u1 T w∧Q 6 u1 T w∧Q 7 u1 T w∧Q 8 u1 T w∧Q 9 u1 T w∧Q 10 u1 T w∧Q 11 u1 T w∧Q 12 u1 T w∧Q 13 u1 T w∧Q 14 u1 T w∧True)→(fun w1=>oS 23 (u1 31) (u1 25) w fun w=>
 R 17 w1 w∧Q 17 u1 (zdl T 17 (w1.heap.size,w.heap.size)) w) w) ∧
 True)
 (fun B Q=>∀ (u1:Env) (T:Nat→Nat×Nat) (w:World),B w→w0.heap.size≤w.heap.size→zb2 [0,1,2,3,4,5,6,7,8,9,10,11,12,13,14,15,16,17] w0.heap.size w.heap.size T→(Q 0 u1 T w∧Q 1 u1 T w∧Q 2 u1 T w∧Q 3 u1 T w∧Q 4 u1 T w∧Q 5 u1 T w∧Q 6 u1 T w∧Q 7 u1 T w∧Q 8 u1 T w∧Q 9 u1 T w∧Q 10 u1 T w∧Q 11 u1 T w∧Q 12 u1 T w∧Q 13 u1 T w∧Q 14 u1 T w∧Q 15 u1 T w∧Q 16 u1 T w∧Q 17 u1 T w∧True) →
 LOOPI [33] [(iV 0)] w fun u3 w next3=>
 rC (u3 33) x16 w fun x34=>
 BR x34
 (cL 88 [a0,(u3 33)] w fun x38 w=>
 rN 23 3 x38 w fun x39=>
 LOOPI [40] [(iV 0)] w fun u6 w next6=>
 rC (u6 40) x39 w fun x41=>
 BR x41
 (rX 23 x38 (u6 40) w fun x42=>
 rL 3 x42 w fun x43=>
 NIL a0 <|
 rF 97 a0 0 w fun x46=>
 rF 31 x46 4 w fun x47=>
 rL 29 x47 w fun x48=>
 rX 29 x48 x43 w fun x50=>
 rL 94 x50 w fun x51=>
 oP (Instr.alloc 94 true (.tuple #[])) w fun x6 w=>
 oS 94 x6 x51 w fun w=>
 JOIN [] (fun J11=>
 rF 94 x6 0 w fun x52=>
 rL 3 x52 w fun x53=>
 rB .eql 3 T0 U0 x53 (iV 4) w fun x54=>
 BR x54
 ((fun w=>NIL a0 <|
 rF 97 a0 2 w fun x57=>
 rL 23 x57 w fun x58=>
 rX 23 x58 (u3 33) w fun x60=>
 rL 3 x60 w fun x61=>
 rF 94 x6 1 w fun x62=>
 rL 3 x62 w fun x63=>
 rD (convert 3 139 x63) w fun x64=>
 rB .shl 3 U0 T0 (iV 1) x64 w fun x65=>
 rB .or 3 T0 T0 x61 x65 w fun x66=>
 rX 23 x58 (u3 33) w fun x67=>
 oS 3 x67 x66 w fun w=>
 J11 [] w) (World.drew1 w))
 (J11 [] w)) (fun u11 w=>
 rF 94 x6 0 w fun x68=>
 rL 3 x68 w fun x69=>
 rB .eql 3 T0 U0 x69 (iV 5) w fun x70=>
 BR x70
 ((fun w=>NIL a0 <|
 rF 97 a0 3 w fun x73=>
 rL 23 x73 w fun x74=>
 rX 23 x74 (u3 33) w fun x76=>
 rL 3 x76 w fun x77=>
 rF 94 x6 1 w fun x78=>
 rL 3 x78 w fun x79=>
 rD (convert 3 139 x79) w fun x80=>
 rB .shl 3 U0 T0 (iV 1) x80 w fun x81=>
 rB .or 3 T0 T0 x77 x81 w fun x82=>
 rX 23 x74 (u3 33) w fun x83=>
 oS 3 x83 x82 w fun w=>
 rA (u6 40) (iV 1) w fun x84=>
 next6 [x84] w) (World.drew1 w))
 (rA (u6 40) (iV 1) w fun x84=>
 next6 [x84] w)))
 (rA (u3 33) (iV 1) w fun x85=>
 next3 [x85] w))
 (LOOPI [87] [(iV 0)] w fun u16 w next16=>
 rC (u16 87) x16 w fun x88=>
 BR x88
 (rD (convert 3 139 (u16 87)) w fun x91=>
 rB .shl 3 U0 T0 (iV 1) x91 w fun x92=>
 LOOPI [8,9] [x92,(Value.bool true)] w fun u20 w next20=>
 BR (u20 9)
 (NIL a0 <|
 rF 97 a0 2 w fun x97=>
 rL 23 x97 w fun x98=>
 cL 89 [x98,(u20 8)] w fun x100 w=>
 rB .or 3 T0 T0 (u20 8) x100 w fun x101=>
 rB .neq 3 T0 T0 x101 (u20 8) w fun x104=>
 next20 [x101,x104] w)
 (NIL a0 <|
 rF 97 a0 4 w fun x108=>
 rL 23 x108 w fun x109=>
 rX 23 x109 (u16 87) w fun x112=>
 oS 3 x112 (u20 8) w fun w=>
 rA (u16 87) (iV 1) w fun x113=>
 next16 [x113] w))
 (R (Value.tuple #[]) w)))) (World.drew1 w)
def cfg46:Cfg:={ ext:=extL,joins:=[(11,295143401579725455360,[])],loops:=[(3,77371252455336258591260776,[33]),(6,38685626227667034078969952,[40]),(16,20769187279396805603449450954491776,[87]),(20,81119734894292398653589812152064,[8,9])],draws:=[(10,[0,1,2,3,4,5,6,7,8,9,10,11,12,13],0),(12,[0,1,2,3,4,5,6,7,8,9,10,11,12,13],0)],pars:=[],gpars:=[(1,4294836224)] }
theorem F46_call {a0:Value} {w:World} {R:VW} (h:F46 a0 w R):cL 46 [a0] w R:=co (g:=cfg46) Tryz.func46 (by kernel_rfl) (by kernel_rfl) (by kernel_rfl) h
open Rep (rep)
abbrev sl (g n:Nat):Value:=.slice (some ⟨g,0,none⟩) n n
structure FC (W0 w:World) (b e:Nat) (c:DCode) (kc:List Value) (m g6 g7 g8:Nat) (c6 c7 c8:List Nat) (x9 x10:Value):Prop where
 wb:WB W0 w b e c kc m (sl g6 c.procs.length) (sl g7 c.procs.length) (sl g8 c.procs.length) x9 x10
 m6:Mine [g6] w (sl g6 c.procs.length) (zaA c6)
 m7:Mine [g7] w (sl g7 c.procs.length) (zaA c7)
 m8:Mine [g8] w (sl g8 c.procs.length) (zaA c8)
 n6:W0.heap.size≤g6∧g6≠b∧g6≠m
 n7:W0.heap.size≤g7∧g7≠b∧g7≠m
 n8:W0.heap.size≤g8∧g8≠b∧g8≠m
 d67:g6≠g7
 d68:g6≠g8
 d78:g7≠g8
section
variable {W0 w w':World} {b e m g6 g7 g8:Nat} {c:DCode} {kc:List Value} {c6 c7 c8:List Nat} {x9 x10:Value}
theorem zdo {F:List Nat} {g:Nat} {v:Value} {l:List Int} (hm:Mine [g] w v l) (hc:Chg F w w') (hg:g∉F):Mine [g] w' v l:=hm.keep fun x hx=>by
 simp only [List.mem_cons,List.not_mem_nil,or_false] at hx;subst hx
 exact hc.block x (hm.lt x (by simp)) hg
theorem FC.step (h:FC W0 w b e c kc m g6 g7 g8 c6 c7 c8 x9 x10) (hx:Ext w w'):FC W0 w' b e c kc m g6 g7 g8 c6 c7 c8 x9 x10:=⟨h.wb.step hx,h.m6.ext hx,h.m7.ext hx,h.m8.ext hx,h.n6,h.n7,h.n8,h.d67,h.d68,h.d78⟩
theorem FC.set6 {i v:Nat} (h:FC W0 w b e c kc m g6 g7 g8 c6 c7 c8 x9 x10) (hc:Chg [g6] w w') (hm:Mine [g6] w' (sl g6 c.procs.length) ((zaA c6).set i (v:Int))):FC W0 w' b e c kc m g6 g7 g8 (c6.set i v) c7 c8 x9 x10:=
 ⟨h.wb.chg hc (by simp [h.n6]),by rw [zeF];exact hm,zdo h.m7 hc (by simp [Ne.symm h.d67]),zdo h.m8 hc (by simp [Ne.symm h.d68]),h.n6,h.n7,h.n8,h.d67,h.d68,h.d78⟩
theorem FC.set7 {i v:Nat} (h:FC W0 w b e c kc m g6 g7 g8 c6 c7 c8 x9 x10) (hc:Chg [g7] w w') (hm:Mine [g7] w' (sl g7 c.procs.length) ((zaA c7).set i (v:Int))):FC W0 w' b e c kc m g6 g7 g8 c6 (c7.set i v) c8 x9 x10:=
 ⟨h.wb.chg hc (by simp [h.n7]),zdo h.m6 hc (by simp [h.d67]),by rw [zeF];exact hm,zdo h.m8 hc (by simp [Ne.symm h.d78]),h.n6,h.n7,h.n8,h.d67,h.d68,h.d78⟩
theorem FC.set8 {i v:Nat} (h:FC W0 w b e c kc m g6 g7 g8 c6 c7 c8 x9 x10) (hc:Chg [g8] w w') (hm:Mine [g8] w' (sl g8 c.procs.length) ((zaA c8).set i (v:Int))):FC W0 w' b e c kc m g6 g7 g8 c6 c7 (c8.set i v) x9 x10:=
 ⟨h.wb.chg hc (by simp [h.n8]),zdo h.m6 hc (by simp [h.d68]),zdo h.m7 hc (by simp [h.d78]),by rw [zeF];exact hm,h.n6,h.n7,h.n8,h.d67,h.d68,h.d78⟩
end
theorem WB.ins {W0 w:World} {b e m:Nat} {c:DCode} {kc:List Value} {x6 x7 x8 x9 x10:Value} (h:WB W0 w b e c kc m x6 x7 x8 x9 x10):∃ v,(kc++[Value.slice (some ⟨m,0,none⟩) c.ins.length c.ins.length,x6,x7,x8,x9,x10])[0+0+4]?=some v∧Is W0 v c.ins:=by
 obtain ⟨F,hr⟩:=h.code
 obtain ⟨F0,c0,F1,c1,F2,c2,F3,c3,F4,c4,rfl,rfl,⟨_,_,_,_,rfl,_⟩,⟨_,_,_,_,rfl,_⟩,⟨_,_,_,_,rfl,_⟩,⟨_,_,_,_,rfl,_⟩,hr4⟩:=zll hr
 have hr4':=hr4
 obtain ⟨_,_,_,_,rfl,_⟩:=hr4
 exact ⟨_,rfl,_,_,hr4',rfl⟩
def fcD (c:DCode) (op:Int) (p:Nat) (M:List Nat) (j:Nat):Nat→Nat→Prop:=fun q r=>(q<p∧zip c q op r)∨(q=p∧∃ i∈M.take j,(zal c i).op=op∧agN c i=r)
theorem ztq {c:DCode} {op:Int} {p:Nat} {M:List Nat} {j i:Nat} (htj:∀ x,x∈M.take (j+1)↔x∈M.take j∨x=i) (hn:¬(zal c i).op=op) (q r:Nat):fcD c op p M j q r↔fcD c op p M (j+1) q r:=by
 unfold fcD
 refine or_congr Iff.rfl (and_congr Iff.rfl ?_)
 constructor
 · rintro ⟨x,hx,h⟩;exact ⟨x,(htj x).2 (.inl hx),h⟩
 rintro ⟨x,hx,h⟩
 rcases (htj x).1 hx with hx | rfl
 · exact ⟨x,hx,h⟩
 exact absurd h.1 hn
theorem zqL {c:DCode} {op:Int} {p:Nat} {M:List Nat} {j i:Nat} (htj:∀ x,x∈M.take (j+1)↔x∈M.take j∨x=i) (hy:(zal c i).op=op) (q r:Nat):fcD c op p M (j+1) q r↔fcD c op p M j q r∨(q=p∧r=agN c i):=by
 unfold fcD
 constructor
 · rintro (h | ⟨h1,x,hx,h⟩)
   · exact .inl (.inl h)
   rcases (htj x).1 hx with hx | rfl
   · exact .inl (.inr ⟨h1,x,hx,h⟩)
   exact .inr ⟨h1,h.2.symm⟩
 rintro ((h | ⟨h1,x,hx,h⟩) | ⟨h1,h2⟩)
 · exact .inl h
 · exact .inr ⟨h1,x,(htj x).2 (.inl hx),h⟩
 exact .inr ⟨h1,i,(htj i).2 (.inr rfl),hy,h2.symm⟩
theorem zqM {c:DCode} (hc:CodeR c) {op:Int} (hop:op=4∨op=5) {p:Nat} {M:List Nat} (hp:p<c.procs.length) (hM:∀ i,i∈M↔zaC c p i) (q r:Nat):fcD c op p M M.length q r↔fcD c op (p+1) [] 0 q r:=by
 have key:(∃ i∈M.take M.length,(zal c i).op=op∧agN c i=r)↔zip c p op r:=by
   rw [List.take_length]
   constructor
   · rintro ⟨i,hi,h1,h2⟩
     have hl:=(hM i).1 hi
     have hin:=(zby hc (by rw [hc.2.1.1];exact hp) hl).1
     exact ⟨i,hin,hl,h1,by rw [(zbN hc hin (by omega)).1,h2]⟩
   rintro ⟨i,hin,hl,h1,h2⟩
   have:=(zbN hc hin (by omega)).1
   exact ⟨i,(hM i).2 hl,h1,by omega⟩
 unfold fcD
 constructor
 · rintro (h | ⟨rfl,h⟩)
   · exact .inl ⟨by omega,h.2⟩
   exact .inl ⟨by omega,key.1 h⟩
 rintro (⟨h1,h2⟩ | ⟨_,x,hx,_⟩)
 · by_cases e:q=p
   · subst e;exact .inr ⟨rfl,key.2 h2⟩
   exact .inl ⟨by omega,h2⟩
 simp at hx
theorem zqN {c:DCode} {op:Int} {p:Nat} {M:List Nat} (q r:Nat):fcD c op p [] 0 q r↔fcD c op p M 0 q r:=by
 unfold fcD;simp
theorem CS.done {c:DCode} {op:Int} {out:List Nat} (h:CS c out (fcD c op c.procs.length [] 0)):out=cls c op:=
 CS.eq_cls (op:=op) (h.mono fun q r hq hr=>by unfold fcD;simp [hq])
structure UM (c:DCode) (p m:Nat):Prop where
 lt:m<2^c.procs.length
 self:m.testBit p=true
 snd:∀ r,m.testBit r=true→FromP c p r
theorem UM.start {c:DCode} {p:Nat} (hp:p<c.procs.length):UM c p (2^p):=⟨Nat.pow_lt_pow_right (by omega) hp,by simp [Nat.testBit_two_pow],fun r hr=>by simp [Nat.testBit_two_pow] at hr;exact .inl hr.symm⟩
theorem zg5 {c:DCode} {op:Int} {q r:Nat} (hq:q<c.procs.length):(zau (cls c op) q).testBit r=true↔r<c.procs.length∧zip c q op r:=by rw [ztl hq,zaO]
theorem UM.more {c:DCode} (h8:c.procs.length≤8) {p m:Nat} (h:UM c p m):UM c p (m ||| orL (cls c 4) (zbn m)):=by
 have hb:∀ r,(orL (cls c 4) (zbn m)).testBit r=true→∃ i,i<c.procs.length∧m.testBit i=true∧r<c.procs.length∧zip c i 4 r:=fun r hr=>by
   obtain ⟨i,h1,h2,h3⟩:=(zgC h.lt (by omega)).1 hr
   exact ⟨i,h1,h2,(zg5 h1).1 h3⟩
 refine ⟨Nat.or_lt_two_pow h.lt (zmW fun r hr=>by obtain ⟨i,_,_,h3,_⟩:=hb r hr;exact h3),by rw [Nat.testBit_or,h.self];rfl,fun r hr=>?_⟩
 rw [Nat.testBit_or,Bool.or_eq_true] at hr
 rcases hr with hr | hr
 · exact h.snd r hr
 obtain ⟨i,h1,h2,h3,h4⟩:=hb r hr
 exact (h.snd i h2).call h3 h4
theorem UM.fin {c:DCode} (h8:c.procs.length≤8) {p m:Nat} (h:UM c p m) (he:m ||| orL (cls c 4) (zbn m)=m):m=zbY (FromP c p) c.procs.length:=by
 have hlt:∀ r,m.testBit r=true→r<c.procs.length:=fun r hr=>Decidable.byContradiction fun hn=>by
   have:=Nat.testBit_lt_two_pow (Nat.lt_of_lt_of_le h.lt (Nat.pow_le_pow_right (by omega) (by omega:c.procs.length≤r)))
   rw [this] at hr;cases hr
 refine zcV fun r=>⟨fun hr=>⟨hlt r hr,h.snd r hr⟩,fun ⟨_,hf⟩=>?_⟩
 have step:∀ i j,m.testBit i=true→j∈zis c i→m.testBit j=true:=fun i j hi hj=>by
   obtain ⟨hj1,hj2⟩:=zaE.1 hj
   rw [←he,Nat.testBit_or,(zgC h.lt (by omega)).2 ⟨i,hlt i hi,hi,(zg5 (hlt i hi)).2 ⟨hj1,hj2⟩⟩]
   simp
 rcases hf with rfl | hf
 · exact h.self
 exact hf.keeps (p:=fun i=>m.testBit i=true) h.self step
theorem zn2 {c:DCode} (h8:c.procs.length≤8) (op:Int):∀ x∈cls c op,x<256:=fun x hx=>by
 obtain ⟨q,_,rfl⟩:=List.mem_map.1 hx
 exact za3 h8
theorem zvf {c:DCode} (h8:c.procs.length≤8):∀ x∈frs c,x<256:=fun x hx=>by
 obtain ⟨q,_,rfl⟩:=List.mem_map.1 hx
 exact za3 h8
theorem zlG {w W0:World} {b e m:Nat} {c:DCode} {kc:List Value} {x6 x7 x8 x9 x10:Value} (H:WB W0 w b e c kc m x6 x7 x8 x9 x10) (hc:CodeR c) :
   CALL Tryz.prog 46 [.pointer (some ⟨b,0,none⟩)] w fun r w'=>r=.tuple #[]∧∃ g6 g7 g8,FC W0 w' b e c kc m g6 g7 g8 (cls c 4) (cls c 5) (frs c) x9 x10:=by
 refine F46_call ?_
 unfold F46
 have h8:=hc.1.procs8
 have hil:=hc.f.ins
 refine NIL.mk rfl ?_
 refine zaa zbd ?_
 refine zaa zba ?_
 refine zac zbP (zar H.code_at) (Ext.refl _) fun v15 h15=>?_
 refine zag u22 h15 ?_
 have hxd:=zak w
 have H1:=H.step hxd
 have h6:(kc++[sl m c.ins.length]).length=6:=by rw [List.length_append,H.k5];rfl
 have hB0:fcB (World.drew1 w) b e (kc++[sl m c.ins.length]) x9 x10 (World.drew1 w):=⟨ChgI.refl _,x6,x7,x8,by rw [List.append_assoc];exact H1.blk⟩
 have hbl:=H1.blk.lt
 have hsd:(World.drew1 w).heap.size=w.heap.size:=rfl
 refine GPAR.mk (fcB (World.drew1 w) b e (kc++[sl m c.ins.length]) x9 x10) (fcR b e) (fcQ b e c.procs.length) hB0 (fun j w1 w2 h1 h2=>h1.step h6 h2) (fun j w1 w2 h=>h.sz) ?_ ?_ ?_
 · intro i j u u' T T' wa wb hij hBa hR hd hq
   match i,hij,hd,hq with
   | 0,_,hd,hq=>exact (hd (0,17) (by decide)).1.trans hq
   | 1,_,hd,hq=>exact (hd (1,18) (by decide)).1.trans hq
   | 2,_,hd,hq=>exact (hd (2,19) (by decide)).1.trans hq
   | 3,_,hd,hq=>exact (hd (3,20) (by decide)).1.trans hq
   | 4,_,hd,⟨g,q1,q2,q3,q4,q5⟩=>
     obtain ⟨e1,e2⟩:=hd (4,21) (by decide)
     simp only at e1 e2
     exact ⟨g,e1.trans q1,by rw [e2];exact q2,by rw [e2];exact q3,q4,hR.mine q4 q5⟩
   | 5,_,hd,hq=>exact (hd (5,22) (by decide)).1.trans hq
   | 6,_,hd,⟨g,q1,q2,q3,q4,q5⟩=>
     obtain ⟨e1,e2⟩:=hd (6,23) (by decide)
     simp only at e1 e2
     exact ⟨g,e1.trans q1,by rw [e2];exact q2,by rw [e2];exact q3,q4,hR.mine q4 q5⟩
   | 7,_,hd,hq=>exact (hd (7,24) (by decide)).1.trans hq
   | 8,_,hd,⟨g,q1,q2,q3,q4,q5⟩=>
     obtain ⟨e1,e2⟩:=hd (8,25) (by decide)
     simp only at e1 e2
     exact ⟨g,e1.trans q1,by rw [e2];exact q2,by rw [e2];exact q3,q4,hR.mine q4 q5⟩
   | 9,_,hd,hq=>exact (hd (9,26) (by decide)).1.trans hq
   | 10,_,hd,hq=>exact (hd (10,27) (by decide)).1.trans hq
   | 11,hij,hd,hq=>
     have e1:=(hd (4,21) (by decide)).1
     simp only at e1
     show ∃ cs,Blk b e wb cs∧cs[6]?=some (u' 21)
     rw [e1]
     exact hR.cell (fun hs=>by rcases hs with rfl | rfl | rfl<;>first | exact absurd rfl hij | decide) hq
   | 12,_,hd,hq=>exact (hd (12,28) (by decide)).1.trans hq
   | 13,_,hd,hq=>exact (hd (13,29) (by decide)).1.trans hq
   | 14,hij,hd,hq=>
     have e1:=(hd (6,23) (by decide)).1
     simp only at e1
     show ∃ cs,Blk b e wb cs∧cs[7]?=some (u' 23)
     rw [e1]
     exact hR.cell (fun hs=>by rcases hs with rfl | rfl | rfl<;>first | exact absurd rfl hij | decide) hq
   | 15,_,hd,hq=>exact (hd (15,30) (by decide)).1.trans hq
   | 16,_,hd,hq=>exact (hd (16,31) (by decide)).1.trans hq
   | 17,hij,hd,hq=>
     have e1:=(hd (8,25) (by decide)).1
     simp only at e1
     show ∃ cs,Blk b e wb cs∧cs[8]?=some (u' 25)
     rw [e1]
     exact hR.cell (fun hs=>by rcases hs with rfl | rfl | rfl<;>first | exact absurd rfl hij | decide) hq
   | n+18,_,_,_=>trivial
 · have nf:∀ j,j≠11→j≠14→j≠17→¬zuD j:=fun j a b d h=>by rcases h with h | h | h<;>contradiction
   refine ⟨?_,?_,?_,?_,?_,?_,?_,?_,?_,?_,?_,?_,?_,?_,?_,?_,?_,?_,trivial⟩
   · exact fun u T w' hB hs _ _=>⟨.ext (nf _ (by decide) (by decide) (by decide)) (Ext.refl _),rfl⟩
   · exact fun u T w' hB hs _ _=>⟨.ext (nf _ (by decide) (by decide) (by decide)) (Ext.refl _),rfl⟩
   · exact fun u T w' hB hs _ _=>⟨.ext (nf _ (by decide) (by decide) (by decide)) (Ext.refl _),rfl⟩
   · exact fun u T w' hB hs _ _=>⟨.ext (nf _ (by decide) (by decide) (by decide)) (Ext.refl _),rfl⟩
   · intro u T w' hB hs _ hp
     have q2:u 20=_:=hp.1
     rw [q2]
     exact zcK h8.2 (by omega) fun w4 hx4 r=>⟨.ext (nf _ (by decide) (by decide) (by decide)) hx4,_,rfl,Nat.le_refl _,r.lt _ (List.mem_singleton.2 rfl),by obtain ⟨_,_,_,_,hb⟩:=hB;have:=hb.lt;omega,r⟩
   · exact fun u T w' hB hs _ _=>⟨.ext (nf _ (by decide) (by decide) (by decide)) (Ext.refl _),rfl⟩
   · intro u T w' hB hs _ hp
     have q2:u 22=_:=hp.1
     rw [q2]
     exact zcK h8.2 (by omega) fun w4 hx4 r=>⟨.ext (nf _ (by decide) (by decide) (by decide)) hx4,_,rfl,Nat.le_refl _,r.lt _ (List.mem_singleton.2 rfl),by obtain ⟨_,_,_,_,hb⟩:=hB;have:=hb.lt;omega,r⟩
   · exact fun u T w' hB hs _ _=>⟨.ext (nf _ (by decide) (by decide) (by decide)) (Ext.refl _),rfl⟩
   · intro u T w' hB hs _ hp
     have q2:u 24=_:=hp.1
     rw [q2]
     exact zcK h8.2 (by omega) fun w4 hx4 r=>⟨.ext (nf _ (by decide) (by decide) (by decide)) hx4,_,rfl,Nat.le_refl _,r.lt _ (List.mem_singleton.2 rfl),by obtain ⟨_,_,_,_,hb⟩:=hB;have:=hb.lt;omega,r⟩
   · intro u T w' hB hs _ hp
     have q:u 17=_:=hp.1
     rw [q]
     exact NIL.mk rfl ⟨.ext (nf _ (by decide) (by decide) (by decide)) (Ext.refl _),rfl⟩
   · intro u T w' hB hs _ hp
     have q:u 26=_:=hp.1
     rw [q]
     exact zaa znz ⟨.ext (nf _ (by decide) (by decide) (by decide)) (Ext.refl _),rfl⟩
   · intro u T w' hB hs _ hp
     have q:u 27=_:=hp.1
     obtain ⟨g,q1,_⟩:=hp.2.1
     rw [q,q1]
     refine zkx (j:=11) (.inl rfl) h6 hB fun w2 hR hQ=>⟨hR,?_⟩
     show ∃ cs,Blk b e w2 cs∧cs[6]?=some (u 21)
     rw [q1];exact hQ
   · intro u T w' hB hs _ hp
     have q:u 18=_:=hp.1
     rw [q]
     exact NIL.mk rfl ⟨.ext (nf _ (by decide) (by decide) (by decide)) (Ext.refl _),rfl⟩
   · intro u T w' hB hs _ hp
     have q:u 28=_:=hp.1
     rw [q]
     exact zaa zpI ⟨.ext (nf _ (by decide) (by decide) (by decide)) (Ext.refl _),rfl⟩
   · intro u T w' hB hs _ hp
     have q:u 29=_:=hp.1
     obtain ⟨g,q1,_⟩:=hp.2.1
     rw [q,q1]
     refine zkx (j:=14) (.inr (.inl rfl)) h6 hB fun w2 hR hQ=>⟨hR,?_⟩
     show ∃ cs,Blk b e w2 cs∧cs[7]?=some (u 23)
     rw [q1];exact hQ
   · intro u T w' hB hs _ hp
     have q:u 19=_:=hp.1
     rw [q]
     exact NIL.mk rfl ⟨.ext (nf _ (by decide) (by decide) (by decide)) (Ext.refl _),rfl⟩
   · intro u T w' hB hs _ hp
     have q:u 30=_:=hp.1
     rw [q]
     exact zaa zk2 ⟨.ext (nf _ (by decide) (by decide) (by decide)) (Ext.refl _),rfl⟩
   intro u T w' hB hs _ hp
   have q:u 31=_:=hp.1
   obtain ⟨g,q1,_⟩:=hp.2.1
   rw [q,q1]
   refine zkx (j:=17) (.inr (.inr rfl)) h6 hB fun w2 hR hQ=>⟨hR,?_⟩
   show ∃ cs,Blk b e w2 cs∧cs[8]?=some (u 25)
   rw [q1];exact hQ
 rintro u T w2 hB hs hap ⟨-,-,-,-,⟨g6,q21,ha6,hb6,hn6,hM6⟩,-,⟨g7,q23,ha7,hb7,hn7,hM7⟩,-,⟨g8,q25,ha8,hb8,hn8,hM8⟩,-,-,⟨cs6,hB6,hc6⟩,-,-,⟨cs7,hB7,hc7⟩,-,-,⟨cs8,hB8,hc8⟩,-⟩
 have t4:=hap.1 4 (by decide)
 have t6:=hap.1 6 (by decide)
 have t8:=hap.1 8 (by decide)
 have d46:=hap.2 4 (by decide) 6 (by decide) (by decide)
 have d48:=hap.2 4 (by decide) 8 (by decide) (by decide)
 have d68:=hap.2 6 (by decide) 8 (by decide) (by decide)
 obtain ⟨hch,y6,y7,y8,hBB⟩:=hB
 have u6:=hBB.uniq hB6
 have u7:=hBB.uniq hB7
 have u8:=hBB.uniq hB8
 subst u6 u7 u8
 rw [List.getElem?_append_right (by rw [h6];decide),h6,q21] at hc6
 rw [List.getElem?_append_right (by rw [h6];decide),h6,q23] at hc7
 rw [List.getElem?_append_right (by rw [h6];decide),h6,q25] at hc8
 have e6:y6=sl g6 c.procs.length:=by simpa using hc6
 have e7:y7=sl g7 c.procs.length:=by simpa using hc7
 have e8:y8=sl g8 c.procs.length:=by simpa using hc8
 subst e6 e7 e8
 rw [List.append_assoc] at hBB
 have hW2:=H1.cells hch hBB
 have hml:=H1.live.lt m (by simp)
 have hb0:=H.b0
 have hF2:FC W0 w2 b e c kc m g6 g7 g8 (List.replicate c.procs.length 0) (List.replicate c.procs.length 0) (List.replicate c.procs.length 0) x9 x10:=⟨hW2,hM6,hM7,hM8,⟨by omega,hn6,by omega⟩,⟨by omega,hn7,by omega⟩,⟨by omega,hn8,by omega⟩,by omega,by omega,by omega⟩
 clear hc6 hc7 hc8 hB6 hB7 hB8 hBB hW2 hch H1 hB0 hap d46 d48 d68 t4 t6 t8
 have hz:∀ op,CS c (List.replicate c.procs.length 0) (fcD c op 0 [] 0):=fun op=>CS.zero fun q r h=>by unfold fcD at h;simp at h
 have hz4:=hz 4
 have hz5:=hz 5
 have hc8l:(List.replicate c.procs.length 0).length=c.procs.length:=by simp
 refine zaq c.procs.length (fun k us w'=>∃ c6 c7,us=[.int .i64 (k:Int)]∧k≤c.procs.length∧FC W0 w' b e c kc m g6 g7 g8 c6 c7 (List.replicate c.procs.length 0) x9 x10∧CS c c6 (fcD c 4 k [] 0)∧CS c c7 (fcD c 5 k [] 0)) 0 (Nat.zero_le _) ⟨_,_,rfl,Nat.zero_le _,hF2,hz4,hz5⟩ ?_
 rintro p mk u3 w3 hkm ⟨c6,c7,hu,hkl,hF3,hC6,hC7⟩
 simp only [List.map_cons,List.map_nil,List.cons.injEq,and_true] at hu
 rw [hu]
 refine zah ?_
 refine br (fun hlt=>?_) (fun hge=>?_)
 · have hp:p<c.procs.length:=by omega
   have hpe:p<c.entry.length:=by rw [hc.2.1.1];exact hp
   refine (ze9 hF3.wb.wl (Ext.refl _) hc hp).mono ?_
   rintro v38 w4 ⟨hx4,ho4⟩
   have hF4:=hF3.step hx4
   have hM:∀ i,i∈zaS c.ins.length (zaC c p)↔zaC c p i:=fun i=>by rw [zaE];exact ⟨fun h=>h.2,fun h=>⟨(zby hc hpe h).1,h⟩⟩
   have hMl:(zaS c.ins.length (zaC c p)).length≤1500:=Nat.le_trans zaT hil
   generalize zaS c.ins.length (zaC c p)=M at *
   have hg6:=hF3.m6.lt g6 (by simp)
   have hg7:=hF3.m7.lt g7 (by simp)
   refine zag u23 ho4.is ?_
   rw [zae]
   refine zaq M.length (fun j us w'=>∃ c6 c7,us=[.int .i64 (j:Int)]∧j≤M.length∧FC W0 w' b e c kc m g6 g7 g8 c6 c7 (List.replicate c.procs.length 0) x9 x10∧CS c c6 (fcD c 4 p M j)∧CS c c7 (fcD c 5 p M j)∧OwnI w3.heap.size w4.heap.size w' v38 (zaA M)) 0 (Nat.zero_le _) ⟨c6,c7,rfl,Nat.zero_le _,hF4,hC6.mono fun q r _ _=>zqN q r,hC7.mono fun q r _ _=>zqN q r,ho4.toI⟩ ?_
   rintro j mj u5 w5 hjm ⟨c65,c75,hu,hjl,hF5,hC65,hC75,hO5⟩
   simp only [List.map_cons,List.map_nil,List.cons.injEq,and_true] at hu
   rw [hu]
   refine zah ?_
   refine br (fun hlt5=>?_) (fun hge5=>?_)
   case refine_2=>
     have hje:j=M.length:=by omega
     rw [hje] at hC65 hC75
     refine zaf (by omega) ?_
     exact ⟨mk-1,by omega,p+1,by omega,c65,c75,rfl,by omega,hF5,hC65.mono fun q r _ _=>zqM hc (.inl rfl) hp hM q r,hC75.mono fun q r _ _=>zqM hc (.inr rfl) hp hM q r⟩
   have hj:j<M.length:=by omega
   refine zad u23 ty3 (i:=j) hO5.is (by rw [zae];exact hj) fun b2 o2 hA2=>?_
   rw [zaL] at hA2
   refine zab ty3 hA2 (Ext.refl _) fun _=>?_
   have htj:=fun x=>za9 hj (x:=x)
   have hiv:=(hM M[j]).1 (List.getElem_mem hj)
   generalize M[j]=i at *
   have hin:=(zby hc hpe hiv).1
   obtain ⟨v4,hv4,hi4⟩:=hF5.wb.ins
   refine NIL.mk rfl ?_
   refine zaa zbd ?_
   refine zaa zaJ ?_
   refine zay zct hF5.wb.blk hv4 ?_
   refine zad u29 zcb hi4 hin fun b3 o3 hA3=>?_
   rw [zaF] at hA3
   refine zac zcb hA3 hF5.wb.ext fun v51 h51=>?_
   refine zbX zmj rfl zcb rfl h51 hF5.wb.ext fun w6 hx6 hAI hV6=>?_
   have hF6:=hF5.step hx6
   have hO6:=hO5.ext hx6
   have hAB6:=ze1 h51 hV6 rfl
   have hgI:=hV6.lt
   have hgI0:w5.heap.size≠g6:=by have:=hF5.m6.lt g6 (by simp);omega
   generalize w5.heap.size=gI at *
   refine JOIN.mk (fun us w'=>∃ c6',FC W0 w' b e c kc m g6 g7 g8 c6' c75 (List.replicate c.procs.length 0) x9 x10∧CS c c6' (fcD c 4 p M (j+1))∧OwnI w3.heap.size w4.heap.size w' v38 (zaA M)∧AtB W0 w' gI 0 (zal c i)) ?_ ?_
   · refine zaa za6 ?_
     refine zab ty3 (zas hAI) (Ext.refl _) fun _=>?_
     refine zao ?_
     refine br (fun c4=>?_) (fun c4=>?_)
     · obtain ⟨ha1,ha2⟩:=zbN hc hin (.inl c4)
       have hxd:=zak w6
       have hF7:=hF6.step hxd
       have hO7:=hO6.ext hxd
       have hAB7:=hAB6.ext hxd
       have hgI7:gI<(World.drew1 w6).heap.size:=Nat.lt_of_lt_of_le hgI hxd.size
       generalize World.drew1 w6=w7 at *
       have hpl:p<c65.length:=by rw [hC65.1];exact hp
       refine NIL.mk rfl ?_
       refine zaa znz ?_
       refine zay zbE hF7.wb.blk (hF7.wb.cell 1) ?_
       refine zad u23 ty3 (i:=p) hF7.m6.is (by rw [zae];exact hpl) fun b4 o4 hA4=>?_
       rw [zaG] at hA4
       refine zab ty3 hA4 (Ext.refl _) fun _=>?_
       have h256:=hC65.lt0 h8.1 hp
       refine zaa za7 ?_
       refine zab ty3 (zav hAI) hxd fun _=>?_
       rw [ha1]
       have hpw:2^agN c i<256:=Nat.lt_of_lt_of_le (Nat.pow_lt_pow_right (by omega) ha2) (Nat.pow_le_pow_right (n:=2) (by omega) h8.1)
       refine zbA (by kernel_rfl) zh4 (by omega) ?_
       refine zda (by omega) ?_
       refine zeZ (m:=zau c65 p) (n:=2^agN c i) (by omega) (by omega) ?_
       have hor:zau c65 p ||| 2^agN c i<256:=Nat.or_lt_two_pow (n:=8) h256 hpw
       refine zbs (α:=Int) rfl u23 ty3 hp ?_
       refine za2 (α:=Int) rfl ty3 hF7.m6 (by rw [zae,hC65.1]) hp (zbk (v:=zau c65 p ||| 2^agN c i) (by omega)) fun w8 hc8 hm8=>?_
       have hF8:=hF7.set6 (v:=zau c65 p ||| 2^agN c i) hc8 hm8
       exact ⟨_,hF8,hC65.set hp ha2 fun q r=>zqL htj c4 q r,hO7.chgF hc8 (by simp;omega),hAB7.keep (hc8.block gI hgI7 (by simp;exact hgI0))⟩
     exact ⟨c65,hF6,hC65.mono fun q r _ _=>ztq htj c4 q r,hO6,hAB6⟩
   rintro u9 w9 ⟨c69,hF9,hC69,hO9,hAB9⟩
   have hAI9:=hAB9.at hF9.wb.ext
   refine zaa za6 ?_
   refine zab ty3 (zas hAI9) (Ext.refl _) fun _=>?_
   refine zao ?_
   refine br (fun c5=>?_) (fun c5=>?_)
   · obtain ⟨ha1,ha2⟩:=zbN hc hin (.inr c5)
     have hxd:=zak w9
     have hF10:=hF9.step hxd
     have hO10:=hO9.ext hxd
     generalize World.drew1 w9=w10 at *
     have hpl:p<c75.length:=by rw [hC75.1];exact hp
     refine NIL.mk rfl ?_
     refine zaa zpI ?_
     refine zay zbE hF10.wb.blk (hF10.wb.cell 2) ?_
     refine zad u23 ty3 (i:=p) hF10.m7.is (by rw [zae];exact hpl) fun b4 o4 hA4=>?_
     rw [zaG] at hA4
     refine zab ty3 hA4 (Ext.refl _) fun _=>?_
     have h256:=hC75.lt0 h8.1 hp
     refine zaa za7 ?_
     refine zab ty3 (zav hAI9) hxd fun _=>?_
     rw [ha1]
     have hpw:2^agN c i<256:=Nat.lt_of_lt_of_le (Nat.pow_lt_pow_right (by omega) ha2) (Nat.pow_le_pow_right (n:=2) (by omega) h8.1)
     refine zbA (by kernel_rfl) zh4 (by omega) ?_
     refine zda (by omega) ?_
     refine zeZ (m:=zau c75 p) (n:=2^agN c i) (by omega) (by omega) ?_
     have hor:zau c75 p ||| 2^agN c i<256:=Nat.or_lt_two_pow (n:=8) h256 hpw
     refine zbs (α:=Int) rfl u23 ty3 hp ?_
     refine za2 (α:=Int) rfl ty3 hF10.m7 (by rw [zae,hC75.1]) hp (zbk (v:=zau c75 p ||| 2^agN c i) (by omega)) fun w11 hc11 hm11=>?_
     have hF11:=hF10.set7 (v:=zau c75 p ||| 2^agN c i) hc11 hm11
     refine zaf (by omega) ?_
     exact ⟨mj-1,by omega,j+1,by omega,c69,_,rfl,by omega,hF11,hC69,hC75.set hp ha2 fun q r=>zqL htj c5 q r,hO10.chgF hc11 (by simp;omega)⟩
   refine zaf (by omega) ?_
   exact ⟨mj-1,by omega,j+1,by omega,c69,c75,rfl,by omega,hF9,hC69,hC75.mono fun q r _ _=>ztq htj c5 q r,hO9⟩
 have hke:p=c.procs.length:=by omega
 rw [hke] at hC6 hC7
 rw [hC6.done,hC7.done] at hF3
 clear hC6 hC7 hF2 hkm hu
 have hCz:CS c (List.replicate c.procs.length 0) (fun q r=>q<0∧FromP c q r):=CS.zero fun q r h=>by omega
 generalize List.replicate c.procs.length 0=c8 at *
 refine zaq c.procs.length (fun k us w'=>∃ c8,us=[.int .i64 (k:Int)]∧k≤c.procs.length∧FC W0 w' b e c kc m g6 g7 g8 (cls c 4) (cls c 5) c8 x9 x10∧CS c c8 (fun q r=>q<k∧FromP c q r)) 0 (Nat.zero_le _) ⟨_,rfl,Nat.zero_le _,hF3,hCz⟩ ?_
 rintro k mk u4 w4 hkm ⟨c84,hu,hkl,hF4,hC84⟩
 simp only [List.map_cons,List.map_nil,List.cons.injEq,and_true] at hu
 rw [hu]
 refine zah ?_
 refine br (fun hlt4=>?_) (fun hge4=>?_)
 case refine_2=>
   have hke:k=c.procs.length:=by omega
   rw [hke] at hC84
   have:c84=frs c:=by
     refine List.ext_getElem (by rw [hC84.1,zg3]) fun i h1 h2=>?_
     have hi:i<c.procs.length:=by rw [←hC84.1];exact h1
     rw [zaX h1,zaX h2,znU hi,hC84.2 i hi]
     exact za8 fun r _=>⟨fun h=>h.2,fun h=>⟨hi,h⟩⟩
   rw [this] at hF4
   exact ⟨rfl,g6,g7,g8,hF4⟩
 have hk:k<c.procs.length:=by omega
 refine zbA (by kernel_rfl) zh4 (by omega) ?_
 refine zda (by omega) ?_
 have hU:=UM.start (c:=c) hk
 have h8':2^c.procs.length≤256:=Nat.pow_le_pow_right (n:=2) (by omega) h8.1
 refine LOOPI.mk (fun mm us w'=>∃ (s:Nat) (ag:Bool),us=[.int .i64 (s:Int),.bool ag]∧mm=(256-s)+(if ag then 1 else 0)∧FC W0 w' b e c kc m g6 g7 g8 (cls c 4) (cls c 5) c84 x9 x10∧UM c k s∧(ag=false→s=zbY (FromP c k) c.procs.length)) (256-2^k+1) ⟨2^k,true,rfl,rfl,hF4,hU,fun e=>by cases e⟩ ?_
 rintro mm u5 w5 ⟨s,ag,hu,hm,hF5,hU5,hend⟩
 obtain ⟨hu1,hu2⟩:=zb1 hu
 rw [hu1,hu2]
 have hs256:s<256:=Nat.lt_of_lt_of_le hU5.lt h8'
 refine zbw (fun hag=>?_) (fun hag=>?_)
 · rw [hag,if_pos rfl] at hm
   refine NIL.mk rfl ?_
   refine zaa znz ?_
   refine zay zbE hF5.wb.blk (hF5.wb.cell 1) ?_
   refine (zfs hF5.m6.is (Ext.refl _) (zn2 h8.1 4) (by rw [zfa];exact h8.1) (m:=s) (by rw [zfa];exact hU5.lt)).mono ?_
   rintro _ w6 ⟨hx6,rfl⟩
   have hF6:=hF5.step hx6
   have hor:=znQ (zn2 h8.1 4) (zbn s)
   have hU6:=hU5.more h8.1
   have hfin:=hU5.fin h8.1
   have hgt:=fun h=>zsg (m:=orL (cls c 4) (zbn s)) (n:=s) h
   refine zeZ (m:=s) (n:=orL (cls c 4) (zbn s)) (by omega) (by omega) ?_
   have hor2:s ||| orL (cls c 4) (zbn s)<256:=Nat.or_lt_two_pow (n:=8) hs256 hor
   generalize s ||| orL (cls c 4) (zbn s)=t at *
   refine zaI ?_
   by_cases hts:t=s
   · refine ⟨256-t,by omega,t,_,rfl,?_,hF6,hU6,fun _=>by rw [hts];exact hfin hts⟩
     rw [hts];simp
   have hd:decide ((t:Int)≠(s:Int))=true:=decide_eq_true fun h=>hts (Int.ofNat_inj.1 h)
   have:=hgt hts
   rw [hd]
   exact ⟨256-t+1,by omega,t,true,rfl,rfl,hF6,hU6,fun e=>by cases e⟩
 have hse:=hend hag
 have hpl:k<c84.length:=by rw [hC84.1];exact hk
 refine NIL.mk rfl ?_
 refine zaa zk2 ?_
 refine zay zbE hF5.wb.blk (hF5.wb.cell 3) ?_
 refine zbs (α:=Int) rfl u23 ty3 hk ?_
 refine za2 (α:=Int) rfl ty3 hF5.m8 (by rw [zae,hC84.1]) hk (zbk (v:=s) (by omega)) fun w6 hc6 hm6=>?_
 have hF6:=hF5.set8 (v:=s) hc6 hm6
 refine zaf (by omega) ?_
 refine ⟨mk-1,by omega,k+1,by omega,_,rfl,by omega,hF6,by simp [hC84.1],fun q hq=>?_⟩
 rw [zbQ hpl]
 split
 · rename_i e
   subst e
   rw [hse]
   exact za8 fun r _=>⟨fun h=>⟨by omega,h⟩,fun h=>h.2⟩
 rename_i e
 rw [hC84.2 q hq]
 exact za8 fun r _=>⟨fun h=>⟨by omega,h.2⟩,fun h=>⟨by omega,h.2⟩⟩
def F90 (a0:Value) (w:World) (R:VW):Prop:=
 NIL a0 <|
 rF 97 a0 0 w fun x5=>
 rF 31 x5 2 w fun x6=>
 rL 22 x6 w fun x7=>
 cL 144 [x7,(Value.string (ByteArray.mk #[109,97,105,110]))] w fun x8 w=>
 R x8 w
def cfg90:Cfg:=⟨extL,[],[],[],[],[],[]⟩
theorem F90_call {a0:Value} {w:World} {R:VW} (h:F90 a0 w R):cL 90 [a0] w R:=co (g:=cfg90) Tryz.func90 (by kernel_rfl) (by kernel_rfl) (by kernel_rfl) h
def F47 (a0:Value) (w:World) (R:VW):Prop:=
 cL 90 [a0] w fun x6 w=>
 rD (convert 3 139 x6) w fun x7=>
 rB .shl 3 U0 T0 (iV 1) x7 w fun x8=>
 LOOPI [2,3] [x8,(Value.bool true)] w fun u2 w next2=>
 BR (u2 3)
 (NIL a0 <|
 rF 97 a0 4 w fun x13=>
 rL 23 x13 w fun x14=>
 cL 89 [x14,(u2 2)] w fun x16 w=>
 NIL a0 <|
 rF 97 a0 6 w fun x18=>
 oS 3 x18 x16 w fun w=>
 (fun w=>NIL a0 <|
 rF 97 a0 3 w fun x22=>
 rL 23 x22 w fun x23=>
 NIL a0 <|
 rF 97 a0 6 w fun x26=>
 rL 3 x26 w fun x27=>
 (fun w_=>cL 89 [x23,x27] w_ fun x28 w=>
 Ext w_ w ∧
 rB .or 3 T0 T0 (u2 2) x28 w fun x29=>
 rB .neq 3 T0 T0 x29 (u2 2) w fun x32=>
 next2 [x29,x32] w) w) (World.drew1 w))
 (NIL a0 <|
 rF 97 a0 5 w fun x37=>
 oS 3 x37 (u2 2) w fun w=>
 R (Value.tuple #[]) w)
def cfg47:Cfg:=⟨extL,[],[(2,17179868700,[2,3])],[(4,[0,1,2,3,4,5,6,7,8,9,10,11],512)],[],[],[]⟩
theorem F47_call {a0:Value} {w:World} {R:VW} (h:F47 a0 w R):cL 47 [a0] w R:=co (g:=cfg47) Tryz.func47 (by kernel_rfl) (by kernel_rfl) (by kernel_rfl) h
def F20 (a0:Value) (w:World) (R:VW):Prop:=
 oP (Instr.box 31 a0) w fun x1 w=>
 rL 31 x1 w fun x7=>
 cL 44 [x7] w fun x8 w=>
 rD (Op.unary .not x8) w fun x9=>
 BR x9
 (R (Value.tuple #[(Value.pointer none),(Value.bool false)]) w)
 ((fun w=>rL 31 x1 w fun x10=>
 rF 31 x1 4 w fun x11=>
 rL 29 x11 w fun x12=>
 rN 29 3 x12 w fun x13=>
 (fun w_=>oP (Instr.makeSlice 82 x13 x13) w_ fun x14 w=>
 Ext w_ w ∧
 (rD (Instr.build 97 #[(0,x10),(1,x14)]) w fun x15=>
 oP (Instr.box 97 x15) w fun x16 w=>
 rF 31 x1 3 w fun x17=>
 rL 23 x17 w fun x18=>
 rN 23 3 x18 w fun x19=>
 LOOPI [20] [(iV 0)] w fun u5 w next5=>
 rC (u5 20) x19 w fun x21=>
 BR x21
 (rX 23 x18 (u5 20) w fun x22=>
 rL 3 x22 w fun x23=>
 NIL x16 <|
 rF 97 x16 1 w fun x26=>
 rL 82 x26 w fun x27=>
 rX 82 x27 x23 w fun x29=>
 oS 4 x29 (Value.bool true) w fun w=>
 NIL x16 <|
 rF 97 x16 1 w fun x33=>
 rL 82 x33 w fun x34=>
 cL 45 [x16,x34,x23] w fun x36 w=>
 rA (u5 20) (iV 1) w fun x37=>
 next5 [x37] w)
 (cL 46 [x16] w fun x39 w=>
 cL 47 [x16] w fun x41 w=>
 R (Value.tuple #[x16,(Value.bool true)]) w))) w) (World.drew1 w))
def cfg20:Cfg:=⟨extL,[],[(5,274876858432,[20])],[(3,[0,1,2,3,4,5,6,7],16)],[],[],[]⟩
theorem F20_call {a0:Value} {w:World} {R:VW} (h:F20 a0 w R):cL 20 [a0] w R:=co (g:=cfg20) Tryz.func20 (by kernel_rfl) (by kernel_rfl) (by kernel_rfl) h
open Rep (rep)
theorem ztr {w:World} {g e o:Nat} {cs:List Value} {x:Int} (hB:Blk g e w cs) (ho:cs[o]?=some (.int .i64 x)) (hx:I64 x):At w g o x:=by
 refine ⟨[],[.int .i64 x],⟨rfl,rfl,hx⟩,fun i u hi=>?_⟩
 have:i=0:=by
   cases i with
   | zero=>rfl
   | succ i=>simp at hi
 subst this
 simp only [List.getElem?_cons_zero,Option.some.injEq] at hi
 subst hi
 have:=hB.range o _ ho
 rw [Nat.zero_add] at this
 exact this
section
variable {W0 w w':World} {b e m g6 g7 g8:Nat} {c:DCode} {kc:List Value} {c6 c7 c8:List Nat} {x9 x10 y9 y10:Value}
theorem FC.cells (h:FC W0 w b e c kc m g6 g7 g8 c6 c7 c8 x9 x10) (hc:ChgI b (b+1) w w') (hB:Blk b e w' (kc++[.slice (some ⟨m,0,none⟩) c.ins.length c.ins.length,sl g6 c.procs.length,sl g7 c.procs.length,sl g8 c.procs.length,y9,y10])):FC W0 w' b e c kc m g6 g7 g8 c6 c7 c8 y9 y10:=
 ⟨h.wb.cells hc hB,zdo h.m6 hc.one (by simp [h.n6]),zdo h.m7 hc.one (by simp [h.n7]),zdo h.m8 hc.one (by simp [h.n8]),h.n6,h.n7,h.n8,h.d67,h.d68,h.d78⟩
theorem FC.store9 {x:Nat} {K:World→Prop} (h:FC W0 w b e c kc m g6 g7 g8 c6 c7 c8 x9 x10) (k:∀ w',FC W0 w' b e c kc m g6 g7 g8 c6 c7 c8 (.int .i64 (x:Int)) x10→K w'):OPU Tryz.prog (Instr.storeAt 3 (.pointer (some ⟨b,0+9,none⟩)) (.int .i64 (x:Int))) w K:=by
 have hl:9<(kc++[Value.slice (some ⟨m,0,none⟩) c.ins.length c.ins.length,sl g6 c.procs.length,sl g7 c.procs.length,sl g8 c.procs.length,x9,x10]).length:=by rw [List.length_append,h.wb.k5];simp
 refine zcG (α:=Raw) (lo:=0) (hi:=0) ty3 rfl rfl h.wb.blk hl (zcL rfl) fun w2 hc2 hB2=>?_
 have:=h.wb.set 4 (.int .i64 (x:Int))
 rw [show 5+4=0+9 by omega] at this
 rw [this] at hB2
 exact k w2 (h.cells hc2 hB2)
theorem FC.store10 {x:Nat} {K:World→Prop} (h:FC W0 w b e c kc m g6 g7 g8 c6 c7 c8 x9 x10) (k:∀ w',FC W0 w' b e c kc m g6 g7 g8 c6 c7 c8 x9 (.int .i64 (x:Int))→K w'):OPU Tryz.prog (Instr.storeAt 3 (.pointer (some ⟨b,0+10,none⟩)) (.int .i64 (x:Int))) w K:=by
 have hl:10<(kc++[Value.slice (some ⟨m,0,none⟩) c.ins.length c.ins.length,sl g6 c.procs.length,sl g7 c.procs.length,sl g8 c.procs.length,x9,x10]).length:=by rw [List.length_append,h.wb.k5];simp
 refine zcG (α:=Raw) (lo:=0) (hi:=0) ty3 rfl rfl h.wb.blk hl (zcL rfl) fun w2 hc2 hB2=>?_
 have:=h.wb.set 5 (.int .i64 (x:Int))
 rw [show 5+5=0+10 by omega] at this
 rw [this] at hB2
 exact k w2 (h.cells hc2 hB2)
end
theorem zf3 {w:World} {b:Nat} {c:DCode} (hA:At w b 0 c) (hc:CodeR c) :
   CALL Tryz.prog 90 [.pointer (some ⟨b,0,none⟩)] w fun r w'=>Ext w w'∧r=.int .i64 (zb0 c:Nat):=by
 refine F90_call ?_
 unfold F90
 refine NIL.mk rfl ?_
 refine zaa zbd ?_
 refine zaa zba ?_
 refine zac zbP (zar hA) (Ext.refl _) fun v15 h15=>?_
 refine (zif h15 (Ext.refl _)).mono ?_
 rintro _ w2 ⟨hx2,rfl⟩
 have:=(zdn hc).1
 unfold zja at this
 rw [this]
 exact ⟨hx2,rfl⟩
structure RM (c:DCode) (r:Nat):Prop where
 lt:r<2^c.procs.length
 self:r.testBit (zb0 c)=true
 snd:∀ q,r.testBit q=true→RootP c q
noncomputable def usR (c:DCode) (r:Nat):Nat:=orL (frs c) (zbn r)
theorem zmX {c:DCode} {q r:Nat} (hq:q<c.procs.length):(zau (frs c) q).testBit r=true↔r<c.procs.length∧FromP c q r:=by rw [znU hq,zaO]
theorem zky {c:DCode} (h8:c.procs.length≤8) {r p:Nat} (h:RM c r):(usR c r).testBit p=true↔∃ q,q<c.procs.length∧r.testBit q=true∧p<c.procs.length∧FromP c q p:=by
 unfold usR
 rw [zgC h.lt (by omega)]
 exact ⟨fun ⟨i,h1,h2,h3⟩=>⟨i,h1,h2,(zmX h1).1 h3⟩,fun ⟨i,h1,h2,h3⟩=>⟨i,h1,h2,(zmX h1).2 h3⟩⟩
theorem zts {c:DCode} (h8:c.procs.length≤8) {r:Nat} (h:RM c r):usR c r<2^c.procs.length:=zmW fun p hp=>by
 obtain ⟨_,_,_,h3,_⟩:=(zky h8 h).1 hp;exact h3
theorem RM.start {c:DCode} (hc:CodeR c):RM c (2^zb0 c):=⟨Nat.pow_lt_pow_right (by omega) (zdn hc).2,by simp [Nat.testBit_two_pow],fun q hq=>by simp [Nat.testBit_two_pow] at hq;exact hq▸.main⟩
theorem RM.more_bit {c:DCode} (h8:c.procs.length≤8) {r q:Nat} (h:RM c r):(orL (cls c 5) (zbn (usR c r))).testBit q=true↔∃ p,p<c.procs.length∧(usR c r).testBit p=true∧q<c.procs.length∧zip c p 5 q:=by
 rw [zgC (zts h8 h) (by omega)]
 exact ⟨fun ⟨i,h1,h2,h3⟩=>⟨i,h1,h2,(zg5 h1).1 h3⟩,fun ⟨i,h1,h2,h3⟩=>⟨i,h1,h2,(zg5 h1).2 h3⟩⟩
theorem RM.more {c:DCode} (h8:c.procs.length≤8) {r:Nat} (h:RM c r):RM c (r ||| orL (cls c 5) (zbn (usR c r))):=by
 refine ⟨Nat.or_lt_two_pow h.lt (zmW fun q hq=>by obtain ⟨_,_,_,h3,_⟩:=(h.more_bit h8).1 hq;exact h3),by rw [Nat.testBit_or,h.self];rfl,fun q hq=>?_⟩
 rw [Nat.testBit_or,Bool.or_eq_true] at hq
 rcases hq with hq | hq
 · exact h.snd q hq
 obtain ⟨p,h1,h2,h3,h4⟩:=(h.more_bit h8).1 hq
 obtain ⟨s,h5,h6,_,h7⟩:=(zky h8 h).1 h2
 exact .spawn (h.snd s h6) h7 h4 h3
theorem RM.fin {c:DCode} (hc:CodeR c) (h8:c.procs.length≤8) {r:Nat} (h:RM c r) (he:r ||| orL (cls c 5) (zbn (usR c r))=r):r=zce c∧usR c r=zdd c:=by
 have hall:∀ q,RootP c q→r.testBit q=true:=fun q hq=>by
   induction hq with
   | main=>exact h.self
   | @spawn s p q h0 h1 h2 hq ih=>
     have hs:=h0.lt hc
     rw [←he,Nat.testBit_or,(h.more_bit h8).2 ⟨p,h1.lt hs,(zky h8 h).2 ⟨s,hs,ih,h1.lt hs,h1⟩,hq,h2⟩]
     simp
 refine ⟨zcV fun q=>⟨fun hq=>⟨(h.snd q hq).lt hc,h.snd q hq⟩,fun hq=>hall q hq.2⟩,zcV fun p=>?_⟩
 rw [zky h8 h]
 constructor
 · rintro ⟨q,h1,h2,h3,h4⟩
   exact ⟨h3,q,h.snd q h2,h4⟩
 rintro ⟨h3,q,h1,h2⟩
 exact ⟨q,h1.lt hc,hall q h1,h3,h2⟩
theorem zlH {w W0:World} {b e m g6 g7 g8:Nat} {c:DCode} {kc:List Value} {x9 x10:Value} (H:FC W0 w b e c kc m g6 g7 g8 (cls c 4) (cls c 5) (frs c) x9 x10) (hc:CodeR c) :
   CALL Tryz.prog 47 [.pointer (some ⟨b,0,none⟩)] w fun r w'=>r=.tuple #[]∧FC W0 w' b e c kc m g6 g7 g8 (cls c 4) (cls c 5) (frs c) (.int .i64 (zce c:Nat)) (.int .i64 (zdd c:Nat)):=by
 refine F47_call ?_
 unfold F47
 have h8:=hc.1.procs8
 have hml:=(zdn hc).2
 refine (zf3 H.wb.code_at hc).mono ?_
 rintro _ w1 ⟨hx1,rfl⟩
 have H1:=H.step hx1
 refine zbA (by kernel_rfl) zh4 (by omega) ?_
 refine zda (by omega) ?_
 have hR:=RM.start hc
 have h8':2^c.procs.length≤256:=Nat.pow_le_pow_right (n:=2) (by omega) h8.1
 refine LOOPI.mk (fun mm us w'=>∃ (s:Nat) (ag:Bool) (y:Value),us=[.int .i64 (s:Int),.bool ag]∧mm=(256-s)+(if ag then 1 else 0)∧FC W0 w' b e c kc m g6 g7 g8 (cls c 4) (cls c 5) (frs c) x9 y∧RM c s∧(ag=false→s=zce c∧y=.int .i64 (zdd c:Nat))) (256-2^zb0 c+1) ⟨2^zb0 c,true,x10,rfl,rfl,H1,hR,fun e=>by cases e⟩ ?_
 rintro mm u2 w2 ⟨s,ag,y,hu,hm,H2,hR2,hend⟩
 obtain ⟨hu1,hu2⟩:=zb1 hu
 rw [hu1,hu2]
 have hs256:s<256:=Nat.lt_of_lt_of_le hR2.lt h8'
 refine zbw (fun hag=>?_) (fun hag=>?_)
 · rw [hag,if_pos rfl] at hm
   refine NIL.mk rfl ?_
   refine zaa zk2 ?_
   refine zay zbE H2.wb.blk (H2.wb.cell 3) ?_
   refine (zfs H2.m8.is (Ext.refl _) (zvf h8.1) (by rw [zg3];exact h8.1) (m:=s) (by rw [zg3];exact hR2.lt)).mono ?_
   rintro _ w3 ⟨hx3,rfl⟩
   have H3:=H2.step hx3
   have hul:=zts h8.1 hR2
   have hu256:usR c s<256:=Nat.lt_of_lt_of_le hul h8'
   have hue:orL (frs c) (zbn s)=usR c s:=rfl
   rw [hue]
   refine NIL.mk rfl ?_
   refine zaa zh1 ?_
   refine H3.store10 fun w4 H4=>?_
   have hxd:=zak w4
   have H5:=H4.step hxd
   generalize World.drew1 w4=w5 at *
   refine NIL.mk rfl ?_
   refine zaa zpI ?_
   refine zay zbE H5.wb.blk (H5.wb.cell 2) ?_
   refine NIL.mk rfl ?_
   refine zaa zh1 ?_
   refine zay ty3 H5.wb.blk (H5.wb.cell 5) ?_
   refine (zfs H5.m7.is (Ext.refl _) (zn2 h8.1 5) (by rw [zfa];exact h8.1) (m:=usR c s) (by rw [zfa];exact hul)).mono ?_
   rintro _ w6 ⟨hx6,rfl⟩
   have H6:=H5.step hx6
   have hor:=znQ (zn2 h8.1 5) (zbn (usR c s))
   have hR6:=hR2.more h8.1
   have hfin:=hR2.fin hc h8.1
   have hgt:=fun h=>zsg (m:=orL (cls c 5) (zbn (usR c s))) (n:=s) h
   refine ⟨hx6,?_⟩
   refine zeZ (m:=s) (n:=orL (cls c 5) (zbn (usR c s))) (by omega) (by omega) ?_
   have hor2:s ||| orL (cls c 5) (zbn (usR c s))<256:=Nat.or_lt_two_pow (n:=8) hs256 hor
   generalize s ||| orL (cls c 5) (zbn (usR c s))=t at *
   refine zaI ?_
   by_cases hts:t=s
   · refine ⟨256-t,by omega,t,_,_,rfl,?_,H6,hR6,fun _=>?_⟩
     · rw [hts];simp
     rw [(hfin hts).2]
     exact ⟨by rw [hts];exact (hfin hts).1,rfl⟩
   have hd:decide ((t:Int)≠(s:Int))=true:=decide_eq_true fun h=>hts (Int.ofNat_inj.1 h)
   have:=hgt hts
   rw [hd]
   exact ⟨256-t+1,by omega,t,true,_,rfl,rfl,H6,hR6,fun e=>by cases e⟩
 obtain ⟨hse,hye⟩:=hend hag
 rw [hye] at H2
 refine NIL.mk rfl ?_
 refine zaa zh0 ?_
 refine H2.store9 fun w3 H3=>?_
 rw [hse] at H3
 exact ⟨rfl,H3⟩
theorem FC.wat {W0 w:World} {b e m g6 g7 g8:Nat} {c:DCode} {kc:List Value} (H:FC W0 w b e c kc m g6 g7 g8 (cls c 4) (cls c 5) (frs c) (.int .i64 (zce c:Nat)) (.int .i64 (zdd c:Nat))) (h8:c.procs.length≤8):WAt w b c:=by
 have h1:zce c<256:=za3 h8
 have h2:zdd c<256:=za3 h8
 exact ⟨H.wb.wl,zej H.wb.blk (H.wb.cell 1) H.m6.is,zej H.wb.blk (H.wb.cell 2) H.m7.is,zej H.wb.blk (H.wb.cell 3) H.m8.is,ztr H.wb.blk (H.wb.cell 4) (by unfold I64;omega),ztr H.wb.blk (H.wb.cell 5) (by unfold I64;omega)⟩
theorem zoM {w W0:World} {v0:Value} {c:DCode} (h0:Is W0 v0 c) (e0:Ext W0 w) :
   CALL Tryz.prog 20 [v0] w fun r w'=>Ext w w'∧((¬CodeR c∧r=.tuple #[.pointer none,.bool false])∨(CodeR c∧∃ b,r=.tuple #[.pointer (some ⟨b,0,none⟩),.bool true]∧WAt w' b c)):=by
 refine F20_call ?_
 unfold F20
 refine zbr h0 e0 fun w1 hx1 hA=>?_
 refine zac zbt hA (Ext.refl _) fun v7 h7=>?_
 refine (zgs h7 (Ext.refl _)).mono ?_
 rintro _ w2 ⟨hx2,rfl⟩
 refine zaz ?_
 refine br (fun hn=>?_) (fun hy=>?_)
 · exact ⟨hx1.trans hx2,.inl ⟨hn,rfl⟩⟩
 have hc:CodeR c:=Decidable.not_not.1 hy
 have h8:=hc.1.procs8
 have hil:=hc.f.ins
 have hz0:=(zdj hc h8.2).2.2
 have hxd:=zak w2
 have hx3:=hx2.trans hxd
 generalize World.drew1 w2=w3 at *
 refine zac zbt hA hx3 fun v10 h10=>?_
 refine zaa zaJ ?_
 refine zac zct (zai hA) hx3 fun v12 h12=>?_
 refine zag u29 h12 ?_
 refine zdm (by omega) (by omega) fun w4 hx4 hM4=>?_
 have hs4:=hx4.size
 have hm4:=hM4.lt _ (List.mem_singleton.2 rfl)
 generalize hm:w3.heap.size=m at *
 have h10':=h10.ext hx3
 have hcells:=zjz h10'
 obtain ⟨F,kc,hr,hkc⟩:=h10'
 obtain ⟨a0,a1,a2,a3,a4,n0,n1,n2,n3,n4,k0,k1,k2,k3,k4,hcv⟩:=hcells
 have hkce:kc=[.slice a0 n0 k0,.slice a1 n1 k1,.slice a2 n2 k2,.slice a3 n3 k3,.slice a4 n4 k4]:=by
   rw [hkc] at hcv
   have:(Value.agg kc.toArray)=.agg #[.slice a0 n0 k0,.slice a1 n1 k1,.slice a2 n2 k2,.slice a3 n3 k3,.slice a4 n4 k4]:=hcv
   simpa using this
 rw [hcv]
 refine ⟨hx4,?_⟩
 refine zca (cells:=#[.slice a0 n0 k0,.slice a1 n1 k1,.slice a2 n2 k2,.slice a3 n3 k3,.slice a4 n4 k4,sl m c.ins.length,.slice none 0 0,.slice none 0 0,.slice none 0 0,.int .i64 0,.int .i64 0]) (by kernel_rfl) ?_
 refine zpG fun w5 hx5 hB5=>?_
 have hB5':Blk w4.heap.size 97 w5 (kc++[sl m c.ins.length,.slice none 0 0,.slice none 0 0,.slice none 0 0,.int .i64 0,.int .i64 0]):=by rw [hkce];exact hB5
 have hk5:kc.length=5:=Rep.len hr
 clear hB5 hcv hkc
 have hM5:=hM4.ext hx5
 have hx35:Ext w3 w5:=hx4.trans hx5
 generalize hb:w4.heap.size=b at *
 refine zaa za1 ?_
 refine zac zbE (zap hA) (hx3.trans hx35) fun v18 h18=>?_
 have h18:=h18.ext hx3
 refine zag u23 h18 ?_
 have hel:c.entry.length=c.procs.length:=hc.2.1.1
 rw [hel]
 have hrep0:List.replicate c.ins.length false=zbl c.ins.length (fun i=>∃ p,p<0∧zaC c p i):=zco _ fun i ⟨p,h,_⟩=>by omega
 rw [hrep0] at hM5
 have hcell0:∀ {x1 x2 x3 x4 x5:Value},(kc++[sl m c.ins.length,x1,x2,x3,x4,x5])[0+5]?=some (sl m c.ins.length):=by intros;rw [List.getElem?_append_right (by rw [hk5];omega),hk5];rfl
 refine zaq c.procs.length (fun k us w'=>us=[.int .i64 (k:Int)]∧k≤c.procs.length∧Ext w3 w'∧Blk b 97 w' (kc++[sl m c.ins.length,.slice none 0 0,.slice none 0 0,.slice none 0 0,.int .i64 0,.int .i64 0])∧Mine [m] w' (sl m c.ins.length) (zbl c.ins.length fun i=>∃ p,p<k∧zaC c p i)) 0 (Nat.zero_le _) ⟨rfl,Nat.zero_le _,hx35,hB5',hM5⟩ ?_
 rintro k mk u w6 hkm ⟨hu,hkl,hx6,hB6,hM6⟩
 simp only [List.map_cons,List.map_nil,List.cons.injEq,and_true] at hu
 rw [hu]
 refine zah ?_
 refine br (fun hlt=>?_) (fun hge=>?_)
 · have hk:k<c.procs.length:=by omega
   have hke:k<c.entry.length:=by omega
   obtain ⟨he1,he2,he3⟩:=zeG hc hke
   refine zad u23 ty3 (i:=k) h18 hke fun b5 o5 hA5=>?_
   rw [zbe hke,he1] at hA5
   refine zab ty3 hA5 hx6 fun _=>?_
   refine NIL.mk rfl ?_
   refine zaa zny ?_
   refine zay zep hB6 hcell0 ?_
   refine zbs (α:=Bool) rfl u82 ty4 he2 ?_
   refine za2 (α:=Bool) rfl ty4 hM6 zaj he2 zbh fun w7 hc7 hm7=>?_
   have hB7:=hB6.chgF hc7 (by simp;omega)
   have hx7:Ext w3 w7:=hx6.chgF hc7 (by simp [hm])
   have hmk7:∀ i,mkd ((zbl c.ins.length fun i=>∃ p,p<k∧zaC c p i).set (eN c k) true) i↔(i<c.ins.length∧∃ p,p<k∧zaC c p i)∨i=eN c k:=fun i=>by
     rw [zb8 (by rw [zaj];exact he2),zaB]
   have hl7:((zbl c.ins.length fun i=>∃ p,p<k∧zaC c p i).set (eN c k) true).length=c.ins.length:=by rw [List.length_set,zaj]
   generalize (zbl c.ins.length fun i=>∃ p,p<k∧zaC c p i).set (eN c k) true=ms7 at *
   refine NIL.mk rfl ?_
   refine zaa zny ?_
   refine zay zep hB7 hcell0 ?_
   have hK7:KAt w3 w7 b c:=⟨F,kc,hr,zn1 hB7,hB7.lt⟩
   refine (zlA hK7 hx7 hc rfl he2 hm7 hl7 (by omega) (by omega) ?_).mono ?_
   · intro i hi hne j hj
     rcases (hmk7 i).1 hi with ⟨h1,p,h2,h3⟩ | h
     · have hil:=zcj hc h1 hj
       exact (hmk7 j).2 (.inl ⟨hil.1,p,h2,zqo h3 hj⟩)
     exact absurd h hne
   rintro _ w8 ⟨rfl,hc8,hM8⟩
   have hset:(zbl c.ins.length fun i=>mkd ms7 i∨RP (zax c) (eN c k) i)=zbl c.ins.length fun i=>∃ p,p<k+1∧zaC c p i:=zaK fun i hi=>by
     rw [hmk7]
     constructor
     · rintro ((⟨_,p,h2,h3⟩ | h) | h)
       · exact ⟨p,by omega,h3⟩
       · exact ⟨k,by omega,.inl h⟩
       exact ⟨k,by omega,.inr h⟩
     rintro ⟨p,h2,h3⟩
     by_cases e:p=k
     · subst e
       rcases h3 with h3 | h3
       · exact .inl (.inr h3)
       exact .inr h3
     exact .inl (.inl ⟨hi,p,by omega,h3⟩)
   rw [hset] at hM8
   refine zaf (by omega) ?_
   exact ⟨mk-1,by omega,k+1,by omega,rfl,by omega,hx7.chgI hc8 (by omega),hB7.chgI hc8 (by omega),hM8⟩
 have hke:k=c.procs.length:=by omega
 have hal:(zbl c.ins.length fun i=>∃ p,p<k∧zaC c p i)=zbl c.ins.length (zd4 c):=by rw [hke];rfl
 rw [hal] at hM6
 have HW:WB w3 w6 b 97 c kc m (.slice none 0 0) (.slice none 0 0) (.slice none 0 0) (.int .i64 0) (.int .i64 0):=⟨hx6,hB6,⟨F,hr⟩,hM6,by omega,by omega,by omega⟩
 refine (zlG HW hc).mono ?_
 rintro _ w7 ⟨rfl,g6,g7,g8,H7⟩
 refine (zlH H7 hc).mono ?_
 rintro _ w8 ⟨rfl,H8⟩
 exact ⟨hx1.trans (hx3.trans H8.wb.ext),.inr ⟨hc,b,rfl,H8.wat h8.1⟩⟩
end Go.Proofs.YtbnjpfjjmhodnaaGreatDoor
namespace Go.Proofs.YtbnjpfjjmhodnaaGreatDoor
open Go.Shelf
def Tryz.sortRace_ren:Go.Shelf.Ren:=⟨fun | 6=>99 | 15=>114 | 14=>153 | 28=>167 | 29=>168 | 20=>185 | 21=>186 | 22=>187 | 23=>188 | 24=>189 | 25=>190 | 26=>191 | 27=>192 | 46=>218 | 47=>207 | 48=>208 | 49=>219 | 50=>220 | 57=>229 | n=>n,fun | 22=>40 | 24=>44 | 25=>146 | 3=>3 | 39=>139 | 0=>0 | 53=>192 | 55=>154 | 4=>4 | 46=>185 | 45=>184 | 50=>189 | 5=>5 | 9=>9 | 66=>217 | 70=>221 | 76=>232 | 77=>233 | n=>n,fun | n=>n⟩
theorem Tryz.sortRace:SlLaysF0.n6 Tryz.prog Tryz.sortRace_ren:={
 mixed:=by kernel_rfl,
 f6:=⟨Tryz.f99.name,by kernel_rfl,Tryz.func99.trans (congrArg some (by kernel_rfl))⟩,
 f14:=⟨Tryz.f153.name,by kernel_rfl,Tryz.func153.trans (congrArg some (by kernel_rfl))⟩,
 f15:=Tryz.func114.trans (congrArg some (by kernel_rfl)),
 f20:=⟨Tryz.f185.name,by kernel_rfl,Tryz.func185.trans (congrArg some (by kernel_rfl))⟩,
 f21:=⟨Tryz.f186.name,by kernel_rfl,Tryz.func186.trans (congrArg some (by kernel_rfl))⟩,
 f22:=⟨Tryz.f187.name,by kernel_rfl,Tryz.func187.trans (congrArg some (by kernel_rfl))⟩,
 f23:=⟨Tryz.f188.name,by kernel_rfl,Tryz.func188.trans (congrArg some (by kernel_rfl))⟩,
 f24:=⟨Tryz.f189.name,by kernel_rfl,Tryz.func189.trans (congrArg some (by kernel_rfl))⟩,
 f25:=⟨Tryz.f190.name,by kernel_rfl,Tryz.func190.trans (congrArg some (by kernel_rfl))⟩,
 f26:=⟨Tryz.f191.name,by kernel_rfl,Tryz.func191.trans (congrArg some (by kernel_rfl))⟩,
 f27:=⟨Tryz.f192.name,by kernel_rfl,Tryz.func192.trans (congrArg some (by kernel_rfl))⟩,
 f28:=Tryz.func167.trans (congrArg some (by kernel_rfl)),
 f29:=Tryz.func168.trans (congrArg some (by kernel_rfl)),
 f46:=⟨Tryz.f218.name,by kernel_rfl,Tryz.func218.trans (congrArg some (by kernel_rfl))⟩,
 f47:=Tryz.func207.trans (congrArg some (by kernel_rfl)),
 f48:=Tryz.func208.trans (congrArg some (by kernel_rfl)),
 f49:=⟨Tryz.f219.name,by kernel_rfl,Tryz.func219.trans (congrArg some (by kernel_rfl))⟩,
 f50:=⟨Tryz.f220.name,by kernel_rfl,Tryz.func220.trans (congrArg some (by kernel_rfl))⟩,
 f57:=⟨Tryz.f229.name,by kernel_rfl,Tryz.func229.trans (congrArg some (by kernel_rfl))⟩,
 t0:=Tryz.underlying0,
 a0:=Tryz.isAgg0,
 z0:=Tryz.sizeOf0,
 v0:=Tryz.zeroValue0,
 t3:=Tryz.underlying3,
 a3:=Tryz.isAgg3,
 z3:=Tryz.sizeOf3,
 v3:=Tryz.zeroValue3,
 t4:=Tryz.underlying4,
 a4:=Tryz.isAgg4,
 z4:=Tryz.sizeOf4,
 v4:=Tryz.zeroValue4,
 t5:=Tryz.underlying5,
 a5:=Tryz.isAgg5,
 z5:=Tryz.sizeOf5,
 v5:=Tryz.zeroValue5,
 t9:=Tryz.underlying9,
 a9:=Tryz.isAgg9,
 z9:=Tryz.sizeOf9,
 v9:=Tryz.zeroValue9,
 t22:=Tryz.underlying40,
 a22:=Tryz.isAgg40,
 z22:=Tryz.sizeOf40,
 v22:=Tryz.zeroValue40,
 t25:=Tryz.underlying146,
 a25:=Tryz.isAgg146,
 z25:=Tryz.sizeOf146,
 v25:=Tryz.zeroValue146,
 t39:=Tryz.underlying139,
 a39:=Tryz.isAgg139,
 z39:=Tryz.sizeOf139,
 v39:=Tryz.zeroValue139,
 t45:=Tryz.underlying184,
 a45:=Tryz.isAgg184,
 z45:=Tryz.sizeOf184,
 v45:=Tryz.zeroValue184,
 t46:=Tryz.underlying185,
 a46:=Tryz.isAgg185,
 z46:=Tryz.sizeOf185,
 v46:=Tryz.zeroValue185,
 t50:=Tryz.underlying189,
 a50:=Tryz.isAgg189,
 z50:=Tryz.sizeOf189,
 v50:=Tryz.zeroValue189,
 t53:=Tryz.underlying192,
 a53:=Tryz.isAgg192,
 z53:=Tryz.sizeOf192,
 v53:=Tryz.zeroValue192,
 t55:=Tryz.underlying154,
 a55:=Tryz.isAgg154,
 z55:=Tryz.sizeOf154,
 v55:=Tryz.zeroValue154,
 t66:=Tryz.underlying217,
 a66:=Tryz.isAgg217,
 z66:=Tryz.sizeOf217,
 v66:=Tryz.zeroValue217,
 t70:=Tryz.underlying221,
 a70:=Tryz.isAgg221,
 z70:=Tryz.sizeOf221,
 v70:=Tryz.zeroValue221,
 t76:=Tryz.underlying232,
 a76:=Tryz.isAgg232,
 z76:=Tryz.sizeOf232,
 v76:=Tryz.zeroValue232,
 t77:=Tryz.underlying233,
 a77:=Tryz.isAgg233,
 z77:=Tryz.sizeOf233,
 v77:=Tryz.zeroValue233 }
def Tryz.sortOrder_ren:Go.Shelf.Ren:=⟨fun | 6=>108 | 15=>114 | 14=>157 | 28=>167 | 29=>168 | 20=>197 | 21=>198 | 22=>199 | 23=>200 | 24=>201 | 25=>202 | 26=>203 | 27=>204 | 46=>225 | 47=>207 | 48=>208 | 49=>226 | 50=>227 | 57=>232 | n=>n,fun | 22=>106 | 24=>131 | 25=>151 | 3=>3 | 39=>139 | 0=>0 | 53=>192 | 55=>154 | 4=>4 | 46=>185 | 45=>184 | 50=>189 | 5=>5 | 9=>9 | 66=>217 | 70=>221 | 76=>232 | 77=>233 | n=>n,fun | n=>n⟩
theorem Tryz.sortOrder:SlLaysF0.n6 Tryz.prog Tryz.sortOrder_ren:={
 mixed:=by kernel_rfl,
 f6:=⟨Tryz.f108.name,by kernel_rfl,Tryz.func108.trans (congrArg some (by kernel_rfl))⟩,
 f14:=⟨Tryz.f157.name,by kernel_rfl,Tryz.func157.trans (congrArg some (by kernel_rfl))⟩,
 f15:=Tryz.func114.trans (congrArg some (by kernel_rfl)),
 f20:=⟨Tryz.f197.name,by kernel_rfl,Tryz.func197.trans (congrArg some (by kernel_rfl))⟩,
 f21:=⟨Tryz.f198.name,by kernel_rfl,Tryz.func198.trans (congrArg some (by kernel_rfl))⟩,
 f22:=⟨Tryz.f199.name,by kernel_rfl,Tryz.func199.trans (congrArg some (by kernel_rfl))⟩,
 f23:=⟨Tryz.f200.name,by kernel_rfl,Tryz.func200.trans (congrArg some (by kernel_rfl))⟩,
 f24:=⟨Tryz.f201.name,by kernel_rfl,Tryz.func201.trans (congrArg some (by kernel_rfl))⟩,
 f25:=⟨Tryz.f202.name,by kernel_rfl,Tryz.func202.trans (congrArg some (by kernel_rfl))⟩,
 f26:=⟨Tryz.f203.name,by kernel_rfl,Tryz.func203.trans (congrArg some (by kernel_rfl))⟩,
 f27:=⟨Tryz.f204.name,by kernel_rfl,Tryz.func204.trans (congrArg some (by kernel_rfl))⟩,
 f28:=Tryz.func167.trans (congrArg some (by kernel_rfl)),
 f29:=Tryz.func168.trans (congrArg some (by kernel_rfl)),
 f46:=⟨Tryz.f225.name,by kernel_rfl,Tryz.func225.trans (congrArg some (by kernel_rfl))⟩,
 f47:=Tryz.func207.trans (congrArg some (by kernel_rfl)),
 f48:=Tryz.func208.trans (congrArg some (by kernel_rfl)),
 f49:=⟨Tryz.f226.name,by kernel_rfl,Tryz.func226.trans (congrArg some (by kernel_rfl))⟩,
 f50:=⟨Tryz.f227.name,by kernel_rfl,Tryz.func227.trans (congrArg some (by kernel_rfl))⟩,
 f57:=⟨Tryz.f232.name,by kernel_rfl,Tryz.func232.trans (congrArg some (by kernel_rfl))⟩,
 t0:=Tryz.underlying0,
 a0:=Tryz.isAgg0,
 z0:=Tryz.sizeOf0,
 v0:=Tryz.zeroValue0,
 t3:=Tryz.underlying3,
 a3:=Tryz.isAgg3,
 z3:=Tryz.sizeOf3,
 v3:=Tryz.zeroValue3,
 t4:=Tryz.underlying4,
 a4:=Tryz.isAgg4,
 z4:=Tryz.sizeOf4,
 v4:=Tryz.zeroValue4,
 t5:=Tryz.underlying5,
 a5:=Tryz.isAgg5,
 z5:=Tryz.sizeOf5,
 v5:=Tryz.zeroValue5,
 t9:=Tryz.underlying9,
 a9:=Tryz.isAgg9,
 z9:=Tryz.sizeOf9,
 v9:=Tryz.zeroValue9,
 t22:=Tryz.underlying106,
 a22:=Tryz.isAgg106,
 z22:=Tryz.sizeOf106,
 v22:=Tryz.zeroValue106,
 t25:=Tryz.underlying151,
 a25:=Tryz.isAgg151,
 z25:=Tryz.sizeOf151,
 v25:=Tryz.zeroValue151,
 t39:=Tryz.underlying139,
 a39:=Tryz.isAgg139,
 z39:=Tryz.sizeOf139,
 v39:=Tryz.zeroValue139,
 t45:=Tryz.underlying184,
 a45:=Tryz.isAgg184,
 z45:=Tryz.sizeOf184,
 v45:=Tryz.zeroValue184,
 t46:=Tryz.underlying185,
 a46:=Tryz.isAgg185,
 z46:=Tryz.sizeOf185,
 v46:=Tryz.zeroValue185,
 t50:=Tryz.underlying189,
 a50:=Tryz.isAgg189,
 z50:=Tryz.sizeOf189,
 v50:=Tryz.zeroValue189,
 t53:=Tryz.underlying192,
 a53:=Tryz.isAgg192,
 z53:=Tryz.sizeOf192,
 v53:=Tryz.zeroValue192,
 t55:=Tryz.underlying154,
 a55:=Tryz.isAgg154,
 z55:=Tryz.sizeOf154,
 v55:=Tryz.zeroValue154,
 t66:=Tryz.underlying217,
 a66:=Tryz.isAgg217,
 z66:=Tryz.sizeOf217,
 v66:=Tryz.zeroValue217,
 t70:=Tryz.underlying221,
 a70:=Tryz.isAgg221,
 z70:=Tryz.sizeOf221,
 v70:=Tryz.zeroValue221,
 t76:=Tryz.underlying232,
 a76:=Tryz.isAgg232,
 z76:=Tryz.sizeOf232,
 v76:=Tryz.zeroValue232,
 t77:=Tryz.underlying233,
 a77:=Tryz.isAgg233,
 z77:=Tryz.sizeOf233,
 v77:=Tryz.zeroValue233 }
def Tryz.sortInts_ren:Go.Shelf.Ren:=⟨fun | 6=>60 | 15=>114 | 14=>113 | 28=>167 | 29=>168 | 20=>159 | 21=>160 | 22=>161 | 23=>162 | 24=>163 | 25=>164 | 26=>165 | 27=>166 | 46=>206 | 47=>207 | 48=>208 | 49=>209 | 50=>210 | 57=>228 | n=>n,fun | 22=>45 | 24=>23 | 25=>109 | 3=>3 | 39=>139 | 0=>0 | 53=>192 | 55=>154 | 4=>4 | 46=>185 | 45=>184 | 50=>189 | 5=>5 | 9=>9 | 66=>217 | 70=>221 | 76=>232 | 77=>233 | n=>n,fun | n=>n⟩
theorem Tryz.sortInts:SlLaysF.n6 Tryz.prog Tryz.sortInts_ren:={
 mixed:=by kernel_rfl,
 f6:=⟨Tryz.f60.name,by kernel_rfl,Tryz.func60.trans (congrArg some (by kernel_rfl))⟩,
 f14:=⟨Tryz.f113.name,by kernel_rfl,Tryz.func113.trans (congrArg some (by kernel_rfl))⟩,
 f15:=Tryz.func114.trans (congrArg some (by kernel_rfl)),
 f20:=⟨Tryz.f159.name,by kernel_rfl,Tryz.func159.trans (congrArg some (by kernel_rfl))⟩,
 f21:=⟨Tryz.f160.name,by kernel_rfl,Tryz.func160.trans (congrArg some (by kernel_rfl))⟩,
 f22:=⟨Tryz.f161.name,by kernel_rfl,Tryz.func161.trans (congrArg some (by kernel_rfl))⟩,
 f23:=⟨Tryz.f162.name,by kernel_rfl,Tryz.func162.trans (congrArg some (by kernel_rfl))⟩,
 f24:=⟨Tryz.f163.name,by kernel_rfl,Tryz.func163.trans (congrArg some (by kernel_rfl))⟩,
 f25:=⟨Tryz.f164.name,by kernel_rfl,Tryz.func164.trans (congrArg some (by kernel_rfl))⟩,
 f26:=⟨Tryz.f165.name,by kernel_rfl,Tryz.func165.trans (congrArg some (by kernel_rfl))⟩,
 f27:=⟨Tryz.f166.name,by kernel_rfl,Tryz.func166.trans (congrArg some (by kernel_rfl))⟩,
 f28:=Tryz.func167.trans (congrArg some (by kernel_rfl)),
 f29:=Tryz.func168.trans (congrArg some (by kernel_rfl)),
 f46:=⟨Tryz.f206.name,by kernel_rfl,Tryz.func206.trans (congrArg some (by kernel_rfl))⟩,
 f47:=Tryz.func207.trans (congrArg some (by kernel_rfl)),
 f48:=Tryz.func208.trans (congrArg some (by kernel_rfl)),
 f49:=⟨Tryz.f209.name,by kernel_rfl,Tryz.func209.trans (congrArg some (by kernel_rfl))⟩,
 f50:=⟨Tryz.f210.name,by kernel_rfl,Tryz.func210.trans (congrArg some (by kernel_rfl))⟩,
 f57:=⟨Tryz.f228.name,by kernel_rfl,Tryz.func228.trans (congrArg some (by kernel_rfl))⟩,
 t0:=Tryz.underlying0,
 a0:=Tryz.isAgg0,
 z0:=Tryz.sizeOf0,
 v0:=Tryz.zeroValue0,
 t3:=Tryz.underlying3,
 a3:=Tryz.isAgg3,
 z3:=Tryz.sizeOf3,
 v3:=Tryz.zeroValue3,
 t4:=Tryz.underlying4,
 a4:=Tryz.isAgg4,
 z4:=Tryz.sizeOf4,
 v4:=Tryz.zeroValue4,
 t5:=Tryz.underlying5,
 a5:=Tryz.isAgg5,
 z5:=Tryz.sizeOf5,
 v5:=Tryz.zeroValue5,
 t9:=Tryz.underlying9,
 a9:=Tryz.isAgg9,
 z9:=Tryz.sizeOf9,
 v9:=Tryz.zeroValue9,
 t22:=Tryz.underlying45,
 a22:=Tryz.isAgg45,
 z22:=Tryz.sizeOf45,
 v22:=Tryz.zeroValue45,
 a24:=Tryz.isAgg23,
 z24:=Tryz.sizeOf23,
 t25:=Tryz.underlying109,
 a25:=Tryz.isAgg109,
 z25:=Tryz.sizeOf109,
 v25:=Tryz.zeroValue109,
 t39:=Tryz.underlying139,
 a39:=Tryz.isAgg139,
 z39:=Tryz.sizeOf139,
 v39:=Tryz.zeroValue139,
 t45:=Tryz.underlying184,
 a45:=Tryz.isAgg184,
 z45:=Tryz.sizeOf184,
 v45:=Tryz.zeroValue184,
 t46:=Tryz.underlying185,
 a46:=Tryz.isAgg185,
 z46:=Tryz.sizeOf185,
 v46:=Tryz.zeroValue185,
 t50:=Tryz.underlying189,
 a50:=Tryz.isAgg189,
 z50:=Tryz.sizeOf189,
 v50:=Tryz.zeroValue189,
 t53:=Tryz.underlying192,
 a53:=Tryz.isAgg192,
 z53:=Tryz.sizeOf192,
 v53:=Tryz.zeroValue192,
 t55:=Tryz.underlying154,
 a55:=Tryz.isAgg154,
 z55:=Tryz.sizeOf154,
 v55:=Tryz.zeroValue154,
 t66:=Tryz.underlying217,
 a66:=Tryz.isAgg217,
 z66:=Tryz.sizeOf217,
 v66:=Tryz.zeroValue217,
 t70:=Tryz.underlying221,
 a70:=Tryz.isAgg221,
 z70:=Tryz.sizeOf221,
 v70:=Tryz.zeroValue221,
 t76:=Tryz.underlying232,
 a76:=Tryz.isAgg232,
 z76:=Tryz.sizeOf232,
 v76:=Tryz.zeroValue232,
 t77:=Tryz.underlying233,
 a77:=Tryz.isAgg233,
 z77:=Tryz.sizeOf233,
 v77:=Tryz.zeroValue233 }
end Go.Proofs.YtbnjpfjjmhodnaaGreatDoor
namespace Go.Sh
open Rep (rep)
open Go.Sort Go.Proofs
section
variable {α:Type} [Inhabited α] {enc:α→List Value} {k:Nat}
theorem zn3 (hk:∀ x,(enc x).length=k):∀ (l:List α),(l.flatMap enc).length=l.length*k
 | []=>by simp
 | x :: l=>by rw [List.flatMap_cons,List.length_append,hk,zn3 hk l,List.length_cons,Nat.add_mul];omega
theorem zn4 (hk:∀ x,(enc x).length=k) (h0:0<k):∀ {l:List α} {t:Nat},t<l.length*k→(l.flatMap enc)[t]?=some ((enc l[t / k]!)[t%k]!)
 | [],t,h=>by simp at h
 | x :: l,t,h=>by
   rw [List.flatMap_cons]
   rcases Nat.lt_or_ge t k with ht | ht
   · rw [List.getElem?_append_left (by rw [hk];exact ht),Nat.div_eq_of_lt ht,Nat.mod_eq_of_lt ht]
     have:t<(enc x).length:=by rw [hk];exact ht
     rw [List.getElem?_eq_getElem this]
     simp [this]
   rw [List.getElem?_append_right (by rw [hk];exact ht),hk]
   have h':t-k<l.length*k:=by rw [List.length_cons,Nat.add_mul] at h;omega
   rw [zn4 hk h0 h']
   have e1:t / k=(t-k) / k+1:=by
     have:t=(t-k)+k:=by omega
     conv=>lhs;rw [this]
     rw [Nat.add_div_right _ h0]
   have e2:t%k=(t-k)%k:=by
     have:t=(t-k)+k:=by omega
     conv=>lhs;rw [this]
     rw [Nat.add_mod_right]
   rw [e1,e2]
   simp
theorem zlI (hk:∀ x,(enc x).length=k) (h0:0<k) {l:List α} {t:Nat} (h:t<l.length*k):(l.flatMap enc)[t]?=some (flatK enc k l.toArray)[t]!:=by
 rw [zn4 hk h0 h,get_flatK enc k l.toArray t (by simpa using h)]
 simp
end
section
variable {α:Type} [Rep α] [Flat α] [Inhabited α] {w:World} {enc:α→List Value} {b o n cap:Nat} {l:List α}
theorem zlJ (henc:∀ {F w cs} {x:α},rep F w cs x→cs=enc x):∀ {l:List α} {F:List Nat} {xs:List Value},Cells F w xs l→xs=l.flatMap enc
 | [],_,_,⟨_,h⟩=>by simp [h]
 | y :: ys,_,_,⟨F1,F2,c1,c2,_,h,h1,h2⟩=>by rw [h,henc h1,zlJ henc h2,List.flatMap_cons]
theorem zlK {w':World} (henc:∀ {F w cs} {x:α},rep F w cs x→cs=enc x):∀ {l:List α},(∀ x∈l,∃ F cs,rep F w cs x)→Cells [] w' (l.flatMap enc) l
 | [],_=>⟨rfl,rfl⟩
 | y :: ys,h=>by
   obtain ⟨F,cs,hr⟩:=h y (by simp)
   have hF:=Flat.flat hr
   subst hF
   have hc:=henc hr
   subst hc
   exact ⟨[],[],enc y,ys.flatMap enc,rfl,rfl,Rep.keep hr (by simp),zlK henc fun x hx=>h x (by simp [hx])⟩
theorem zlL:∀ {l:List α} {F:List Nat} {xs:List Value},Cells F w xs l→∀ x∈l,∃ F cs,rep F w cs x
 | y :: ys,_,_,⟨F1,F2,c1,c2,_,h,h1,h2⟩,x,hx=>by
   rcases List.mem_cons.1 hx with rfl | hx
   · exact ⟨_,_,h1⟩
   exact zlL h2 x hx
theorem ziA (henc:∀ {F w cs} {x:α},rep F w cs x→cs=enc x) (hk:∀ x,(enc x).length=Rep.size α) (hw:∃ c e,w.heap[b]?=some (.cells c e (0,0))) {xs:List Value} (hc:Cells [] w xs l) (hr:w.rangeAt b o xs):HoldsK enc (Rep.size α) w b o l.toArray:=by
 intro j hj
 rw [size_flatK] at hj
 have hj':j<l.length*Rep.size α:=by simpa using hj
 have:=zlJ henc hc
 subst this
 have h1:=hr j _ (zlI hk Rep.pos hj')
 refine ⟨h1,?_⟩
 obtain ⟨c,e,he⟩:=hw
 simp [World.frozen?,he]
theorem ziB (henc:∀ {F w cs} {x:α},rep F w cs x→cs=enc x) (hk:∀ x,(enc x).length=Rep.size α) {d':Array α} {m:Nat} {os:Array Obj} {w3:World} (hw3:w3=sortWorldK enc (Rep.size α) w b o m d' os) (hw:∃ c e,w.heap[b]?=some (.cells c e (0,0))) {xs:List Value} (hc:Cells [] w xs l) (hr:w.rangeAt b o xs)
   (h1:l.length≤cap) (h2:cap≤maxLen) (hl:d'.size=l.length) (hp:∀ x∈d'.toList,x∈l):Chg [b] w w3∧Mine [b] w3 (.slice (some ⟨b,o,none⟩) l.length cap) d'.toList:=by
 subst hw3
 have hH:=ziA henc hk hw hc hr
 obtain ⟨c,e,he⟩:=hw
 have hb:b<w.heap.size:=(Array.getElem?_eq_some_iff.1 he).1
 have hsz:(putRowK enc (Rep.size α) (Sort.ahead w m) b o d').heap.size=w.heap.size:=by simp [putRowK,putRow,mapBlock,Sort.ahead]
 have hblk:∀ i,i<w.heap.size→i≠b→(sortWorldK enc (Rep.size α) w b o m d' os).heap[i]?=w.heap[i]?:=fun i hi hne=>by
   unfold sortWorldK
   rw [heap_grow_old _ _ (by rw [hsz];exact hi)]
   simp [putRowK,putRow,mapBlock,Sort.ahead,Array.getElem?_modify,hne.symm]
 have hbb:∃ c',(sortWorldK enc (Rep.size α) w b o m d' os).heap[b]?=some (.cells c' e (0,0)):=by
   unfold sortWorldK
   rw [heap_grow_old _ _ (by rw [hsz];exact hb)]
   exact ⟨_,by simp [putRowK,putRow,mapBlock,Sort.ahead,Array.getElem?_modify,he,onCells];rfl⟩
 have hsz2:w.heap.size≤(sortWorldK enc (Rep.size α) w b o m d' os).heap.size:=by
   unfold sortWorldK grow
   rw [Array.size_append,hsz];omega
 refine ⟨⟨rfl,rfl,rfl,hsz2,fun i hi hm=>hblk i hi fun e=>hm (by simp [e])⟩,⟨⟨_,⟨some ⟨b,o,none⟩,cap,[],d'.toList.flatMap enc,rfl,by simpa [hl] using h1,h2,?_,.inr ⟨b,o,rfl,rfl,?_,by omega⟩⟩,by simp [mkv,Rep.agg,hl]⟩,by simp,fun i hi=>?_⟩⟩
 · exact zlK (w:=w) henc fun x hx=>zlL hc x (hp x hx)
 · intro j v hv
   have hj:j<d'.toList.length*Rep.size α:=by
     have:=(List.getElem?_eq_some_iff.1 hv).1
     rwa [zn3 hk] at this
   rw [zlI hk Rep.pos hj,Option.some.injEq] at hv
   have hj2:j<(flatK enc (Rep.size α) d').size:=by rw [size_flatK];simpa using hj
   have:=cell?_putRow id (Sort.ahead w m) b o (flatK enc (Rep.size α) l.toArray) (flatK enc (Rep.size α) d') hH (by simp [hl]) j hj2
   unfold sortWorldK
   rw [cell?_grow _ _ _ (by rw [hsz];exact hb)]
   show (putRow id (Sort.ahead w m) b o (flatK enc (Rep.size α) d')).cell? _=_
   rw [this,←hv]
   simp
 simp only [List.mem_cons,List.not_mem_nil,or_false] at hi
 subst hi
 obtain ⟨c',hc'⟩:=hbb
 exact ⟨c',e,hc'⟩
end
end Go.Sh
namespace Go.Sh
open Rep (rep)
section
variable {P:Program} {w:World} {α:Type} [Rep α] [Flat α] {b o n cap k:Nat} {l:List α}
theorem zdv {F:List Nat} {v:Value} (hm:Mine F w v l) (hl:l≠[]):∃ b o cap xs,v=.slice (some ⟨b,o,none⟩) l.length cap∧F=[b]∧l.length≤cap∧cap≤maxLen∧Cells [] w xs l∧w.rangeAt b o xs∧(∃ c e,w.heap[b]?=some (.cells c e (0,0))):=by
 obtain ⟨⟨cs,⟨a,cap,Fi,xs,rfl,h1,h2,hc,h4⟩,rfl⟩,hn,hw⟩:=hm
 rcases h4 with ⟨h4,_⟩ | ⟨b,o,rfl,rfl,hr,hb⟩
 · exact absurd h4 hl
 have hFi:=Cells.flat (xs:=xs) hc
 subst hFi
 exact ⟨b,o,cap,xs,rfl,rfl,h1,h2,hc,hr,hw b (by simp)⟩
theorem zeJ {xs:List Value} (h1:l.length≤cap) (h2:cap≤maxLen) (hc:Cells [] w xs l) (hr:w.rangeAt b o xs) (hw:∃ c e,w.heap[b]?=some (.cells c e (0,0))):Mine [b] w (.slice (some ⟨b,o,none⟩) l.length cap) l:=
 ⟨⟨_,⟨some ⟨b,o,none⟩,cap,[],xs,rfl,h1,h2,hc,.inr ⟨b,o,rfl,rfl,hr,by obtain ⟨c,e,h⟩:=hw;exact (Array.getElem?_eq_some_iff.1 h).1⟩⟩,rfl⟩,by simp,fun i hi=>by simp at hi;subst hi;exact hw⟩
theorem zt5 {t e:TypeId} {by_:Nat} {K:Value→Prop} (ht:P.underlying t=some (.slice e)) (he:tyI P e=some (Rep.size α,by_,Rep.agg α)) (hk:k≤n) (hn:n≤cap) (kk:K (.slice (some ⟨b,o,none⟩) k cap)) :
   RD P (Instr.sliceAt t (.slice (some ⟨b,o,none⟩) n cap) none (some (.int .i64 (k:Int))) none) w K:=by
 refine za0 (fun w' _=>?_) kk
 have hbd:(Instr.sliceBounds true n cap none (some (.int .i64 (k:Int))) none).run P w'=.ok (0,k,cap) w':=by
   have h5:(k:Int)≤(cap:Int):=by omega
   simp [Instr.sliceBounds,Instr.sliceBound,asIntOf,h5]
   intro h6
   omega
 simp only [Instr.sliceAt,Instr.slice,Sem.run_bind,run_underlying ht,Result.andThen_ok,hbd,zaW he]
 simp [Addr.add_mid]
theorem zn5 {t e:TypeId} {by_:Nat} {K:Value→Prop} (ht:P.underlying t=some (.slice e)) (he:tyI P e=some (Rep.size α,by_,Rep.agg α)) (hk:k≤n) (hn:n≤cap) (kk:K (.slice (if cap=k then some ⟨b,o,none⟩ else some ⟨b,o+k*Rep.size α,none⟩) (n-k) (cap-k))) :
   RD P (Instr.sliceAt t (.slice (some ⟨b,o,none⟩) n cap) (some (.int .i64 (k:Int))) none none) w K:=by
 refine za0 (fun w' _=>?_) kk
 have hb:(Instr.sliceBounds true n cap (some (.int .i64 (k:Int))) none none).run P w'=.ok (k,n,cap) w':=by
   have:(k:Int)≤(n:Int):=by omega
   simp [Instr.sliceBounds,Instr.sliceBound,asIntOf,this]
   try (intro h;omega)
 simp [Instr.sliceAt,Instr.slice,run_underlying ht,hb,zaW he,Addr.add_mid]
theorem zn6 {t e:TypeId} {by_ j:Nat} {K:Value→Prop} (ht:P.underlying t=some (.slice e)) (he:tyI P e=some (Rep.size α,by_,Rep.agg α)) (hk:k≤j) (hn:j≤cap) {a:Option Addr} (kk:∀ a',(k≠0→a'=a)→K (.slice a' k j)) :
   RD P (Instr.sliceAt t (.slice a n cap) none (some (.int .i64 (k:Int))) (some (.int .i64 (j:Int)))) w K:=by
 have hb:∀ w',(Instr.sliceBounds true n cap none (some (.int .i64 (k:Int))) (some (.int .i64 (j:Int)))).run P w'=.ok (0,k,j) w':=fun w'=>by
   have h1:(j:Int)≤(cap:Int):=by omega
   have h2:(k:Int)≤(j:Int):=by omega
   simp [Instr.sliceBounds,Instr.sliceBound,asIntOf,h1,h2]
   try (intro h;omega)
 have:∃ a',(∀ w',(Instr.sliceAt t (.slice a n cap) none (some (.int .i64 (k:Int))) (some (.int .i64 (j:Int)))).run P w'=.ok (.slice a' k j) w')∧(k≠0→a'=a):=by
   cases a with
   | none=>exact ⟨none,fun w'=>by simp [Instr.sliceAt,Instr.slice,run_underlying ht,hb,zaW he],fun _=>rfl⟩
   | some a=>exact ⟨some a,fun w'=>by simp [Instr.sliceAt,Instr.slice,run_underlying ht,hb,zaW he,Addr.add],fun _=>rfl⟩
 obtain ⟨a',h1,h2⟩:=this
 exact za0 (fun w' _=>h1 w') (kk a' h2)
theorem zqO [RepZ α] {t e ty:TypeId} {K:Value→World→Prop} (ht:P.underlying t=some (.slice e)) (hz:zcm P e=some (RepZ.zc α)) (hm:Mine [b] w (.slice (some ⟨b,o,none⟩) n cap) l) (hl:l.length=n) (hk:k≤n) (hk0:0<k) (hn:n≤cap)
   (kk:∀ w',Chg [b] w w'→Mine [b] w' (.slice (some ⟨b,o,none⟩) k cap) (l.take k)→K (.tuple #[]) w') :
   OP P (Builtin.clear_ #[t] ty [Value.slice (if cap=k then some ⟨b,o,none⟩ else some ⟨b,o+k*Rep.size α,none⟩) (n-k) (cap-k)].toArray) w K:=by
 have hne:l≠[]:=fun e=>by rw [e] at hl;simp at hl;omega
 obtain ⟨b',o',cap',xs,hv,hb',h1,h2,hc,hr,hw⟩:=zdv hm hne
 simp only [Value.slice.injEq,Option.some.injEq,Addr.mk.injEq] at hv
 obtain ⟨⟨rfl,rfl,_⟩,hnl,rfl⟩:=hv
 have htk:(l.take k).length=k:=by simp;omega
 have e0:l=l.take k++l.drop k:=by simp
 have hc':=hc
 rw [e0] at hc'
 obtain ⟨F1,F2,x1,x2,hFF,rfl,c1,c2⟩:=Cells.split hc'
 obtain ⟨rfl,rfl⟩:=List.append_eq_nil_iff.1 hFF.symm
 have hx1:x1.length=k*Rep.size α:=by rw [Cells.len c1,htk]
 have hr1:=(zaU hr).1
 by_cases hnk:n=k
 · subst hnk
   refine ⟨.tuple #[],w,?_,kk w (Chg.refl _ _) ?_⟩
   · rw [Nat.sub_self]
     by_cases hck:cap=n
     · rw [if_pos hck];simp [Builtin.clear_,run_underlying ht]
     rw [if_neg hck];simp [Builtin.clear_,run_underlying ht]
   have:=zeJ (l:=l.take n) (cap:=cap) (by omega) h2 c1 hr1 hw
   rwa [htk] at this
 have hck:¬cap=k:=by omega
 rw [if_neg hck]
 obtain ⟨c,e',he⟩:=hw
 unfold zcm at hz
 cases hi:P.info? e with
 | none=>simp [hi] at hz
 | some i=>
   simp only [hi] at hz
   obtain ⟨z,hzz,hzc⟩:=Option.map_eq_some_iff.1 hz
   have hzl:z.cells.size=Rep.size α:=by
     rw [←Array.length_toList,hzc];exact Rep.len (RepZ.zr (α:=α) w)
   have hpos:=Rep.pos (α:=α)
   obtain ⟨m,hm'⟩:∃ m,n-k=m+1:=⟨n-k-1,by omega⟩
   have hzs:(Builtin.zeroCells z.cells (n-k)).toList.length=(n-k)*Rep.size α:=by simp [Builtin.zeroCells,hzl]
   have hfit:o+(k*Rep.size α)+0+(Builtin.zeroCells z.cells (n-k)).toList.length≤c.size:=by
     rw [hzs]
     have hx:(x1++x2).length=n*Rep.size α:=by rw [Cells.len hc,hl]
     have hlast:=hr (n*Rep.size α-1) ((x1++x2)[n*Rep.size α-1]'(by rw [hx];have:=Nat.mul_pos (show 0<n by omega) hpos;omega)) (List.getElem?_eq_getElem _)
     simp only [World.cell?,he] at hlast
     have:=(Array.getElem?_eq_some_iff.1 (by simpa using hlast)).1
     have h3:(n-k)*Rep.size α+k*Rep.size α=n*Rep.size α:=by rw [←Nat.add_mul];congr 1;omega
     have h4:=Nat.mul_pos (show 0<n by omega) hpos
     omega
   have hone:∀ v∈(Builtin.zeroCells z.cells (n-k)).toList,v.oneCell'=true:=fun v hv=>by
     simp only [Builtin.zeroCells,Array.toList_map,Array.toList_range,List.mem_map,List.mem_range] at hv
     obtain ⟨i,_,rfl⟩:=hv
     have hlt:i%z.cells.size<z.cells.size:=Nat.mod_lt _ (by omega)
     have e3:z.cells[i%z.cells.size]! = z.cells[i%z.cells.size]'hlt:=by simp [hlt]
     rw [e3]
     refine Rep.one (RepZ.zr (α:=α) w) _ ?_
     rw [←hzc]
     exact Array.getElem_mem_toList hlt
   have hst:=run_storeCells_at (P:=P) b (o+k*Rep.size α) e' (Builtin.zeroCells z.cells (n-k)).toList 0 c w he hfit hone
   simp only [Nat.add_zero] at hst
   refine ⟨.tuple #[],_,?_,kk _ (zcx w b (c.toList.take (o+k*Rep.size α)++(Builtin.zeroCells z.cells (n-k)).toList++c.toList.drop (o+k*Rep.size α+(Builtin.zeroCells z.cells (n-k)).toList.length)).toArray) ?_⟩
   · rw [hm'] at hst ⊢
     simp [Builtin.clear_,run_underlying ht,zeroValue,typeInfo,hi,hzz,hst]
   have hB:=setRow_heap w b c (c.toList.take (o+k*Rep.size α)++(Builtin.zeroCells z.cells (n-k)).toList++c.toList.drop (o+k*Rep.size α+(Builtin.zeroCells z.cells (n-k)).toList.length)).toArray e' _ he
   have:=zeJ (w:=w.setRow b (c.toList.take (o+k*Rep.size α)++(Builtin.zeroCells z.cells (n-k)).toList++c.toList.drop (o+k*Rep.size α+(Builtin.zeroCells z.cells (n-k)).toList.length)).toArray) (b:=b) (o:=o) (l:=l.take k) (cap:=cap) (xs:=x1) (by omega) h2 (c1.keep (by simp)) (fun j v hv=>?_) ⟨_,_,hB⟩
   · rwa [htk] at this
   have hj:=(List.getElem?_eq_some_iff.1 hv).1
   rw [hx1] at hj
   have h5:=hr1 j v hv
   simp only [World.cell?,he] at h5
   have h6:c[o+j]?=some v:=by simpa using h5
   simp only [World.cell?,hB]
   simp only [Option.isSome_none,Bool.false_eq_true,if_false,List.getElem?_toArray]
   rw [List.append_assoc,List.getElem?_append_left (by simp;have:=(Array.getElem?_eq_some_iff.1 h6).1;omega),List.getElem?_take,if_pos (by omega)]
   simpa using h6
end
end Go.Sh
namespace Go.Proofs.YtbnjpfjjmhodnaaGreatDoor
open Go Go.Sh Go.Proofs
open Rep (rep)
set_option maxRecDepth 20000 in
theorem ziC {w w0 w1:World} {K:Value→Prop} {x y:Operand} {v1 v2:Value} {a b:DRace} (h1:Is w0 v1 a) (h2:Is w1 v2 b) (k:K (.bool (decide (a=b)))):RD Tryz.prog (bin .eql 44 x y v1 v2) w K:=by
  obtain ⟨rfl,_⟩:=zgP.1 h1
  obtain ⟨rfl,_⟩:=zgP.1 h2
  refine za0 (fun w' _=>?_) k
  have hg:Tryz.prog.eqGuardType Tryz.prog.depth 44=false:=by kernel_rfl
  have e0:∀ xs ys w,(eqGuard .eql 44 x y (.agg xs) (.agg ys)).run Tryz.prog w=.ok () w:=fun xs ys w=>run_eqGuard_agg (P:=Tryz.prog) w .eql 44 x y xs ys hg
  have e1:∀ xs ys w,(Op.equalIn 10000 44 (.agg xs) (.agg ys)).run Tryz.prog w=(Op.eqFields 9999 xs ys (Tryz.prog.fieldsOf 44).toList).run Tryz.prog w:=fun xs ys w=>run_equalIn_struct w 9999 44 xs ys (by kernel_rfl) (by kernel_rfl)
  have e2:(Tryz.prog.fieldsOf 44).toList.map (fun f=>(f.name,f.type,f.offset))=[("Global", 3,0),("A", 3,1),("B", 3,2)]:=by kernel_rfl
  have e3:∀ (c d:Int) (w:World),(Op.equalIn 9999 3 (.int .i64 c) (.int .i64 d)).run Tryz.prog w=.ok (c == d) w:=fun c d w=>run_equalIn_int w 9998 3 .i64 .i64 c d u3
  have hd:(a=b)↔(a.g=b.g∧a.a=b.a∧a.b=b.b):=⟨fun e=>by rw [e];exact ⟨rfl,rfl,rfl⟩,fun ⟨x,y,z⟩=>by cases a;cases b;simp only at x y z;rw [x,y,z]⟩
  generalize hF:(Tryz.prog.fieldsOf 44).toList=fs at e1 e2
  match fs,e2 with
  | [f0,f1,f2],e2=>
    simp only [List.map_cons,List.map_nil,List.cons.injEq,Prod.mk.injEq,and_true] at e2
    obtain ⟨⟨n0,t0,o0⟩,⟨n1,t1,o1⟩,⟨n2,t2,o2⟩⟩:=e2
    have p0:∀ (a b c:Value) (w:World),(part 3 #[a,b,c] 0).run Tryz.prog w=.ok a w:=fun a b c w=>by simp [part,zbI ty3]
    have p1:∀ (a b c:Value) (w:World),(part 3 #[a,b,c] 1).run Tryz.prog w=.ok b w:=fun a b c w=>by simp [part,zbI ty3]
    have p2:∀ (a b c:Value) (w:World),(part 3 #[a,b,c] 2).run Tryz.prog w=.ok c w:=fun a b c w=>by simp [part,zbI ty3]
    simp only [bin,Sem.run_bind,e0,Result.andThen_ok,run_eql_struct,e1,Op.eqFields,n0,n1,n2,t0,t1,t2,o0,o1,o2]
    simp only [ne_eq,String.reduceEq,not_false_eq_true,if_true,Sem.run_bind,p0,p1,p2,Result.andThen_ok,e3,Sem.run_ite,Sem.run_pure,hd]
    by_cases x0:a.g=b.g<;>by_cases x1:a.a=b.a<;>by_cases x2:a.b=b.b<;>simp [x0,x1,x2]
set_option maxRecDepth 20000 in
theorem zmY {w w0 w1:World} {K:Value→Prop} {x y:Operand} {v1 v2:Value} {a b:DRace} (h1:Is w0 v1 a) (h2:Is w1 v2 b) (k:K (.bool (decide (a≠b)))):RD Tryz.prog (bin .neq 44 x y v1 v2) w K:=by
  obtain ⟨rfl,_⟩:=zgP.1 h1
  obtain ⟨rfl,_⟩:=zgP.1 h2
  refine za0 (fun w' _=>?_) k
  have hg:Tryz.prog.eqGuardType Tryz.prog.depth 44=false:=by kernel_rfl
  have e0:∀ xs ys w,(eqGuard .neq 44 x y (.agg xs) (.agg ys)).run Tryz.prog w=.ok () w:=fun xs ys w=>run_eqGuard_agg (P:=Tryz.prog) w .neq 44 x y xs ys hg
  have e1:∀ xs ys w,(Op.equalIn 10000 44 (.agg xs) (.agg ys)).run Tryz.prog w=(Op.eqFields 9999 xs ys (Tryz.prog.fieldsOf 44).toList).run Tryz.prog w:=fun xs ys w=>run_equalIn_struct w 9999 44 xs ys (by kernel_rfl) (by kernel_rfl)
  have e2:(Tryz.prog.fieldsOf 44).toList.map (fun f=>(f.name,f.type,f.offset))=[("Global", 3,0),("A", 3,1),("B", 3,2)]:=by kernel_rfl
  have e3:∀ (c d:Int) (w:World),(Op.equalIn 9999 3 (.int .i64 c) (.int .i64 d)).run Tryz.prog w=.ok (c == d) w:=fun c d w=>run_equalIn_int w 9998 3 .i64 .i64 c d u3
  have hd:(a=b)↔(a.g=b.g∧a.a=b.a∧a.b=b.b):=⟨fun e=>by rw [e];exact ⟨rfl,rfl,rfl⟩,fun ⟨x,y,z⟩=>by cases a;cases b;simp only at x y z;rw [x,y,z]⟩
  generalize hF:(Tryz.prog.fieldsOf 44).toList=fs at e1 e2
  match fs,e2 with
  | [f0,f1,f2],e2=>
    simp only [List.map_cons,List.map_nil,List.cons.injEq,Prod.mk.injEq,and_true] at e2
    obtain ⟨⟨n0,t0,o0⟩,⟨n1,t1,o1⟩,⟨n2,t2,o2⟩⟩:=e2
    have p0:∀ (a b c:Value) (w:World),(part 3 #[a,b,c] 0).run Tryz.prog w=.ok a w:=fun a b c w=>by simp [part,zbI ty3]
    have p1:∀ (a b c:Value) (w:World),(part 3 #[a,b,c] 1).run Tryz.prog w=.ok b w:=fun a b c w=>by simp [part,zbI ty3]
    have p2:∀ (a b c:Value) (w:World),(part 3 #[a,b,c] 2).run Tryz.prog w=.ok c w:=fun a b c w=>by simp [part,zbI ty3]
    simp only [bin,Sem.run_bind,e0,Result.andThen_ok,run_neq_struct,e1,Op.eqFields,n0,n1,n2,t0,t1,t2,o0,o1,o2]
    simp only [ne_eq,String.reduceEq,not_false_eq_true,if_true,Sem.run_bind,p0,p1,p2,Result.andThen_ok,e3,Sem.run_ite,Sem.run_pure,hd]
    by_cases x0:a.g=b.g<;>by_cases x1:a.a=b.a<;>by_cases x2:a.b=b.b<;>simp [x0,x1,x2,hd]
def F102 (a0:Value) (w:World) (R:VW):Prop:=
 rN 40 3 a0 w fun x7=>
 rB .lss 3 T0 U0 x7 (iV 2) w fun x8=>
 BR x8
 (R a0 w)
 (LOOPI [3] [(iV 1)] w fun u4 w next4=>
 rN 40 3 a0 w fun x12=>
 rC (u4 3) x12 w fun x13=>
 BR x13
 ((fun w=>rX 40 a0 (u4 3) w fun x18=>
 rL 44 x18 w fun x19=>
 rB .sub 3 T0 U0 (u4 3) (iV 1) w fun x22=>
 rX 40 a0 x22 w fun x23=>
 rL 44 x23 w fun x24=>
 rB .eql 44 T0 T0 x19 x24 w fun x25=>
 BR x25
 (rD (Instr.sliceAt 40 a0 (some (u4 3)) none none) w fun x28=>
 LOOPI [3,5] [(u4 3),(iV 1)] w fun u9 w next9=>
 rN 40 3 x28 w fun x31=>
 rC (u9 5) x31 w fun x32=>
 BR x32
 ((fun w=>rX 40 x28 (u9 5) w fun x37=>
 rL 44 x37 w fun x38=>
 rB .sub 3 T0 U0 (u9 5) (iV 1) w fun x41=>
 rX 40 x28 x41 w fun x42=>
 rL 44 x42 w fun x43=>
 rB .neq 44 T0 T0 x38 x43 w fun x44=>
 BR x44
 (rX 40 x28 (u9 5) w fun x49=>
 rL 44 x49 w fun x50=>
 rX 40 a0 (u9 3) w fun x51=>
 oS 44 x51 x50 w fun w=>
 rA (u9 3) (iV 1) w fun x53=>
 rA (u9 5) (iV 1) w fun x34=>
 next9 [x53,x34] w)
 (rA (u9 5) (iV 1) w fun x34=>
 next9 [(u9 3),x34] w)) (World.drew1 w))
 (rD (Instr.sliceAt 40 a0 (some (u9 3)) none none) w fun x56=>
 oP (Builtin.clear_ #[40] 0 [x56].toArray) w fun _ w=>
 rD (Instr.sliceAt 40 a0 none (some (u9 3)) none) w fun x59=>
 R x59 w))
 (rA (u4 3) (iV 1) w fun x15=>
 next4 [x15] w)) (World.drew1 w))
 (R a0 w))
def cfg102:Cfg:=⟨extL,[],[(4,1152921504606846012,[3]),(9,18014397972611112,[3,5])],[(6,[0,1,2,3,4,5,6,7,8,9],0),(11,[0,1,2,3,4,5,6,7,8,9],0)],[],[],[]⟩
theorem F102_call {a0:Value} {w:World} {R:VW} (h:F102 a0 w R):cL 102 [a0] w R:=co (g:=cfg102) Tryz.func102 (by kernel_rfl) (by kernel_rfl) (by kernel_rfl) h
def F98 (a0:Value) (w:World) (R:VW):Prop:=
 rB .eql 40 T0 U0 a0 (Value.slice none 0 0) w fun x4=>
 BR x4
 (R (Value.slice none 0 0) w)
 (oP (Instr.buildSlice 40 0 #[]) w fun x5 w=>
 oP (Builtin.append_ #[40,40] 40 [x5,a0].toArray) w fun x7 w=>
 R x7 w)
def cfg98:Cfg:=⟨extL,[],[],[],[],[],[]⟩
theorem F98_call {a0:Value} {w:World} {R:VW} (h:F98 a0 w R):cL 98 [a0] w R:=co (g:=cfg98) Tryz.func98 (by kernel_rfl) (by kernel_rfl) (by kernel_rfl) h
def F101 (a0:Value) (w:World) (R:VW):Prop:=
 rN 40 3 a0 w fun x5=>
 rN 40 3 a0 w fun x7=>
 rD (Instr.sliceAt 40 a0 none (some x5) (some x7)) w fun x8=>
 R x8 w
def cfg101:Cfg:=⟨extL,[],[],[],[],[],[]⟩
theorem F101_call {a0:Value} {w:World} {R:VW} (h:F101 a0 w R):cL 101 [a0] w R:=co (g:=cfg101) Tryz.func101 (by kernel_rfl) (by kernel_rfl) (by kernel_rfl) h
theorem zmZ {P:Program} {w:World} {t e:TypeId} {b a n cap sz by_ k:Nat} {ag:Bool} {u:Value} {K:Value→Prop} (ht:P.underlying t=some (.slice e)) (he:tyI P e=some (sz,by_,ag)) (hu:u=.slice (some ⟨b,a,none⟩) n cap) (hk:k<n) (kk:K (.pointer (some ⟨b,a+k*sz,none⟩))) :
   RD P (Instr.indexAt t u (.int .i64 (k:Int))) w K:=by
 subst hu
 exact za0 (fun w' _=>by rw [zcw ht he (by omega) (by omega)];simp) kk
instance:Flat DRace:=⟨fun h=>by obtain ⟨F1,F2,c1,c2,rfl,rfl,⟨rfl,_⟩,⟨F3,F4,c3,c4,rfl,rfl,⟨rfl,_⟩,⟨rfl,_⟩⟩⟩:=h;rfl⟩
section
variable {α:Type} [DecidableEq α]
def ddg (x:α):List α→List α
 | []=>[]
 | y :: l=>if y=x then ddg x l else y :: ddg y l
def ddp:List α→List α
 | []=>[]
 | x :: l=>x :: ddg x l
theorem zkz (y:α):∀ (l:List α) (x:α),ddg x (l++[y])=if y=l.getLastD x then ddg x l else ddg x l++[y]
 | [],x=>rfl
 | a :: l,x=>by
   rw [List.cons_append,ddg,ddg,List.getLastD_cons]
   by_cases h:a=x
   · rw [if_pos h,if_pos h,zkz y l x,h]
   rw [if_neg h,if_neg h,zkz y l a]
   split<;>rfl
theorem zkA {l:List α} {k:Nat} (h0:0<k) (hk:k<l.length):ddp (l.take (k+1))=if l[k]=l[k-1] then ddp (l.take k) else ddp (l.take k)++[l[k]]:=by
 rw [List.take_succ_eq_append_getElem hk]
 cases l with
 | nil=>simp at hk
 | cons x l=>
   obtain ⟨j,rfl⟩:∃ j,k=j+1:=⟨k-1,by omega⟩
   have hj:j<l.length:=by simpa using hk
   have e:(l.take j).getLastD x=(x :: l)[j+1-1]:=by
     rw [List.getLastD_eq_getLast?,List.getLast?_eq_getElem?,List.length_take,Nat.min_eq_left (by omega)]
     cases j with
     | zero=>simp
     | succ j=>simp [List.getElem?_take];rw [List.getElem?_eq_getElem (by omega)];rfl
   rw [List.take_succ_cons,List.cons_append,ddp,ddp,zkz,e]
   split<;>rfl
end
theorem zoN {w:World} {lo hi:Nat} {v:Value} {l:List DRace} (h:OwnI lo hi w v l) (hn:l.length≤1073741824) :
   CALL Tryz.prog 102 [v] w fun r w'=>ChgI lo hi w w'∧OwnI lo hi w' r (ddp l):=by
 obtain ⟨F,hM,hF⟩:=h
 refine F102_call ?_
 unfold F102
 refine zag u40 hM.is ?_
 refine zah ?_
 refine br (fun hlt=>?_) (fun hge=>?_)
 · refine ⟨ChgI.refl w,F,?_,hF⟩
   have:ddp l=l:=by
     match l,hlt with
     | [],_=>rfl
     | [x],_=>rfl
     | _ :: _ :: _,h=>simp only [List.length_cons] at h;omega
   rw [this];exact hM
 have hne:l≠[]:=fun e=>by rw [e] at hge;simp at hge
 obtain ⟨b,o,cap,xs,rfl,rfl,h1,h2,hcc,hrr,hww⟩:=zdv hM hne
 have hln:=hM.is
 refine zaq l.length (fun k us w'=>us=[.int .i64 (k:Int)]∧Ext w w'∧1≤k∧k≤l.length∧ddp (l.take k)=l.take k) 1 (by omega) ⟨rfl,Ext.refl w,Nat.le_refl _,by omega,?_⟩ ?_
 · cases l with
   | nil=>exact absurd rfl hne
   | cons x l=>rfl
 rintro k0 mk u w1 hkm ⟨hu,hx1,hk1,hkl,hd0⟩
 simp only [List.map_cons,List.map_nil,List.cons.injEq,and_true] at hu
 rw [hu]
 refine zag u40 hln ?_
 refine zah ?_
 refine br (fun hlt=>?_) (fun hge1=>?_)
 case refine_2=>
   have:k0=l.length:=by omega
   subst this
   rw [List.take_length] at hd0
   rw [hd0]
   exact ⟨hx1.toI,[b],hM.ext hx1,hF⟩
 have hk:k0<l.length:=by omega
 have hx2:=zak w1
 have hx12:=hx1.trans hx2
 generalize World.drew1 w1=w2 at *
 refine zad u40 zd5 hln hk fun b1 o1 hA1=>?_
 refine zac zd5 hA1 hx12 fun v19 h19=>?_
 refine zbf (by unfold I64;omega) ?_
 rw [show ((k0:Int)-1)=((k0-1:Nat):Int) by omega]
 refine zad (i:=k0-1) u40 zd5 hln (by omega) fun b2 o2 hA2=>?_
 refine zac zd5 hA2 hx12 fun v24 h24=>?_
 refine ziC h19 h24 ?_
 refine br (fun heq=>?_) (fun hneq=>?_)
 case refine_2=>
   refine zaf (by omega) ?_
   refine ⟨mk-1,by omega,k0+1,by omega,rfl,hx12,by omega,by omega,?_⟩
   rw [zkA (by omega) hk,if_neg hneq,hd0,←List.take_succ_eq_append_getElem hk]
 refine zn5 (α:=DRace) u40 zd5 (by omega) h1 ?_
 rw [if_neg (by omega)]
 have e3:Rep.size DRace=3:=rfl
 rw [e3]
 refine zaq (l.length-k0) (fun k2 us w'=>∃ (k:Nat) (cur:List DRace),us=[.int .i64 (k:Int),.int .i64 (k2:Int)]∧Chg [b] w w'∧Mine [b] w' (.slice (some ⟨b,o,none⟩) l.length cap) cur∧cur.length=l.length∧1≤k2∧k2≤l.length-k0∧k0≤k∧k+1≤k0+k2 ∧
     cur.take k=ddp (l.take (k0+k2))∧∀ j,k≤j→cur[j]?=l[j]?) 1 (by omega)
   ⟨k0,l,rfl,hx12.chg _,hM.ext hx12,rfl,Nat.le_refl _,by omega,Nat.le_refl _,by omega,by rw [zkA (by omega) hk,if_pos heq,hd0],fun _ _=>rfl⟩ ?_
 rintro k2 mk2 u9 w3 hkm2 ⟨k,cur,hu9,hc3,hm3,hl3,hk21,hk22,hk0,hkk,htk,hrest⟩
 obtain ⟨hu91,hu92⟩:=zb1 hu9
 rw [hu91,hu92]
 refine za0 (v:=.int .i64 ((l.length-k0:Nat):Int)) (fun w' _=>by simp [Builtin.len_,run_underlying u40];rfl) ?_
 refine zah ?_
 refine br (fun hlt2=>?_) (fun hge2=>?_)
 · have hp:k0+k2<l.length:=by omega
   have hx4:=zak w3
   have hm4:=hm3.ext hx4
   have hc4:=hc3.trans (hx4.chg _)
   generalize World.drew1 w3=w4 at *
   have hcne:cur≠[]:=fun e=>by rw [e] at hl3;simp at hl3;omega
   obtain ⟨b',o',cap',xs',hv',hb',_,_,hcc',hrr',hww'⟩:=zdv hm4 hcne
   simp only [Value.slice.injEq,Option.some.injEq,Addr.mk.injEq] at hv'
   obtain ⟨⟨rfl,rfl,_⟩,_,rfl⟩:=hv'
   have hat:∀ i (hi:i<cur.length),At w4 b (o+i*3) cur[i]:=fun i hi=>hcc'.at hrr' hi
   have hget:∀ i (hi:i<l.length) (hki:k≤i),cur[i]'(by omega)=l[i]:=fun i hi hki=>by
     have:=hrest i hki
     rw [List.getElem?_eq_getElem (by omega),List.getElem?_eq_getElem hi] at this
     exact Option.some.inj this
   have hA3:=hat (k0+k2) (by omega)
   have hA4:=hat (k0+k2-1) (by omega)
   rw [hget _ hp (by omega)] at hA3
   rw [hget _ (by omega) (by omega)] at hA4
   refine zmZ (k:=k2) u40 zd5 rfl (by omega) ?_
   rw [show o+k0*3+k2*3=o+(k0+k2)*3 by omega]
   refine zac zd5 hA3 (Ext.refl _) fun v38 h38=>?_
   refine zbf (by unfold I64;omega) ?_
   rw [show ((k2:Int)-1)=((k2-1:Nat):Int) by omega]
   refine zmZ (k:=k2-1) u40 zd5 rfl (by omega) ?_
   rw [show o+k0*3+(k2-1)*3=o+(k0+k2-1)*3 by omega]
   refine zac zd5 hA4 (Ext.refl _) fun v43 h43=>?_
   refine zmY h38 h43 ?_
   have hdt:=zkA (l:=l) (k:=k0+k2) (by omega) hp
   refine br (fun hne2=>?_) (fun heq2=>?_)
   · refine zmZ (k:=k2) u40 zd5 rfl (by omega) ?_
     rw [show o+k0*3+k2*3=o+(k0+k2)*3 by omega]
     refine zac zd5 hA3 (Ext.refl _) fun v50 h50=>?_
     obtain ⟨F5,cs5,hr5,hv5⟩:=h50
     have hF5:=Flat.flat hr5
     subst hF5
     refine zrO (α:=DRace) u40 zd5 hm4 (k:=k) (by omega) ⟨cs5,hr5,hv5⟩ fun w5 hc5 hm5=>?_
     refine zaf (by omega) ?_
     refine zaf (by omega) ?_
     refine ⟨mk2-1,by omega,k2+1,by omega,k+1,_,rfl,hc4.trans hc5,hm5,by simp [hl3],by omega,by omega,by omega,by omega,?_,fun j hj=>?_⟩
     · rw [show k0+(k2+1)=k0+k2+1 by omega,hdt,if_neg hne2,←htk]
       rw [List.take_succ_eq_append_getElem (by simp;omega),List.getElem_set_self,List.take_set_of_le (Nat.le_refl _)]
     rw [List.getElem?_set_ne (by omega)]
     exact hrest j (by omega)
   have heq2:=Decidable.not_not.1 heq2
   refine zaf (by omega) ?_
   refine ⟨mk2-1,by omega,k2+1,by omega,k,cur,rfl,hc4,hm4,hl3,by omega,by omega,hk0,by omega,?_,hrest⟩
   rw [show k0+(k2+1)=k0+k2+1 by omega,hdt,if_pos heq2,htk]
 have hk2:k0+k2=l.length:=by omega
 rw [hk2,List.take_length] at htk
 refine zn5 (α:=DRace) u40 zd5 (by omega) h1 ?_
 refine zqO (α:=DRace) u40 zvB hm3 hl3 (by omega) (by omega) h1 fun w5 hc5 hm5=>?_
 refine zt5 (α:=DRace) u40 zd5 (by omega) h1 ?_
 rw [htk] at hm5
 exact ⟨(hc3.trans hc5).toI hF,[b],hm5,hF⟩
theorem zqP {w W:World} {v:Value} {l:List DRace} (h:Is W v l) (e:Ext W w) (hn:l.length≤1073741824) :
   CALL Tryz.prog 98 [v] w fun r w'=>Ext w w'∧Own w.heap.size w' r l:=by
 refine F98_call ?_
 unfold F98
 obtain ⟨a,cap,Fi,xs,rfl,h1,h2,h3,h4⟩:=zdb h
 refine zkX u40 ?_
 refine zbw (fun hnil=>?_) (fun _=>?_)
 · have:l=[]:=by
     rcases h4 with h4 | ⟨b,o,rfl,_⟩
     · exact h4
     simp at hnil
   subst this
   exact ⟨Ext.refl w,zmu rfl⟩
 refine zaY (α:=DRace) u40 zd5 fun a5 w1 hx1 r5=>?_
 have hs1:=hx1.size
 refine zds (α:=DRace) u40 zd5 zuR r5 (Nat.le_refl _) h (e.trans hx1) (by rw [zan];simp;omega) (by simp;omega) fun v7 w2 hc2 r7=>?_
 rw [List.nil_append] at r7
 exact ⟨Ext.chgI hx1 hc2 (by omega),r7.own.own.mono (by omega)⟩
theorem zsh {w:World} {lo hi:Nat} {v:Value} {l:List DRace} (h:OwnI lo hi w v l) :
   CALL Tryz.prog 101 [v] w fun r w'=>Ext w w'∧OwnI lo hi w' r l:=by
 obtain ⟨F,hM,hF⟩:=h
 refine F101_call ?_
 unfold F101
 refine zag u40 hM.is ?_
 refine zag u40 hM.is ?_
 by_cases hne:l=[]
 · subst hne
   obtain ⟨a,cap,Fi,xs,rfl,h1,h2,h3,h4⟩:=zdb hM.is
   refine zn6 (α:=DRace) (k:=0) (j:=0) u40 zd5 (Nat.le_refl _) h1 fun a' _=>⟨Ext.refl w,zkZ a'⟩
 obtain ⟨b,o,cap,xs,rfl,rfl,h1,h2,hc,hr,hw⟩:=zdv hM hne
 refine zn6 (α:=DRace) (k:=l.length) (j:=l.length) u40 zd5 (Nat.le_refl _) h1 fun a' ha=>?_
 rw [ha (fun e=>hne (List.eq_nil_of_length_eq_zero e))]
 exact ⟨Ext.refl w,[b],zeJ (Nat.le_refl _) (by omega) hc hr hw,hF⟩
theorem zgD {lo hi:Nat} {w:World} {x:DTouch} (h1:I64 x.at_) (h2:I64 x.global) (h3:I64 x.held):OwnI lo hi w (.agg #[.int .i64 x.at_,.int .i64 x.global,.bool x.write,.int .i64 x.held]) x:=
 ⟨[],zpZ h1 h2 h3,by simp⟩
def zbO (c:DCode) (a:Int) (held:Int) (i:DIns):Nat→List DTouch
 | 0=>[]
 | k+1=>zbO c a held i k++(if c.globals.getD k ByteArray.empty∈zbT i.term then [⟨a,k,false,held⟩] else [])++(if i.op=1∧i.arg=k then [⟨a,k,true,held⟩] else [])
def zcM (c:DCode) (a:Int) (held:Int):List DTouch:=
 if (zal c a.toNat).op=1∨(zal c a.toNat).op=2 then zbO c a held (zal c a.toNat) c.globals.length else []
theorem zeK (c:DCode) (a held:Int) (i:DIns):∀ k,(zbO c a held i k).length≤2*k
 | 0=>by simp [zbO]
 | k+1=>by
   have:=zeK c a held i k
   rw [zbO,List.length_append,List.length_append]
   split<;>split<;>simp<;>omega
theorem zm0 (c:DCode) (a held:Int):(zcM c a held).length≤2*c.globals.length:=by
 unfold zcM
 split
 · exact zeK _ _ _ _ _
 simp
def F94 (a0 a1 a2:Value) (w:World) (R:VW):Prop:=
 oP (Instr.box 31 a0) w fun x3 w=>
 rF 31 x3 4 w fun x12=>
 rL 29 x12 w fun x13=>
 rX 29 x13 a1 w fun x15=>
 rL 94 x15 w fun x16=>
 oP (Instr.alloc 94 true (.tuple #[])) w fun x7 w=>
 oS 94 x7 x16 w fun w=>
 JOIN [] (fun J4=>
 rF 94 x7 0 w fun x17=>
 rL 3 x17 w fun x18=>
 rB .neq 3 T0 U0 x18 (iV 1) w fun x19=>
 BR x19
 (rF 94 x7 0 w fun x21=>
 rL 3 x21 w fun x22=>
 rB .neq 3 T0 U0 x22 (iV 2) w fun x23=>
 BR x23
 (R (Value.slice none 0 0) w)
 (J4 [] w))
 (J4 [] w)) (fun u4 w=>
 rF 94 x7 2 w fun x25=>
 rL 92 x25 w fun x26=>
 cL 142 [x26] w fun x27 w=>
 rF 31 x3 0 w fun x28=>
 rL 22 x28 w fun x29=>
 rN 22 3 x29 w fun x30=>
 LOOPI [9,31] [(Value.slice none 0 0),(iV 0)] w fun u7 w next7=>
 rC (u7 31) x30 w fun x32=>
 BR x32
 (rX 22 x29 (u7 31) w fun x34=>
 rL 9 x34 w fun x35=>
 JOIN [9] (fun J11=>
 cL 139 [x27,x35] w fun x38 w=>
 BR x38
 (rD (Instr.build 81 #[(0,a1),(1,(u7 31)),(3,a2)]) w fun x43=>
 oP (Instr.buildSlice 76 1 #[(0,x43)]) w fun x44 w=>
 oP (Builtin.append_ #[76,76] 76 [(u7 9),x44].toArray) w fun x45 w=>
 J11 [x45] w)
 (J11 [(u7 9)] w)) (fun u11 w=>
 rF 94 x7 0 w fun x46=>
 rL 3 x46 w fun x47=>
 rB .eql 3 T0 U0 x47 (iV 1) w fun x48=>
 BR x48
 (rF 94 x7 1 w fun x50=>
 rL 3 x50 w fun x51=>
 rB .eql 3 T0 T0 x51 (u7 31) w fun x53=>
 BR x53
 (rD (Instr.build 81 #[(0,a1),(1,(u7 31)),(2,(Value.bool true)),(3,a2)]) w fun x59=>
 oP (Instr.buildSlice 76 1 #[(0,x59)]) w fun x60 w=>
 oP (Builtin.append_ #[76,76] 76 [(u11 9),x60].toArray) w fun x61 w=>
 rA (u7 31) (iV 1) w fun x62=>
 next7 [x61,x62] w)
 (rA (u7 31) (iV 1) w fun x62=>
 next7 [(u11 9),x62] w))
 (rA (u7 31) (iV 1) w fun x62=>
 next7 [(u11 9),x62] w)))
 (R (u7 9) w))
def cfg94:Cfg:=⟨extL,[(4,33423424,[]),(11,70300024701440,[9])],[(7,9223372034707295744,[9,31])],[],[],[],[]⟩
theorem F94_call {a0 a1 a2:Value} {w:World} {R:VW} (h:F94 a0 a1 a2 w R):cL 94 [a0,a1,a2] w R:=co (g:=cfg94) Tryz.func94 (by kernel_rfl) (by kernel_rfl) (by kernel_rfl) h
theorem zlM {w:World} {v0:Value} {W0:World} {c:DCode} {a:Int} {held:Int}  (h0:Is W0 v0 c) (e0:Ext W0 w) (hc:CodeR c) (ha:0≤a) (ha2:a<c.ins.length) (hh:I64 held) :
   CALL Tryz.prog 94 [v0,.int .i64 a,.int .i64 held] w fun r w'=>Ext w w'∧(Own w.heap.size w' r (zcM c a held)):=by
 refine F94_call ?_
 unfold F94
 have hil:=hc.f.ins
 have hg6:c.globals.length≤6:=by have h1:=hc.1.1;simp only [Bool.and_eq_true,decide_eq_true_eq] at h1;omega
 have hs_e0:=e0.size
 refine zaD zbt rfl h0 e0 fun w1_ hx1_ hA3 hV3=>?_
 have hs_hx1_:=hx1_.size
 refine zaa zaJ ?_
 refine zac zct (zai hA3) (Ext.refl w1_) fun v13 h13=>?_
 refine zch u29 zcb h13 (by omega) (by omega) fun b15 o15 h15=>?_
 rw [zaF] at h15
 obtain ⟨i,hi⟩:∃ i,i=zal c a.toNat:=⟨_,rfl⟩
 rw [←hi] at h15
 refine zac zcb h15 (Ext.refl w1_) fun v16 h16=>?_
 refine zbX zmj rfl zcb rfl h16 (Ext.refl w1_) fun w2_ hx2_ hA7 hV7=>?_
 have hs_hx2_:=hx2_.size
 have hg7:=hV7.lt
 refine JOIN.mk (fun us w'=>us=[]∧Ext w2_ w'∧(i.op=1∨i.op=2)) ?_ ?_
 · refine zaa za6 ?_
   refine zab ty3 (zas hA7) (Ext.refl w2_) fun hI18=>?_
   refine zaI ?_
   refine br (fun c1=>?_) (fun c1=>?_)
   · refine zaa za6 ?_
     refine zab ty3 (zas hA7) (Ext.refl w2_) fun hI22=>?_
     refine zaI ?_
     refine br (fun c2=>?_) (fun c2=>?_)
     · refine ⟨(hx1_.trans hx2_),?_⟩
       unfold zcM
       rw [←hi,if_neg (by omega)]
       exact zmu rfl
     refine ⟨by simp,Ext.refl w2_,?_⟩
     omega
   refine ⟨by simp,Ext.refl w2_,?_⟩
   omega
 rintro uj4 w3_ ⟨hu,hx3_,hop⟩
 have hs_hx3_:=hx3_.size
 simp only [List.map_cons,List.map_nil,List.cons.injEq,and_true] at hu
 clear hu
 refine zaa zdB ?_
 refine zac zdu (zbu hA7) hx3_ fun v26 h26=>?_
 refine (zd1 h26 hx3_).mono ?_
 rintro r27 w4_ ⟨hx4_,h27⟩
 have hs_hx4_:=hx4_.size
 refine zaa zcH ?_
 refine zac zbP (zaZ hA3) (hx2_.trans (hx3_.trans hx4_)) fun v29 h29=>?_
 have hln30:=zam h29
 refine zag u22 h29 ?_
 refine zaq (c.globals.length) (fun k us w'=>∃ v:Value,us=[v,.int .i64 (k:Int)]∧Ext w4_ w'∧(RowI w4_.heap.size w'.heap.size 81 w' v (zbO c a held i k))) (0) (by omega) ⟨_,rfl,Ext.refl w4_,zcp _ _ _ _⟩ ?_
 rintro k m7 uu7 w5_ hk7 ⟨v9,hu,hx5_,hrow⟩
 have hs_hx5_:=hx5_.size
 obtain ⟨hu0,hu1⟩:=zb1 hu;clear hu
 try rw [hu0]
 try rw [hu1]
 try clear hu0 hu1
 have hrl:=zeK c a held i k
 refine zah ?_
 refine br (fun c3=>?_) (fun c3=>?_)
 · refine zad u22 ty9 h29 (by omega) fun b34 o34 h34=>?_
   refine zaH ty9 h34 (hx2_.trans (hx3_.trans (hx4_.trans hx5_))) fun hS35=>?_
   refine JOIN.mk (fun us w'=>∃ v:Value,us=[v]∧Ext w4_ w'∧(RowI w4_.heap.size w'.heap.size 81 w' v (zbO c a held i k++(if c.globals.getD k ByteArray.empty∈zbT i.term then [⟨a,k,false,held⟩] else [])))) ?_ ?_
   · have hgk:c.globals[k]'(by omega)=c.globals.getD k ByteArray.empty:=by rw [List.getD_eq_getElem?_getD,List.getElem?_eq_getElem (by omega)];rfl
     refine (zb6 h27 hx5_).mono ?_
     rintro _ w7_ ⟨hx7_,rfl⟩
     have hs_hx7_:=hx7_.size
     refine br (fun c4=>?_) (fun c4=>?_)
     · refine zca (cells:=#[.int .i64 a,.int .i64 (k:Int),.bool false,.int .i64 held]) (by kernel_rfl) ?_
       have o43:OwnI w7_.heap.size w7_.heap.size w7_ (.agg #[.int .i64 a,.int .i64 (k:Int),.bool false,.int .i64 held]) (⟨a,k,false,held⟩:DTouch):=zgD (x:=⟨a,k,false,held⟩) (by show I64 a;unfold I64;omega) (by show I64 (k:Int);unfold I64;omega) hh
       refine zbK (α:=DTouch) u76 zgQ z81 zuy (by decide) (hrow.ext hx7_) (by omega) (o43.ext (Ext.refl w7_)) (by omega) (by omega) (by rw [zan];omega) (by omega) fun v45 w8_ hc8_ o45=>?_
       have hs_hc8_:=hc8_.size
       have o43_c8:=(o43.ext (Ext.refl w7_)).chg hc8_ (by omega)
       refine ⟨_,rfl,(Ext.chgI (hx5_.trans hx7_) hc8_ (by omega)),?_⟩
       rw [if_pos (by rw [←hgk];exact c4)];exact o45
     refine ⟨_,rfl,(hx5_.trans hx7_),?_⟩
     rw [if_neg (by rw [←hgk];exact c4),List.append_nil];exact (hrow.ext hx7_).mono (by omega) (by omega)
   rintro uj11 w6_ ⟨v11,hu,hx8_,hrow2⟩
   have hs_hx8_:=hx8_.size
   simp only [List.map_cons,List.map_nil,List.cons.injEq,and_true] at hu
   try rw [hu]
   try clear hu
   refine zaa za6 ?_
   refine zab ty3 (zas hA7) (hx3_.trans (hx4_.trans hx8_)) fun hI47=>?_
   refine zao ?_
   refine br (fun c5=>?_) (fun c5=>?_)
   · refine zaa za7 ?_
     refine zab ty3 (zav hA7) (hx3_.trans (hx4_.trans hx8_)) fun hI51=>?_
     refine zao ?_
     refine br (fun c6=>?_) (fun c6=>?_)
     · refine zca (cells:=#[.int .i64 a,.int .i64 (k:Int),.bool true,.int .i64 held]) (by kernel_rfl) ?_
       have o59:OwnI w6_.heap.size w6_.heap.size w6_ (.agg #[.int .i64 a,.int .i64 (k:Int),.bool true,.int .i64 held]) (⟨a,k,true,held⟩:DTouch):=zgD (x:=⟨a,k,true,held⟩) (by show I64 a;unfold I64;omega) (by show I64 (k:Int);unfold I64;omega) hh
       refine zbK (α:=DTouch) u76 zgQ z81 zuy (by decide) (hrow2.ext (Ext.refl w6_)) (by omega) (o59.ext (Ext.refl w6_)) (by omega) (by omega) (by rw [zan,List.length_append];split<;>simp<;>omega) (by rw [List.length_append];split<;>simp<;>omega) fun v61 w9_ hc9_ o61=>?_
       have hs_hc9_:=hc9_.size
       have o59_c9:=(o59.ext (Ext.refl w6_)).chg hc9_ (by omega)
       refine zaf (by omega) ?_
       refine ⟨m7-1,by omega,k+1,by omega,_,rfl,(Ext.chgI hx8_ hc9_ (by omega)),?_⟩
       rw [zbO,if_pos (c:=i.op=1∧i.arg=k) ⟨by omega,by omega⟩];exact o61
     refine zaf (by omega) ?_
     refine ⟨m7-1,by omega,k+1,by omega,_,rfl,hx8_,?_⟩
     rw [zbO,if_neg (c:=i.op=1∧i.arg=k) (fun h=>c6 h.2),List.append_nil];exact (hrow2.ext (Ext.refl w6_)).mono (by omega) (by omega)
   refine zaf (by omega) ?_
   refine ⟨m7-1,by omega,k+1,by omega,_,rfl,hx8_,?_⟩
   rw [zbO,if_neg (c:=i.op=1∧i.arg=k) (fun h=>c5 h.1),List.append_nil];exact (hrow2.ext (Ext.refl w6_)).mono (by omega) (by omega)
 refine ⟨(hx1_.trans (hx2_.trans (hx3_.trans (hx4_.trans hx5_)))),?_⟩
 unfold zcM
 rw [←hi,if_pos hop,←show k=c.globals.length by omega]
 exact hrow.own.own.mono (by omega)
def F73 (a0 a1 a2:Value) (w:World) (R:VW):Prop:=
 oP (Instr.box 31 a0) w fun x3 w=>
 oP (Instr.buildSlice 76 0 #[]) w fun x11 w=>
 rF 31 x3 4 w fun x12=>
 rL 29 x12 w fun x13=>
 rX 29 x13 a1 w fun x15=>
 rL 94 x15 w fun x16=>
 oP (Instr.alloc 94 true (.tuple #[])) w fun x8 w=>
 oS 94 x8 x16 w fun w=>
 JOIN [] (fun J5=>
 rF 94 x8 0 w fun x17=>
 rL 3 x17 w fun x18=>
 rB .neq 3 T0 U0 x18 (iV 1) w fun x19=>
 BR x19
 (rF 94 x8 0 w fun x21=>
 rL 3 x21 w fun x22=>
 rB .neq 3 T0 U0 x22 (iV 2) w fun x23=>
 BR x23
 (R x11 w)
 (J5 [] w))
 (J5 [] w)) (fun u5 w=>
 rF 94 x8 2 w fun x26=>
 rL 92 x26 w fun x27=>
 cL 69 [x27] w fun x28 w=>
 LOOPI [7,10] [x11,(iV 0)] w fun u7 w next7=>
 rF 31 x3 0 w fun x30=>
 rL 22 x30 w fun x31=>
 rN 22 3 x31 w fun x32=>
 rC (u7 10) x32 w fun x33=>
 BR x33
 (JOIN [7] (fun J11=>
 rF 31 x3 0 w fun x37=>
 rL 22 x37 w fun x38=>
 rX 22 x38 (u7 10) w fun x40=>
 rL 9 x40 w fun x41=>
 cL 118 [x28,x41] w fun x42 w=>
 BR x42
 (rD (Instr.build 81 #[(0,a1),(1,(u7 10)),(3,a2)]) w fun x47=>
 oP (Instr.buildSlice 76 1 #[(0,x47)]) w fun x48 w=>
 oP (Builtin.append_ #[76,76] 76 [(u7 7),x48].toArray) w fun x49 w=>
 J11 [x49] w)
 (J11 [(u7 7)] w)) (fun u11 w=>
 rF 94 x8 0 w fun x50=>
 rL 3 x50 w fun x51=>
 rB .eql 3 T0 U0 x51 (iV 1) w fun x52=>
 BR x52
 (rF 94 x8 1 w fun x54=>
 rL 3 x54 w fun x55=>
 rB .eql 3 T0 T0 x55 (u7 10) w fun x57=>
 BR x57
 (rD (Instr.build 81 #[(0,a1),(1,(u7 10)),(2,(Value.bool true)),(3,a2)]) w fun x63=>
 oP (Instr.buildSlice 76 1 #[(0,x63)]) w fun x64 w=>
 oP (Builtin.append_ #[76,76] 76 [(u11 7),x64].toArray) w fun x65 w=>
 rA (u7 10) (iV 1) w fun x35=>
 next7 [x65,x35] w)
 (rA (u7 10) (iV 1) w fun x35=>
 next7 [(u11 7),x35] w))
 (rA (u7 10) (iV 1) w fun x35=>
 next7 [(u11 7),x35] w)))
 (R (u7 7) w))
def cfg73:Cfg:=⟨extL,[(5,66977856,[]),(11,1125831187366016,[7])],[(7,73786976294301336704,[7,10])],[],[],[],[]⟩
theorem F73_call {a0 a1 a2:Value} {w:World} {R:VW} (h:F73 a0 a1 a2 w R):cL 73 [a0,a1,a2] w R:=co (g:=cfg73) Tryz.func73 (by kernel_rfl) (by kernel_rfl) (by kernel_rfl) h
theorem zsi {w:World} {v0:Value} {W0:World} {c:DCode} {a:Int} {held:Int}  (h0:Is W0 v0 c) (e0:Ext W0 w) (hc:CodeR c) (ha:0≤a) (ha2:a<c.ins.length) (hh:I64 held) :
   CALL Tryz.prog 73 [v0,.int .i64 a,.int .i64 held] w fun r w'=>Ext w w'∧(Own w.heap.size w' r (zcM c a held)):=by
 refine F73_call ?_
 unfold F73
 have hil:=hc.f.ins
 have hg6:c.globals.length≤6:=by have h1:=hc.1.1;simp only [Bool.and_eq_true,decide_eq_true_eq] at h1;omega
 have hs_e0:=e0.size
 refine zaD zbt rfl h0 e0 fun w1_ hx1_ hA3 hV3=>?_
 have hs_hx1_:=hx1_.size
 refine zaY (α:=DTouch) u76 zgQ fun v11 w2_ hx2_ o11=>?_
 have hs_hx2_:=hx2_.size
 refine zaa zaJ ?_
 refine zac zct (zai hA3) hx2_ fun v13 h13=>?_
 refine zch u29 zcb h13 (by omega) (by omega) fun b15 o15 h15=>?_
 rw [zaF] at h15
 obtain ⟨i,hi⟩:∃ i,i=zal c a.toNat:=⟨_,rfl⟩
 rw [←hi] at h15
 refine zac zcb h15 hx2_ fun v16 h16=>?_
 refine zbX zmj rfl zcb rfl h16 hx2_ fun w3_ hx3_ hA8 hV8=>?_
 have hs_hx3_:=hx3_.size
 have hg8:=hV8.lt
 refine JOIN.mk (fun us w'=>us=[]∧Ext w3_ w'∧(i.op=1∨i.op=2)) ?_ ?_
 · refine zaa za6 ?_
   refine zab ty3 (zas hA8) (Ext.refl w3_) fun hI18=>?_
   refine zaI ?_
   refine br (fun c1=>?_) (fun c1=>?_)
   · refine zaa za6 ?_
     refine zab ty3 (zas hA8) (Ext.refl w3_) fun hI22=>?_
     refine zaI ?_
     refine br (fun c2=>?_) (fun c2=>?_)
     · refine ⟨(hx1_.trans (hx2_.trans hx3_)),?_⟩
       unfold zcM
       rw [←hi,if_neg (by omega)]
       exact (o11.ext hx3_).own.own.mono (by omega)
     refine ⟨by simp,Ext.refl w3_,?_⟩
     omega
   refine ⟨by simp,Ext.refl w3_,?_⟩
   omega
 rintro uj5 w4_ ⟨hu,hx4_,hop⟩
 have hs_hx4_:=hx4_.size
 simp only [List.map_cons,List.map_nil,List.cons.injEq,and_true] at hu
 clear hu
 refine zaa zdB ?_
 refine zac zdu (zbu hA8) hx4_ fun v27 h27=>?_
 refine (zd2 h27 hx4_).mono ?_
 rintro r28 w5_ ⟨hx5_,h28⟩
 have hs_hx5_:=hx5_.size
 refine zaq (c.globals.length) (fun k us w'=>∃ v:Value,us=[v,.int .i64 (k:Int)]∧Ext w5_ w'∧(RowI w5_.heap.size w'.heap.size 81 w' v (zbO c a held i k))) (0) (by omega) ⟨_,rfl,Ext.refl w5_,zcf _ _ _ _ _⟩ ?_
 rintro k m7 uu7 w6_ hk7 ⟨v7,hu,hx6_,hrow⟩
 have hs_hx6_:=hx6_.size
 obtain ⟨hu0,hu1⟩:=zb1 hu;clear hu
 try rw [hu0]
 try rw [hu1]
 try clear hu0 hu1
 have hrl:=zeK c a held i k
 refine zaa zcH ?_
 refine zac zbP (zaZ hA3) (hx2_.trans (hx3_.trans (hx4_.trans (hx5_.trans hx6_)))) fun v31 h31=>?_
 have hln32:=zam h31
 refine zag u22 h31 ?_
 refine zah ?_
 refine br (fun c3=>?_) (fun c3=>?_)
 · refine JOIN.mk (fun us w'=>∃ v:Value,us=[v]∧Ext w5_ w'∧(RowI w5_.heap.size w'.heap.size 81 w' v (zbO c a held i k++(if c.globals.getD k ByteArray.empty∈zbT i.term then [⟨a,k,false,held⟩] else [])))) ?_ ?_
   · refine zaa zcH ?_
     refine zac zbP (zaZ hA3) (hx2_.trans (hx3_.trans (hx4_.trans (hx5_.trans hx6_)))) fun v38 h38=>?_
     refine zad u22 ty9 h38 (by omega) fun b40 o40 h40=>?_
     refine zaH ty9 h40 (hx2_.trans (hx3_.trans (hx4_.trans (hx5_.trans hx6_)))) fun hS41=>?_
     have hgk:c.globals[k]'(by omega)=c.globals.getD k ByteArray.empty:=by rw [List.getD_eq_getElem?_getD,List.getElem?_eq_getElem (by omega)];rfl
     refine (zlp h28 hx6_).mono ?_
     rintro _ w8_ ⟨hx8_,rfl⟩
     have hs_hx8_:=hx8_.size
     refine br (fun c4=>?_) (fun c4=>?_)
     · refine zca (cells:=#[.int .i64 a,.int .i64 (k:Int),.bool false,.int .i64 held]) (by kernel_rfl) ?_
       have o47:OwnI w8_.heap.size w8_.heap.size w8_ (.agg #[.int .i64 a,.int .i64 (k:Int),.bool false,.int .i64 held]) (⟨a,k,false,held⟩:DTouch):=zgD (x:=⟨a,k,false,held⟩) (by show I64 a;unfold I64;omega) (by show I64 (k:Int);unfold I64;omega) hh
       refine zbK (α:=DTouch) u76 zgQ z81 zuy (by decide) (hrow.ext hx8_) (by omega) (o47.ext (Ext.refl w8_)) (by omega) (by omega) (by rw [zan];omega) (by omega) fun v49 w9_ hc9_ o49=>?_
       have hs_hc9_:=hc9_.size
       have o11_c9:=(o11.ext (hx3_.trans (hx4_.trans (hx5_.trans (hx6_.trans hx8_))))).chg hc9_ (by omega)
       have o47_c9:=(o47.ext (Ext.refl w8_)).chg hc9_ (by omega)
       refine ⟨_,rfl,(Ext.chgI (hx6_.trans hx8_) hc9_ (by omega)),?_⟩
       rw [if_pos (by rw [←hgk];exact c4)];exact o49
     refine ⟨_,rfl,(hx6_.trans hx8_),?_⟩
     rw [if_neg (by rw [←hgk];exact c4),List.append_nil];exact (hrow.ext hx8_).mono (by omega) (by omega)
   rintro uj11 w7_ ⟨v11,hu,hx9_,hrow2⟩
   have hs_hx9_:=hx9_.size
   simp only [List.map_cons,List.map_nil,List.cons.injEq,and_true] at hu
   try rw [hu]
   try clear hu
   refine zaa za6 ?_
   refine zab ty3 (zas hA8) (hx4_.trans (hx5_.trans hx9_)) fun hI51=>?_
   refine zao ?_
   refine br (fun c5=>?_) (fun c5=>?_)
   · refine zaa za7 ?_
     refine zab ty3 (zav hA8) (hx4_.trans (hx5_.trans hx9_)) fun hI55=>?_
     refine zao ?_
     refine br (fun c6=>?_) (fun c6=>?_)
     · refine zca (cells:=#[.int .i64 a,.int .i64 (k:Int),.bool true,.int .i64 held]) (by kernel_rfl) ?_
       have o63:OwnI w7_.heap.size w7_.heap.size w7_ (.agg #[.int .i64 a,.int .i64 (k:Int),.bool true,.int .i64 held]) (⟨a,k,true,held⟩:DTouch):=zgD (x:=⟨a,k,true,held⟩) (by show I64 a;unfold I64;omega) (by show I64 (k:Int);unfold I64;omega) hh
       refine zbK (α:=DTouch) u76 zgQ z81 zuy (by decide) (hrow2.ext (Ext.refl w7_)) (by omega) (o63.ext (Ext.refl w7_)) (by omega) (by omega) (by rw [zan,List.length_append];split<;>simp<;>omega) (by rw [List.length_append];split<;>simp<;>omega) fun v65 w10_ hc10_ o65=>?_
       have hs_hc10_:=hc10_.size
       have o11_c10:=(o11.ext (hx3_.trans (hx4_.trans (hx5_.trans hx9_)))).chg hc10_ (by omega)
       have o63_c10:=(o63.ext (Ext.refl w7_)).chg hc10_ (by omega)
       refine zaf (by omega) ?_
       refine ⟨m7-1,by omega,k+1,by omega,_,rfl,(Ext.chgI hx9_ hc10_ (by omega)),?_⟩
       rw [zbO,if_pos (c:=i.op=1∧i.arg=k) ⟨by omega,by omega⟩];exact o65
     refine zaf (by omega) ?_
     refine ⟨m7-1,by omega,k+1,by omega,_,rfl,hx9_,?_⟩
     rw [zbO,if_neg (c:=i.op=1∧i.arg=k) (fun h=>c6 h.2),List.append_nil];exact (hrow2.ext (Ext.refl w7_)).mono (by omega) (by omega)
   refine zaf (by omega) ?_
   refine ⟨m7-1,by omega,k+1,by omega,_,rfl,hx9_,?_⟩
   rw [zbO,if_neg (c:=i.op=1∧i.arg=k) (fun h=>c5 h.1),List.append_nil];exact (hrow2.ext (Ext.refl w7_)).mono (by omega) (by omega)
 refine ⟨(hx1_.trans (hx2_.trans (hx3_.trans (hx4_.trans (hx5_.trans hx6_))))),?_⟩
 unfold zcM
 rw [←hi,if_pos hop,←show k=c.globals.length by omega]
 exact hrow.own.own.mono (by omega)
def F205 (a0:Value) (w:World) (R:VW):Prop:=
 rB .neq 3 T0 T0 a0 a0 w fun x5=>
 R x5 w
def cfg205:Cfg:=⟨extL,[],[],[],[],[],[]⟩
theorem F205_call {a0:Value} {w:World} {R:VW} (h:F205 a0 w R):cL 205 [a0] w R:=co (g:=cfg205) Tryz.func205 (by kernel_rfl) (by kernel_rfl) (by kernel_rfl) h
def F158 (a0 a1:Value) (w:World) (R:VW):Prop:=
 cL 205 [a0] w fun x8 w=>
 cL 205 [a1] w fun x10 w=>
 BR x8
 (BR x10
 (R (iV 0) w)
 (R (iV (-1)) w))
 (BR x10
 (R (iV 1) w)
 (rC a0 a1 w fun x16=>
 BR x16
 (R (iV (-1)) w)
 (rB .gtr 3 T0 T0 a0 a1 w fun x19=>
 BR x19
 (R (iV 1) w)
 (R (iV 0) w))))
def cfg158:Cfg:=⟨extL,[],[],[],[],[],[]⟩
theorem F158_call {a0 a1:Value} {w:World} {R:VW} (h:F158 a0 a1 w R):cL 158 [a0,a1] w R:=co (g:=cfg158) Tryz.func158 (by kernel_rfl) (by kernel_rfl) (by kernel_rfl) h
def F110 (a0 a1:Value) (w:World) (R:VW):Prop:=
 rN 23 3 a0 w fun x10=>
 LOOPI [11] [(iV 0)] w fun u2 w next2=>
 rC (u2 11) x10 w fun x12=>
 BR x12
 (rX 23 a0 (u2 11) w fun x14=>
 rL 3 x14 w fun x15=>
 rN 23 3 a1 w fun x18=>
 rB .geq 3 T0 T0 (u2 11) x18 w fun x19=>
 BR x19
 (R (iV 1) w)
 (rX 23 a1 (u2 11) w fun x22=>
 rL 3 x22 w fun x23=>
 cL 158 [x15,x23] w fun x26 w=>
 rB .neq 3 T0 U0 x26 (iV 0) w fun x28=>
 BR x28
 (R x26 w)
 (rA (u2 11) (iV 1) w fun x30=>
 next2 [x30] w)))
 (rN 23 3 a0 w fun x32=>
 rN 23 3 a1 w fun x34=>
 rC x32 x34 w fun x35=>
 BR x35
 (R (iV (-1)) w)
 (R (iV 0) w))
def cfg110:Cfg:=⟨extL,[],[(2,2147482096,[11])],[],[],[],[]⟩
theorem F110_call {a0 a1:Value} {w:World} {R:VW} (h:F110 a0 a1 w R):cL 110 [a0,a1] w R:=co (g:=cfg110) Tryz.func110 (by kernel_rfl) (by kernel_rfl) (by kernel_rfl) h
def F100 (a0 a1:Value) (w:World) (R:VW):Prop:=
 oP (Instr.box 44 a0) w fun x2 w=>
 oP (Instr.box 44 a1) w fun x3 w=>
 rF 44 x2 0 w fun x5=>
 rL 3 x5 w fun x6=>
 rF 44 x2 1 w fun x7=>
 rL 3 x7 w fun x8=>
 rF 44 x2 2 w fun x9=>
 rL 3 x9 w fun x10=>
 oP (Instr.buildSlice 23 3 #[(0,x6),(1,x8),(2,x10)]) w fun x11 w=>
 rF 44 x3 0 w fun x12=>
 rL 3 x12 w fun x13=>
 rF 44 x3 1 w fun x14=>
 rL 3 x14 w fun x15=>
 rF 44 x3 2 w fun x16=>
 rL 3 x16 w fun x17=>
 oP (Instr.buildSlice 23 3 #[(0,x13),(1,x15),(2,x17)]) w fun x18 w=>
 cL 110 [x11,x18] w fun x19 w=>
 R x19 w
def cfg100:Cfg:=⟨extL,[],[],[],[],[],[]⟩
theorem F100_call {a0 a1:Value} {w:World} {R:VW} (h:F100 a0 a1 w R):cL 100 [a0,a1] w R:=co (g:=cfg100) Tryz.func100 (by kernel_rfl) (by kernel_rfl) (by kernel_rfl) h
theorem zvv:zcm Tryz.prog 3=some [.int .i64 0]:=by kernel_rfl
def zn7 (x y:Int):Int:=if x<y then -1 else if y<x then 1 else 0
def zqQ:List Int→List Int→Int
 | [],[]=>0
 | [],_ :: _=>-1
 | _ :: _,[]=>1
 | x :: l,y :: m=>if zn7 x y≠0 then zn7 x y else zqQ l m
theorem isNaN_ok {w:World} {x:Int}:CALL Tryz.prog 205 [.int .i64 x] w fun r w'=>w'=w∧r=.bool false:=by
 refine F205_call ?_
 unfold F205
 exact zaI ⟨rfl,by simp⟩
theorem compareI_ok {w:World} {x y:Int}:CALL Tryz.prog 158 [.int .i64 x,.int .i64 y] w fun r w'=>w'=w∧r=.int .i64 (zn7 x y):=by
 refine F158_call ?_
 unfold F158
 refine isNaN_ok.mono ?_
 rintro _ _ ⟨rfl,rfl⟩
 refine isNaN_ok.mono ?_
 rintro _ _ ⟨rfl,rfl⟩
 refine zbw (fun h=>by cases h) (fun _=>?_)
 refine zbw (fun h=>by cases h) (fun _=>?_)
 refine zah ?_
 refine br (fun h=>⟨rfl,by rw [zn7,if_pos h]⟩) (fun h=>?_)
 refine zcQ ?_
 refine br (fun h2=>⟨rfl,by rw [zn7,if_neg h,if_pos h2]⟩) (fun h2=>⟨rfl,by rw [zn7,if_neg h,if_neg h2]⟩)
theorem zkB {P:Program} {w:World} {K:Value→Prop} {t ty e:TypeId} {a:Option Addr} {n c:Nat} (ht:P.underlying t=some (.slice e)) (k:K (.int .i64 (n:Int))) :
   RD P (Builtin.len_ #[t] ty [Value.slice a n c].toArray) w K:=za0 (fun w' _=>by simp [Builtin.len_,run_underlying ht];rfl) k
def vI (l:List Int):List Value:=l.map fun x=>.int .i64 x
theorem ztt {l:List Int} {k:Nat} (h:k<l.length):(vI l)[k]?=some (.int .i64 l[k]):=by simp [vI,h]
theorem zqR {l m:List Int} {k:Nat} (h1:k<l.length) (h2:k<m.length):zqQ (l.drop k) (m.drop k)=if zn7 l[k] m[k]≠0 then zn7 l[k] m[k] else zqQ (l.drop (k+1)) (m.drop (k+1)):=by
 rw [List.drop_eq_getElem_cons h1,List.drop_eq_getElem_cons h2,zqQ]
theorem ziD {w:World} {g1 g2 e1 e2 c1 c2:Nat} {l m:List Int} (h1:Blk g1 e1 w (vI l)) (h2:Blk g2 e2 w (vI m)) (hl:l.length≤1000) (hm:m.length≤1000) :
   CALL Tryz.prog 110 [.slice (some ⟨g1,0,none⟩) l.length c1,.slice (some ⟨g2,0,none⟩) m.length c2] w fun r w'=>w'=w∧r=.int .i64 (zqQ l m):=by
 refine F110_call ?_
 unfold F110
 refine zkB u23 ?_
 refine zaq l.length (fun k us w'=>us=[.int .i64 (k:Int)]∧w'=w∧k≤m.length∧zqQ l m=zqQ (l.drop k) (m.drop k)) 0 (Nat.zero_le _) ⟨rfl,rfl,Nat.zero_le _,rfl⟩ ?_
 rintro k mk u w2 hkm ⟨hu,rfl,hkl,hc⟩
 simp only [List.map_cons,List.map_nil,List.cons.injEq,and_true] at hu
 rw [hu]
 refine zah ?_
 refine br (fun hlt=>?_) (fun hge=>?_)
 · have hk1:k<l.length:=by omega
   refine zdy u23 ty3 hk1 ?_
   rw [Nat.mul_one]
   refine zay ty3 h1 (ztt hk1) ?_
   refine zkB u23 ?_
   refine zb9 ?_
   refine br (fun hge=>?_) (fun hlt2=>?_)
   · refine ⟨rfl,?_⟩
     have e0:m.drop k=[]:=List.drop_eq_nil_of_le (by omega)
     rw [hc,List.drop_eq_getElem_cons hk1,e0];rfl
   have hk2:k<m.length:=by omega
   refine zdy u23 ty3 hk2 ?_
   rw [Nat.mul_one]
   refine zay ty3 h2 (ztt hk2) ?_
   refine compareI_ok.mono ?_
   rintro _ _ ⟨rfl,rfl⟩
   have hst:=zqR hk1 hk2
   refine zaI ?_
   refine br (fun hne=>?_) (fun heq=>?_)
   · exact ⟨rfl,by rw [hc,hst,if_pos hne]⟩
   refine zaf (by omega) ?_
   exact ⟨mk-1,by omega,k+1,by omega,rfl,rfl,by omega,by rw [hc,hst,if_neg heq]⟩
 have hk:k=l.length:=by omega
 subst hk
 refine zkB u23 ?_
 refine zkB u23 ?_
 refine zah ?_
 rw [List.drop_length] at hc
 refine br (fun hlt2=>⟨rfl,?_⟩) (fun hge2=>⟨rfl,?_⟩)
 · rw [hc,List.drop_eq_getElem_cons (by omega)];rfl
 rw [hc,List.drop_eq_nil_of_le (by omega)];rfl
section
variable {P:Program} {w:World} {K:Value→World→Prop}
theorem zkC {t:TypeId} {cs:Array Value} (k:K (.pointer (some ⟨w.heap.size,0,none⟩)) (w.alloc (.cells cs t))):OP P (Instr.box t (.agg cs)) w K:=
 ⟨_,w.alloc (.cells cs t),by simp [Instr.box,newVar,newRow,Value.cells],k⟩
theorem zfw {t e:TypeId} {by_:Nat} {x y z:Int} (ht:P.underlying t=some (.slice e)) (he:tyI P e=some (1,by_,false)) (hz:zcm P e=some [.int .i64 0])
   (k:K (.slice (some ⟨w.heap.size,0,none⟩) 3 3) (w.alloc (.cells (vI [x,y,z]).toArray e))):OP P (Instr.buildSlice t 3 #[(0,.int .i64 x),(1,.int .i64 y),(2,.int .i64 z)]) w K:=by
 unfold zcm at hz
 cases hi:P.info? e with
 | none=>simp [hi] at hz
 | some i=>
   simp only [hi] at hz
   obtain ⟨v,hv,hvc⟩:=Option.map_eq_some_iff.1 hz
   refine ⟨_,w.alloc (.cells (vI [x,y,z]).toArray e),?_,k⟩
   have hvc':v.cells=#[.int .i64 0]:=Array.ext' (by simpa using hvc)
   have e1:∀ n:Int,(Value.int .i64 n).cells=#[.int .i64 n]:=fun _=>rfl
   simp only [Instr.buildSlice,Sem.run_bind,run_underlying ht,Result.andThen_ok,zaW he]
   have e2:Array.range 3=#[0,1,2]:=by decide
   simp [zeroValue,typeInfo,hi,hv,newRow,Instr.fill,hvc',vI,e1,e2]
end
def i3 (a b c:Int):Array Value:=#[.int .i64 a,.int .i64 b,.int .i64 c]
def zf4 (w w':World):Prop:=∃ q os,w'=Go.Sort.grow (w.drewN q) os
theorem zho {w:World} (o1 o2 o3 o4:Obj):zf4 w ((((w.alloc o1).alloc o2).alloc o3).alloc o4):=
 ⟨0,#[o1]++#[o2]++#[o3]++#[o4],by
   rw [Go.Sort.alloc_eq_grow,Go.Sort.alloc_eq_grow,Go.Sort.alloc_eq_grow,Go.Sort.alloc_eq_grow,Go.Sort.grow_grow,Go.Sort.grow_grow,Go.Sort.grow_grow];rfl⟩
def ziE (x:DRace):List Int:=[x.g,x.a,x.b]
def zsj (x y:DRace):Int:=zqQ (ziE x) (ziE y)
theorem ziF {w:World} {x y:DRace}:CALL Tryz.prog 100 [.agg (i3 x.g x.a x.b),.agg (i3 y.g y.a y.b)] w fun r w'=>r=.int .i64 (zsj x y)∧zf4 w w':=by
 refine F100_call ?_
 unfold F100
 refine zkC ?_
 have hB1:Blk w.heap.size 44 (w.alloc (.cells (i3 x.g x.a x.b) 44)) (vI (ziE x)):=heap_alloc_new w _
 refine zkC ?_
 generalize hw1:w.alloc (.cells (i3 x.g x.a x.b) 44)=w1 at *
 have hB2:Blk w1.heap.size 44 (w1.alloc (.cells (i3 y.g y.a y.b) 44)) (vI (ziE y)):=heap_alloc_new w1 _
 have hx2:=zaP w1 (.cells (i3 y.g y.a y.b) 44)
 generalize hw2:w1.alloc (.cells (i3 y.g y.a y.b) 44)=w2 at *
 have hB12:=hB1.ext hx2
 refine zaa zgj ?_
 refine zay ty3 hB12 rfl ?_
 refine zaa zhi ?_
 refine zay ty3 hB12 rfl ?_
 refine zaa zjm ?_
 refine zay ty3 hB12 rfl ?_
 refine zfw u23 ty3 zvv ?_
 have hx3:=zaP w2 (.cells (vI [x.g,x.a,x.b]).toArray 3)
 have hB3:Blk w2.heap.size 3 (w2.alloc (.cells (vI [x.g,x.a,x.b]).toArray 3)) (vI (ziE x)):=heap_alloc_new w2 _
 generalize hw3:w2.alloc (.cells (vI [x.g,x.a,x.b]).toArray 3)=w3 at *
 have hB23:=hB2.ext hx3
 refine zaa zgj ?_
 refine zay ty3 hB23 rfl ?_
 refine zaa zhi ?_
 refine zay ty3 hB23 rfl ?_
 refine zaa zjm ?_
 refine zay ty3 hB23 rfl ?_
 refine zfw u23 ty3 zvv ?_
 have hx4:=zaP w3 (.cells (vI [y.g,y.a,y.b]).toArray 3)
 have hB4:Blk w3.heap.size 3 (w3.alloc (.cells (vI [y.g,y.a,y.b]).toArray 3)) (vI (ziE y)):=heap_alloc_new w3 _
 have hg:zf4 w (w3.alloc (.cells (vI [y.g,y.a,y.b]).toArray 3)):=by rw [←hw3,←hw2,←hw1];exact zho _ _ _ _
 refine (ziD (l:=ziE x) (m:=ziE y) (hB3.ext hx4) hB4 (by simp [ziE]) (by simp [ziE])).mono ?_
 rintro _ _ ⟨rfl,rfl⟩
 exact ⟨rfl,hg⟩
def ltR (x y:DRace):Prop:=x.g<y.g∨(x.g=y.g∧(x.a<y.a∨(x.a=y.a∧x.b<y.b)))
theorem zg6 {x y:Int} (h:x<y):zn7 x y=-1:=by rw [zn7,if_pos h]
theorem zg7 {x y:Int} (h:y<x):zn7 x y=1:=by rw [zn7,if_neg (by omega),if_pos h]
theorem zg8 {x y:Int} (h:x=y):zn7 x y=0:=by rw [zn7,if_neg (by omega),if_neg (by omega)]
theorem zt6 {x y:DRace}:zsj x y<0↔ltR x y:=by
 unfold zsj ziE ltR
 simp only [zqQ]
 rcases Int.lt_trichotomy x.g y.g with h | h | h
 · rw [zg6 h];simp;omega
 · rw [zg8 h]
   rcases Int.lt_trichotomy x.a y.a with h2 | h2 | h2
   · rw [zg6 h2];simp;omega
   · rw [zg8 h2]
     rcases Int.lt_trichotomy x.b y.b with h3 | h3 | h3
     · rw [zg6 h3];simp;omega
     · rw [zg8 h3];simp;omega
     rw [zg7 h3];simp;omega
   rw [zg7 h2];simp;omega
 rw [zg7 h];simp;omega
def F52 (a0 a1:Value) (w:World) (R:VW):Prop:=
 oP (Instr.box 81 a0) w fun x2 w=>
 oP (Instr.box 81 a1) w fun x3 w=>
 oP (Instr.alloc 44 true (.tuple #[])) w fun x4 w=>
 rF 81 x2 1 w fun x5=>
 rL 3 x5 w fun x6=>
 rF 81 x2 0 w fun x7=>
 rL 3 x7 w fun x8=>
 rF 81 x3 0 w fun x9=>
 rL 3 x9 w fun x10=>
 rD (Builtin.min_ #[3,3] 3 [x8,x10].toArray) w fun x11=>
 rF 81 x2 0 w fun x12=>
 rL 3 x12 w fun x13=>
 rF 81 x3 0 w fun x14=>
 rL 3 x14 w fun x15=>
 rD (Builtin.max_ #[3,3] 3 [x13,x15].toArray) w fun x16=>
 rD (Instr.build 44 #[(0,x6),(1,x11),(2,x16)]) w fun x17=>
 oS 44 x4 x17 w fun w=>
 rD (zeX 44 x4) w fun r4=>R r4 w
def cfg52:Cfg:=⟨extL,[],[],[],[],[],[]⟩
theorem F52_call {a0 a1:Value} {w:World} {R:VW} (h:F52 a0 a1 w R):cL 52 [a0,a1] w R:=co (g:=cfg52) Tryz.func52 (by kernel_rfl) (by kernel_rfl) (by kernel_rfl) h
def F97 (a0:Value) (w:World) (R:VW):Prop:=
 rB .geq 3 T0 U0 a0 (iV 0) w fun x4=>
 BR x4
 (rB .leq 3 T0 U0 a0 (iV 63) w fun x7=>
 R x7 w)
 (R (Value.bool false) w)
def cfg97:Cfg:=⟨extL,[],[],[],[],[],[]⟩
theorem F97_call {a0:Value} {w:World} {R:VW} (h:F97 a0 w R):cL 97 [a0] w R:=co (g:=cfg97) Tryz.func97 (by kernel_rfl) (by kernel_rfl) (by kernel_rfl) h
theorem zn8 {w:World} {n:Int}    :
   CALL Tryz.prog 97 [.int .i64 n] w fun r w'=>Ext w w'∧(r=.bool (decide (0≤n∧n≤63))):=by
 refine F97_call ?_
 unfold F97
 refine zb9 ?_
 refine br (fun c1=>?_) (fun c1=>?_)
 · refine zdw ?_
   refine ⟨Ext.refl w,?_⟩
   simp [c1]
 refine ⟨Ext.refl w,?_⟩
 simp [c1]
def zdk (a b:DTouch):Prop:=a.global=b.global∧(a.write=true∨b.write=true)∧(0≤a.held∧a.held≤63)∧(0≤b.held∧b.held≤63)∧a.held.toNat &&& b.held.toNat=0
instance (a b:DTouch):Decidable (zdk a b):=by unfold zdk;infer_instance
def F50 (a0 a1:Value) (w:World) (R:VW):Prop:=
 oP (Instr.box 81 a0) w fun x2 w=>
 oP (Instr.box 81 a1) w fun x3 w=>
 JOIN [] (fun J3=>
 rF 81 x2 1 w fun x5=>
 rL 3 x5 w fun x6=>
 rF 81 x3 1 w fun x7=>
 rL 3 x7 w fun x8=>
 rB .neq 3 T0 T0 x6 x8 w fun x9=>
 BR x9
 (R (Value.bool false) w)
 (rF 81 x2 2 w fun x11=>
 rL 4 x11 w fun x12=>
 rD (Op.unary .not x12) w fun x13=>
 GBR x13
 (rF 81 x3 2 w fun x15=>
 rL 4 x15 w fun x16=>
 rD (Op.unary .not x16) w fun x17=>
 BR x17
 (R (Value.bool false) w)
 (J3 [] w))
 (J3 [] w)
 (BR undef
 (BR undef
 (R (Value.bool false) w)
 (J3 [] w))
 (J3 [] w)))) (fun u3 w=>
 rF 81 x2 3 w fun x20=>
 rL 3 x20 w fun x21=>
 cL 97 [x21] w fun x22 w=>
 BR x22
 (rF 81 x3 3 w fun x24=>
 rL 3 x24 w fun x25=>
 cL 97 [x25] w fun x26 w=>
 BR x26
 (rF 81 x2 3 w fun x29=>
 rL 3 x29 w fun x30=>
 rF 81 x3 3 w fun x31=>
 rL 3 x31 w fun x32=>
 rB .and 3 T0 T0 x30 x32 w fun x33=>
 rB .eql 3 T0 U0 x33 (iV 0) w fun x34=>
 R x34 w)
 (R (Value.bool false) w))
 (R (Value.bool false) w))
def cfg50:Cfg:=⟨extL,[(3,1048560,[])],[],[],[],[],[]⟩
theorem F50_call {a0 a1:Value} {w:World} {R:VW} (h:F50 a0 a1 w R):cL 50 [a0,a1] w R:=co (g:=cfg50) Tryz.func50 (by kernel_rfl) (by kernel_rfl) (by kernel_rfl) h
theorem zsk {w:World} {v0:Value} {W0:World} {a:DTouch} {v1:Value} {W1:World} {b:DTouch}  (h0:Is W0 v0 a) (e0:Ext W0 w) (h1:Is W1 v1 b) (e1:Ext W1 w)  :
   CALL Tryz.prog 50 [v0,v1] w fun r w'=>Ext w w'∧(r=.bool (decide (zdk a b))):=by
 refine F50_call ?_
 unfold F50
 refine zaD zgQ rfl h0 e0 fun w1_ hx1_ hA2 hV2=>?_
 refine zaD zgQ rfl h1 (e1.trans hx1_) fun w2_ hx2_ hA3 hV3=>?_
 refine JOIN.mk (fun us w'=>us=[]∧Ext w2_ w'∧(a.global=b.global∧(a.write=true∨b.write=true))) ?_ ?_
 · refine zaa zjn ?_
   refine zab ty3 (zcT hA2) hx2_ fun hI6=>?_
   refine zaa zjn ?_
   refine zab ty3 (zcT hA3) (Ext.refl w2_) fun hI8=>?_
   refine zaI ?_
   refine br (fun c1=>?_) (fun c1=>?_)
   · refine ⟨(hx1_.trans hx2_),?_⟩
     have:¬zdk a b:=fun h=>c1 h.1
     simp only [this,decide_false]
   refine zaa znx ?_
   refine zaw ty4 (zey hA2) hx2_ ?_
   refine zaV ?_
   refine ztG (fun c2=>?_) (fun c2=>?_)
   · refine zaa znx ?_
     refine zaw ty4 (zey hA3) (Ext.refl w2_) ?_
     refine zaV ?_
     refine zbw (fun c3=>?_) (fun c3=>?_)
     · refine ⟨(hx1_.trans hx2_),?_⟩
       have:¬zdk a b:=fun h=>by rcases h.2.1 with h | h<;>simp_all
       simp only [this,decide_false]
     refine ⟨by simp,Ext.refl w2_,?_⟩
     exact ⟨by omega,.inr (by simpa using c3)⟩
   refine ⟨by simp,Ext.refl w2_,?_⟩
   exact ⟨by omega,.inl (by simpa using c2)⟩
 rintro uj3 w3_ ⟨hu,hx3_,hgl,hwr⟩
 simp only [List.map_cons,List.map_nil,List.cons.injEq,and_true] at hu
 clear hu
 refine zaa zjo ?_
 refine zab ty3 (zcU hA2) (hx2_.trans hx3_) fun hI21=>?_
 refine (zn8 ).mono ?_
 rintro _ w4_ ⟨hx4_,rfl⟩
 refine br (fun c4=>?_) (fun c4=>?_)
 · refine zaa zjo ?_
   refine zab ty3 (zcU hA3) (hx3_.trans hx4_) fun hI25=>?_
   refine (zn8 ).mono ?_
   rintro _ w5_ ⟨hx5_,rfl⟩
   refine br (fun c5=>?_) (fun c5=>?_)
   · refine zaa zjo ?_
     refine zab ty3 (zcU hA2) (hx2_.trans (hx3_.trans (hx4_.trans hx5_))) fun hI30=>?_
     refine zaa zjo ?_
     refine zab ty3 (zcU hA3) (hx3_.trans (hx4_.trans hx5_)) fun hI32=>?_
     obtain ⟨m,hm⟩:=Int.eq_ofNat_of_zero_le c4.1
     obtain ⟨n,hn⟩:=Int.eq_ofNat_of_zero_le c5.1
     rw [hm,hn]
     refine zdi (by omega) (by omega) ?_
     refine zao ?_
     refine ⟨(hx1_.trans (hx2_.trans (hx3_.trans (hx4_.trans hx5_)))),?_⟩
     have:zdk a b↔m &&& n=0:=by
       have e1:a.held.toNat=m:=by omega
       have e2:b.held.toNat=n:=by omega
       unfold zdk
       rw [e1,e2]
       exact ⟨fun h=>h.2.2.2.2,fun h=>⟨hgl,hwr,c4,c5,h⟩⟩
     congr 1
     rw [decide_eq_decide,this]
     omega
   refine ⟨(hx1_.trans (hx2_.trans (hx3_.trans (hx4_.trans hx5_)))),?_⟩
   have:¬zdk a b:=fun h=>c5 h.2.2.2.1
   simp only [this,decide_false]
 refine ⟨(hx1_.trans (hx2_.trans (hx3_.trans hx4_))),?_⟩
 have:¬zdk a b:=fun h=>c4 h.2.2.1
 simp only [this,decide_false]
def zek (a b:DTouch):DRace:=⟨a.global,min a.at_ b.at_,max a.at_ b.at_⟩
theorem zqS {w W0 W1:World} {v0 v1:Value} {a b:DTouch} (h0:Is W0 v0 a) (e0:Ext W0 w) (h1:Is W1 v1 b) (e1:Ext W1 w) :
   CALL Tryz.prog 52 [v0,v1] w fun r w'=>Ext w w'∧∀ lo hi,OwnI lo hi w' r (zek a b):=by
 refine F52_call ?_
 unfold F52
 refine zbr h0 e0 fun w1 hx1 hA=>?_
 refine zbr h1 (e1.trans hx1) fun w2 hx2 hB=>?_
 refine zfP (α:=DRace) zvB fun w3 hx3 hv=>?_
 have hs1:=hx1.size
 have hs2:=hx2.size
 have hs3:=hx3.size
 have hx23:=hx2.trans hx3
 refine zaa zjn ?_
 refine zab ty3 (zcT hA) hx23 fun hI6=>?_
 refine zaa zfG ?_
 refine zab ty3 (zbL hA) hx23 fun hI8=>?_
 refine zaa zfG ?_
 refine zab ty3 (zbL hB) hx3 fun hI10=>?_
 refine zuO ?_
 refine zaa zfG ?_
 refine zab ty3 (zbL hA) hx23 fun _=>?_
 refine zaa zfG ?_
 refine zab ty3 (zbL hB) hx3 fun _=>?_
 refine zuN ?_
 have hm:∀ (w:World) lo hi,OwnI lo hi w (.agg #[.int .i64 a.global,.int .i64 (min a.at_ b.at_),.int .i64 (max a.at_ b.at_)]) (zek a b):=fun w lo hi=>⟨[],zpH (x:=zek a b) hI6 (by unfold I64 zek at *;simp only;omega) (by unfold I64 zek at *;simp only;omega),by simp⟩
 refine zca (cells:=#[.int .i64 a.global,.int .i64 (min a.at_ b.at_),.int .i64 (max a.at_ b.at_)]) (by kernel_rfl) ?_
 have hg:=hv.lt
 refine zhy (lo:=w3.heap.size) (hi:=w3.heap.size) zd5 hv (hm w3 _ _) (by omega) fun w4 hc4 hv4=>?_
 have hs4:=hc4.size
 refine zhx zd5 hv4 (Ext.refl _) fun r hr=>?_
 refine ⟨Ext.chgI (hx1.trans hx23) hc4 (by omega),fun lo hi=>?_⟩
 obtain ⟨F,hM,_⟩:=hr
 obtain ⟨cs,h,_⟩:=hM.own
 have hF:=Flat.flat h
 subst hF
 exact ⟨[],hM,by simp⟩
instance (x y:DRace):Decidable (ltR x y):=by unfold ltR;infer_instance
def F77 (a0 a1:Value) (w:World) (R:VW):Prop:=
 oP (Instr.box 44 a0) w fun x2 w=>
 oP (Instr.box 44 a1) w fun x3 w=>
 rF 44 x2 0 w fun x5=>
 rL 3 x5 w fun x6=>
 rF 44 x3 0 w fun x7=>
 rL 3 x7 w fun x8=>
 rB .neq 3 T0 T0 x6 x8 w fun x9=>
 BR x9
 (rF 44 x2 0 w fun x10=>
 rL 3 x10 w fun x11=>
 rF 44 x3 0 w fun x12=>
 rL 3 x12 w fun x13=>
 rC x11 x13 w fun x14=>
 R x14 w)
 (rF 44 x2 1 w fun x15=>
 rL 3 x15 w fun x16=>
 rF 44 x3 1 w fun x17=>
 rL 3 x17 w fun x18=>
 rB .neq 3 T0 T0 x16 x18 w fun x19=>
 BR x19
 (rF 44 x2 1 w fun x20=>
 rL 3 x20 w fun x21=>
 rF 44 x3 1 w fun x22=>
 rL 3 x22 w fun x23=>
 rC x21 x23 w fun x24=>
 R x24 w)
 (rF 44 x2 2 w fun x25=>
 rL 3 x25 w fun x26=>
 rF 44 x3 2 w fun x27=>
 rL 3 x27 w fun x28=>
 rC x26 x28 w fun x29=>
 R x29 w))
def cfg77:Cfg:=⟨extL,[],[],[],[],[],[]⟩
theorem F77_call {a0 a1:Value} {w:World} {R:VW} (h:F77 a0 a1 w R):cL 77 [a0,a1] w R:=co (g:=cfg77) Tryz.func77 (by kernel_rfl) (by kernel_rfl) (by kernel_rfl) h
theorem zm1 {w:World} {v0:Value} {W0:World} {x:DRace} {v1:Value} {W1:World} {y:DRace}  (h0:Is W0 v0 x) (e0:Ext W0 w) (h1:Is W1 v1 y) (e1:Ext W1 w)  :
   CALL Tryz.prog 77 [v0,v1] w fun r w'=>Ext w w'∧(r=.bool (decide (ltR x y))):=by
 refine F77_call ?_
 unfold F77
 refine zaD zd5 rfl h0 e0 fun w1_ hx1_ hA2 hV2=>?_
 refine zaD zd5 rfl h1 (e1.trans hx1_) fun w2_ hx2_ hA3 hV3=>?_
 refine zaa zgj ?_
 refine zab ty3 (zcS hA2) hx2_ fun hI6=>?_
 refine zaa zgj ?_
 refine zab ty3 (zcS hA3) (Ext.refl w2_) fun hI8=>?_
 refine zaI ?_
 refine br (fun c1=>?_) (fun c1=>?_)
 · refine zaa zgj ?_
   refine zab ty3 (zcS hA2) hx2_ fun hI11=>?_
   refine zaa zgj ?_
   refine zab ty3 (zcS hA3) (Ext.refl w2_) fun hI13=>?_
   refine zah ?_
   refine ⟨(hx1_.trans hx2_),?_⟩
   congr 1
   rw [decide_eq_decide]
   unfold ltR
   omega
 refine zaa zhi ?_
 refine zab ty3 (zdt hA2) hx2_ fun hI16=>?_
 refine zaa zhi ?_
 refine zab ty3 (zdt hA3) (Ext.refl w2_) fun hI18=>?_
 refine zaI ?_
 refine br (fun c2=>?_) (fun c2=>?_)
 · refine zaa zhi ?_
   refine zab ty3 (zdt hA2) hx2_ fun hI21=>?_
   refine zaa zhi ?_
   refine zab ty3 (zdt hA3) (Ext.refl w2_) fun hI23=>?_
   refine zah ?_
   refine ⟨(hx1_.trans hx2_),?_⟩
   congr 1
   rw [decide_eq_decide]
   unfold ltR
   omega
 refine zaa zjm ?_
 refine zab ty3 (zfi hA2) hx2_ fun hI26=>?_
 refine zaa zjm ?_
 refine zab ty3 (zfi hA3) (Ext.refl w2_) fun hI28=>?_
 refine zah ?_
 refine ⟨(hx1_.trans hx2_),?_⟩
 congr 1
 rw [decide_eq_decide]
 unfold ltR
 omega
theorem zfx (x:DRace):¬ltR x x:=by unfold ltR;omega
theorem zgE {x y z:DRace} (h:ltR x y) (k:ltR y z):ltR x z:=by unfold ltR at *;omega
theorem ziG {x y:DRace} (h:¬ltR x y) (k:¬ltR y x):x=y:=by
 unfold ltR at *
 exact DRace.ext_iff.2 ⟨by omega,by omega,by omega⟩
def zjA (r:DRace):List DRace→List DRace
 | []=>[r]
 | x :: l=>if ltR x r then x :: zjA r l else if x=r then x :: l else r :: x :: l
def ahd (r:DRace):List DRace→Nat
 | []=>0
 | x :: l=>if ltR x r then ahd r l+1 else 0
theorem zn9 (r:DRace):∀ l,zjA r l=if h:ahd r l<l.length then (if l[ahd r l]=r then l else l.take (ahd r l)++(r :: l.drop (ahd r l))) else l++[r]
 | []=>rfl
 | x :: l=>by
   rw [zjA]
   by_cases h:ltR x r
   · have e:ahd r (x :: l)=ahd r l+1:=by rw [ahd,if_pos h]
     rw [if_pos h,zn9 r l]
     by_cases h2:ahd r l<l.length
     · rw [dif_pos h2,dif_pos (by rw [e];simpa using h2)]
       have e2:(x :: l)[ahd r (x :: l)]'(by rw [e];simpa using h2)=l[ahd r l]:=by simp [e]
       rw [e2]
       split
       · rfl
       simp [e]
     rw [dif_neg h2,dif_neg (by rw [e];simpa using h2)];rfl
   have e:ahd r (x :: l)=0:=by rw [ahd,if_neg h]
   rw [if_neg h,dif_pos (by rw [e];simp)]
   have e2:(x :: l)[ahd r (x :: l)]'(by rw [e];simp)=x:=by simp [e]
   rw [e2]
   split
   · rfl
   simp [e]
theorem zqT {r:DRace}:∀ {l:List DRace} {k:Nat} (hk:k≤l.length),(∀ j (h:j<k),ltR (l[j]'(by omega)) r)→(∀ h:k<l.length,¬ltR l[k] r)→ahd r l=k
 | [],0,_,_,_=>rfl
 | x :: l,0,_,_,h=>by
   have h':¬ltR x r:=h (by simp)
   rw [ahd,if_neg h']
 | x :: l,k+1,hk,h1,h2=>by
   have e:ltR x r:=h1 0 (by omega)
   rw [ahd,if_pos e,zqT (k:=k) (by simpa using hk) (fun j hj=>h1 (j+1) (by omega)) fun h=>h2 (by simpa using h)]
theorem zkD {r x:DRace}:∀ {l:List DRace},x∈zjA r l↔x=r∨x∈l
 | []=>by simp [zjA]
 | y :: l=>by
   rw [zjA]
   split
   · rw [List.mem_cons,zkD,List.mem_cons];exact ⟨fun h=>by rcases h with h | h | h<;>simp [h],fun h=>by rcases h with h | h | h<;>simp [h]⟩
   split
   · rename_i h;subst h;simp
   simp
theorem ziH {r:DRace}:∀ {l:List DRace},l.Pairwise ltR→(zjA r l).Pairwise ltR
 | [],_=>by simp [zjA]
 | y :: l,h=>by
   rw [List.pairwise_cons] at h
   rw [zjA]
   split
   · rename_i hy
     refine List.pairwise_cons.2 ⟨fun z hz=>?_,ziH h.2⟩
     rcases zkD.1 hz with rfl | hz
     · exact hy
     exact h.1 z hz
   rename_i hy
   split
   · exact List.pairwise_cons.2 h
   rename_i hne
   have hry:ltR r y:=Decidable.byContradiction fun hc=>hne (ziG hy hc)
   refine List.pairwise_cons.2 ⟨fun z hz=>?_,List.pairwise_cons.2 h⟩
   rcases List.mem_cons.1 hz with rfl | hz
   · exact hry
   exact zgE hry (h.1 z hz)
theorem zjB:∀ {l m:List DRace},l.Pairwise ltR→m.Pairwise ltR→(∀ x,x∈l↔x∈m)→l=m
 | [],[],_,_,_=>rfl
 | [],y :: m,_,_,h=>by have:=(h y).2 (by simp);cases this
 | x :: l,[],_,_,h=>by have:=(h x).1 (by simp);cases this
 | x :: l,y :: m,h1,h2,h=>by
   rw [List.pairwise_cons] at h1 h2
   have hxy:x=y:=by
     rcases List.mem_cons.1 ((h x).1 (by simp)) with e | hm
     · exact e
     rcases List.mem_cons.1 ((h y).2 (by simp)) with e | hl
     · exact e.symm
     exact absurd (zgE (h1.1 y hl) (h2.1 x hm)) (zfx x)
   subst hxy
   congr 1
   refine zjB h1.2 h2.2 fun z=>⟨fun hz=>?_,fun hz=>?_⟩
   · rcases List.mem_cons.1 ((h z).1 (by simp [hz])) with rfl | h'
     · exact absurd (h1.1 z hz) (zfx z)
     exact h'
   rcases List.mem_cons.1 ((h z).2 (by simp [hz])) with rfl | h'
   · exact absurd (h2.1 z hz) (zfx z)
   exact h'
end Go.Proofs.YtbnjpfjjmhodnaaGreatDoor
namespace Go.Proofs.YtbnjpfjjmhodnaaGreatDoor
open Go Go.Sh Go.Proofs Go.Sort
open Rep (rep)
instance:Inhabited DRace:=⟨⟨0,0,0⟩⟩
def zuE (x:DRace):List Value:=[.int .i64 x.g,.int .i64 x.a,.int .i64 x.b]
theorem zsl:∀ {F:List Nat} {w:World} {cs:List Value} {x:DRace},Rep.rep F w cs x→cs=zuE x:=by
 intro F w cs x h
 obtain ⟨F1,F2,c1,c2,rfl,rfl,⟨rfl,rfl,_⟩,⟨F3,F4,c3,c4,rfl,rfl,⟨rfl,rfl,_⟩,⟨rfl,rfl,_⟩⟩⟩:=h
 rfl
theorem zdI {x y:DRace}:ltOf zsj x y=decide (ltR x y):=by
 unfold ltOf
 rw [decide_eq_decide]
 exact zt6
theorem zt7:SWO (ltOf zsj):=by
 refine ⟨fun x=>?_,fun x y z h k=>?_,fun x y z h k=>?_⟩
 · rw [zdI,decide_eq_false_iff_not];exact zfx x
 · rw [zdI,decide_eq_true_eq] at *;exact zgE h k
 rw [zdI,decide_eq_false_iff_not] at *
 intro hc
 unfold ltR at *
 omega
def srt (l:List DRace):List DRace:=l.mergeSort fun x y=>!(ltOf zsj) y x
theorem zoa (l:List DRace):(srt l).Perm l:=List.mergeSort_perm l _
theorem zqU (l:List DRace):(srt l).length=l.length:=(zoa l).length_eq
theorem zvg (l:List DRace):(srt l).Pairwise fun x y=>¬ltR y x:=by
 have:=List.pairwise_mergeSort (le:=fun x y=>!(ltOf zsj) y x) (fun a b c h1 h2=>by
   simp only [zdI,Bool.not_eq_true',decide_eq_false_iff_not] at *
   unfold ltR at *;omega) (fun a b=>by
   simp only [zdI,Bool.or_eq_true,Bool.not_eq_true',decide_eq_false_iff_not]
   unfold ltR;omega) l
 exact this.imp fun h=>by simpa [zdI] using h
theorem zsm {w:World} {lo hi:Nat} {v:Value} {l:List DRace} (h:OwnI lo hi w v l) (hn:l.length≤1073741824) :
   CALL Tryz.prog 99 [v,.func (.func 100) #[] #[]] w fun r w'=>ChgI lo hi w w'∧OwnI lo hi w' v (srt l):=by
 obtain ⟨F,hM,hF⟩:=h
 by_cases hne:l=[]
 · subst hne
   obtain ⟨a,cap,hv⟩:∃ a cap,v=.slice a 0 cap:=by
     obtain ⟨cs,⟨a,cap,G,xs,h,_⟩,hv⟩:=hM.own
     exact ⟨a,cap,by rw [hv,h];rfl⟩
   subst hv
   refine ⟨(AnyF.slices_SortFunc_none Tryz.sortRace a cap _ w).mono ?_⟩
   rintro e w' ⟨he,rfl⟩
   refine ⟨_,he,ChgI.refl _,F,?_,hF⟩
   have:srt []=[]:=List.eq_nil_of_length_eq_zero (by rw [zqU];rfl)
   rw [this];exact hM
 obtain ⟨b,o,cap,xs,rfl,rfl,h1,h2,hcc,hrr,hww⟩:=zdv hM hne
 have henc:=@zsl
 have hk:∀ x,(zuE x).length=Rep.size DRace:=fun _=>rfl
 obtain ⟨c,e,hbe⟩:=hww
 have hb:b<w.heap.size:=(Array.getElem?_eq_some_iff.1 hbe).1
 have hcmp:CmpLays Tryz.prog 100 #[] zuE 3 zsj b o l.toArray.size w:=fun m os dk _ x y=>by
   have:=ziF (w:=sortWorldK zuE 3 w b o m dk os) (x:=x) (y:=y)
   obtain ⟨h⟩:=this
   refine h.mono ?_
   rintro e w' ⟨v,he,hv,q,os',hw'⟩
   exact ⟨by rw [he,hv],q,os',hw'⟩
 refine ⟨(AnyQ.slices_SortFunc_total Tryz.sortRace 3 Tryz.isAgg44 Tryz.sizeOf44 zuE (fun _=>rfl) (fun x v hv=>by
     simp only [zuE,List.mem_cons,List.not_mem_nil,or_false] at hv
     rcases hv with rfl | rfl | rfl<;>rfl) zsj zt7 100 #[] b o cap l.toArray w (zc1 (ent 100 (by decide) (by kernel_rfl))) hcmp (ziA henc hk ⟨c,e,hbe⟩ hcc hrr) hb (by simp;omega) (fun x y h k=>by
     rw [zdI,decide_eq_false_iff_not] at *;exact ziG h k)).mono ?_⟩
 rintro ex w' ⟨he,n,os,hw'⟩
 have hs:=ziB henc hk (cap:=cap) hw' ⟨c,e,hbe⟩ hcc hrr h1 h2 (by simp) (fun x hx=>by simpa [List.mem_mergeSort] using hx)
 refine ⟨_,he,?_,[b],?_,hF⟩
 · exact hs.1.toI (fun i hi=>hF i hi)
 exact hs.2
def F37 (a0 a1:Value) (w:World) (R:VW):Prop:=
 oP (Instr.box 44 a1) w fun x3 w=>
 JOIN [5] (fun J4=>
 LOOPI [5] [(iV 0)] w fun u2 w next2=>
 (fun w=>rN 40 3 a0 w fun x9=>
 rC (u2 5) x9 w fun x10=>
 BR x10
 (rX 40 a0 (u2 5) w fun x14=>
 rL 44 x14 w fun x15=>
 rL 44 x3 w fun x16=>
 cL 77 [x15,x16] w fun x17 w=>
 BR x17
 (rA (u2 5) (iV 1) w fun x20=>
 next2 [x20] w)
 (J4 [(u2 5)] w))
 (J4 [(u2 5)] w)) (World.drew1 w)) (fun u4 w=>
 JOIN [] (fun J6=>
 (fun w=>rN 40 3 a0 w fun x23=>
 rC (u4 5) x23 w fun x24=>
 BR x24
 (rX 40 a0 (u4 5) w fun x28=>
 rL 44 x28 w fun x29=>
 rL 44 x3 w fun x30=>
 rB .eql 44 T0 T0 x29 x30 w fun x31=>
 BR x31
 (R a0 w)
 (J6 [] w))
 (J6 [] w)) (World.drew1 w)) (fun u6 w=>
 oP (Instr.buildSlice 40 0 #[]) w fun x34 w=>
 rD (Instr.sliceAt 40 a0 none (some (u4 5)) none) w fun x37=>
 oP (Builtin.append_ #[40,40] 40 [x34,x37].toArray) w fun x38 w=>
 rL 44 x3 w fun x40=>
 oP (Instr.buildSlice 40 1 #[(0,x40)]) w fun x41 w=>
 oP (Builtin.append_ #[40,40] 40 [x38,x41].toArray) w fun x42 w=>
 rD (Instr.sliceAt 40 a0 (some (u4 5)) none none) w fun x46=>
 oP (Builtin.append_ #[40,40] 40 [x42,x46].toArray) w fun x47 w=>
 R x47 w))
def cfg37:Cfg:=⟨extL,[(4,2097056,[5]),(6,17177772048,[])],[(2,2097056,[5])],[(2,[0,1,2,3,4,5,6,7,8,9,10,11],0),(4,[0,1,2,3,4,5,6,7,8,9,10,11],0)],[],[],[]⟩
theorem F37_call {a0 a1:Value} {w:World} {R:VW} (h:F37 a0 a1 w R):cL 37 [a0,a1] w R:=co (g:=cfg37) Tryz.func37 (by kernel_rfl) (by kernel_rfl) (by kernel_rfl) h
theorem zgF {α:Type} [Rep α] [Flat α] {w:World} {lo hi:Nat} {v:Value} {x:α} (h:Is w v x):OwnI lo hi w v x:=by
 obtain ⟨F,cs,hr,hv⟩:=h
 have hF:=Flat.flat hr
 subst hF
 exact ⟨[],⟨⟨cs,hr,hv⟩,List.nodup_nil,Wr.nil w⟩,by simp⟩
def F53 (a0:Value) (w:World) (R:VW):Prop:=
 cL 98 [a0] w fun x5 w=>
 cL 99 [x5,(Value.func (.func 100) #[] #[])] w fun x7 w=>
 cL 102 [x5] w fun x9 w=>
 cL 101 [x9] w fun x10 w=>
 R x10 w
def cfg53:Cfg:=⟨extL,[],[],[],[],[],[]⟩
theorem F53_call {a0:Value} {w:World} {R:VW} (h:F53 a0 w R):cL 53 [a0] w R:=co (g:=cfg53) Tryz.func53 (by kernel_rfl) (by kernel_rfl) (by kernel_rfl) h
theorem zm2 {z:DRace}:∀ {l:List DRace} {x:DRace},z∈x :: ddg x l↔z∈x :: l
 | [],x=>Iff.rfl
 | y :: l,x=>by
   rw [ddg]
   split
   · rename_i h
     subst h
     rw [zm2 (l:=l)]
     simp
   rw [List.mem_cons,zm2 (l:=l),List.mem_cons (a:=z) (b:=x)]
theorem zqV:∀ {l:List DRace} {x:DRace},(x :: l).Pairwise (fun a b=>¬ltR b a)→(x :: ddg x l).Pairwise ltR
 | [],x,_=>by simp [ddg]
 | y :: l,x,h=>by
   rw [ddg]
   rw [List.pairwise_cons] at h
   have hy:=h.2
   rw [List.pairwise_cons] at hy
   split
   · rename_i e
     subst e
     exact zqV h.2
   rename_i hne
   have ih:=zqV h.2
   have hxy:ltR x y:=Decidable.byContradiction fun hc=>hne (ziG (h.1 y (by simp)) hc)
   refine List.pairwise_cons.2 ⟨fun z hz=>?_,ih⟩
   rcases List.mem_cons.1 hz with rfl | hz
   · exact hxy
   exact zgE hxy ((List.pairwise_cons.1 ih).1 z hz)
theorem zt8 {l:List DRace} {z:DRace}:z∈ddp l↔z∈l:=by
 cases l with
 | nil=>exact Iff.rfl
 | cons x l=>exact zm2
theorem zvh {l:List DRace} (h:l.Pairwise (fun a b=>¬ltR b a)):(ddp l).Pairwise ltR:=by
 cases l with
 | nil=>exact List.Pairwise.nil
 | cons x l=>exact zqV h
def zeR (l:List DRace):List DRace:=l.foldl (fun acc r=>zjA r acc) []
theorem zoO (l:List DRace) (r:DRace):zeR (l++[r])=zjA r (zeR l):=by simp [zeR]
theorem zjC {x:DRace}:∀ {l acc:List DRace},x∈l.foldl (fun acc r=>zjA r acc) acc↔x∈acc∨x∈l
 | [],acc=>by simp
 | y :: l,acc=>by
   rw [List.foldl_cons,zjC,zkD,List.mem_cons]
   constructor
   · rintro ((h | h) | h)<;>simp [h]
   rintro (h | h | h)<;>simp [h]
theorem zlN {x:DRace} {l:List DRace}:x∈zeR l↔x∈l:=by unfold zeR;rw [zjC];simp
theorem zlO:∀ {l acc:List DRace},acc.Pairwise ltR→(l.foldl (fun acc r=>zjA r acc) acc).Pairwise ltR
 | [],acc,h=>h
 | y :: l,acc,h=>by
   rw [List.foldl_cons]
   exact zlO (ziH h)
theorem zsn (l:List DRace):(zeR l).Pairwise ltR:=zlO List.Pairwise.nil
theorem zob (r:DRace):∀ l:List DRace,(zjA r l).length≤l.length+1
 | []=>by simp [zjA]
 | x :: l=>by
   have:=zob r l
   rw [zjA]
   split
   · simpa using this
   split<;>simp
theorem zjD:∀ (l acc:List DRace),(l.foldl (fun acc r=>zjA r acc) acc).length≤acc.length+l.length
 | [],acc=>by simp
 | y :: l,acc=>by
   have h1:=zjD l (zjA y acc)
   have h2:=zob y acc
   rw [List.foldl_cons,List.length_cons];omega
theorem zlP (l:List DRace):(zeR l).length≤l.length:=by have:=zjD l [];simpa [zeR] using this
theorem zt9 (l:List DRace):ddp (srt l)=zeR l:=zjB (zvh (zvg l)) (zsn l) fun x=>by rw [zt8,zlN,(zoa l).mem_iff]
def clR (a b:DTouch):List DRace:=if zdk a b then [zek a b] else []
def gB (a:DTouch) (bs:List DTouch):List DRace:=bs.flatMap (clR a)
def gL (Ls:List (List DTouch)) (a:DTouch):List DRace:=Ls.flatMap (gB a)
def gA (Ls:List (List DTouch)) (xs:List DTouch):List DRace:=xs.flatMap (gL Ls)
def zv7 (T:Nat→List DTouch) (t:Nat):List (List DTouch):=(List.range t).map T
def gT (T:Nat→List DTouch) (n:Nat):List DRace:=(List.range n).flatMap fun t=>gA (zv7 T t) (T t)
def hA (bs xs:List DTouch):List DRace:=xs.flatMap fun a=>gB a bs
def hU (T:Nat→List DTouch) (xs:List DTouch) (t:Nat):List DRace:=(List.range t).flatMap fun u=>hA (T u) xs
def hT (T:Nat→List DTouch) (n:Nat):List DRace:=(List.range n).flatMap fun t=>hU T (T t) t
theorem zdY {α β:Type} {f:α→List β} {l:List α} {k:Nat} (h:k<l.length):(l.take (k+1)).flatMap f=(l.take k).flatMap f++f l[k]:=by
 rw [List.take_succ_eq_append_getElem h,List.flatMap_append];simp
theorem zfy {β:Type} {f:Nat→List β} (n:Nat):(List.range (n+1)).flatMap f=(List.range n).flatMap f++f n:=by
 rw [List.range_succ,List.flatMap_append];simp
def tA (c:DCode) (s:DState) (t:Nat):List DTouch:=if 0≤zu1 s t then zcM c (zu1 s t) 0 else []
theorem zjE {c:DCode} {a held:Int} {i:DIns} {x:DTouch}:∀ {k:Nat},x∈zbO c a held i k→x.at_=a∧x.held=held
 | 0,h=>by simp [zbO] at h
 | k+1,h=>by
   rw [zbO,List.mem_append,List.mem_append] at h
   rcases h with (h | h) | h
   · exact zjE h
   · split at h
     · simp only [List.mem_cons,List.not_mem_nil,or_false] at h;subst h;exact ⟨rfl,rfl⟩
     simp at h
   split at h
   · simp only [List.mem_cons,List.not_mem_nil,or_false] at h;subst h;exact ⟨rfl,rfl⟩
   simp at h
theorem zel {c:DCode} {a held:Int} {x:DTouch} (h:x∈zcM c a held):x.at_=a∧x.held=held:=by
 unfold zcM at h
 split at h
 · exact zjE h
 simp at h
def zvJ (c:DCode) (s:DState):List DRace:=zeR (gT (tA c s) s.stacks.length)
def F183 (a0 a1 a2 a3:Value) (w:World) (R:VW):Prop:=
 cL 107 [a1] w fun x15 w=>
 rN 23 3 x15 w fun x16=>
 LOOPI [9,17] [(Value.slice none 0 0),(iV 0)] w fun u3 w next3=>
 rC (u3 17) x16 w fun x18=>
 BR x18
 (rX 23 x15 (u3 17) w fun x19=>
 rL 3 x19 w fun x20=>
 cL 88 [a0,x20] w fun x23 w=>
 rN 23 3 x23 w fun x24=>
 LOOPI [9,25] [(u3 9),(iV 0)] w fun u6 w next6=>
 rC (u6 25) x24 w fun x26=>
 BR x26
 (rX 23 x23 (u6 25) w fun x27=>
 rL 3 x27 w fun x28=>
 NIL a0 <|
 rF 97 a0 0 w fun x31=>
 rF 31 x31 4 w fun x32=>
 rL 29 x32 w fun x33=>
 rX 29 x33 x28 w fun x35=>
 rF 94 x35 0 w fun x36=>
 rL 3 x36 w fun x37=>
 rB .eql 3 T0 T0 x37 a2 w fun x39=>
 BR x39
 (NIL a0 <|
 rF 97 a0 0 w fun x43=>
 rF 31 x43 4 w fun x44=>
 rL 29 x44 w fun x45=>
 rX 29 x45 x28 w fun x47=>
 rF 94 x47 1 w fun x48=>
 rL 3 x48 w fun x49=>
 rB .eql 3 T0 T0 x49 a3 w fun x51=>
 BR x51
 (oP (Instr.buildSlice 23 1 #[(0,x28)]) w fun x55 w=>
 oP (Builtin.append_ #[23,23] 23 [(u6 9),x55].toArray) w fun x56 w=>
 rA (u6 25) (iV 1) w fun x57=>
 next6 [x56,x57] w)
 (rA (u6 25) (iV 1) w fun x57=>
 next6 [(u6 9),x57] w))
 (rA (u6 25) (iV 1) w fun x57=>
 next6 [(u6 9),x57] w))
 (rA (u3 17) (iV 1) w fun x58=>
 next3 [(u6 9),x58] w))
 (R (u3 9) w)
def cfg183:Cfg:=⟨extL,[],[(3,576460752303303168,[9,17]),(6,288230376118166016,[9,25])],[],[],[],[]⟩
theorem F183_call {a0 a1 a2 a3:Value} {w:World} {R:VW} (h:F183 a0 a1 a2 a3 w R):cL 183 [a0,a1,a2,a3] w R:=co (g:=cfg183) Tryz.func183 (by kernel_rfl) (by kernel_rfl) (by kernel_rfl) h
def F132 (a0 a1:Value) (w:World) (R:VW):Prop:=
 oP (Instr.box 31 a0) w fun x2 w=>
 oP (Instr.buildSlice 23 0 #[]) w fun x10 w=>
 rL 31 x2 w fun x11=>
 cL 123 [x11] w fun x12 w=>
 LOOPI [5,7] [x10,(iV 0)] w fun u4 w next4=>
 rF 31 x2 2 w fun x14=>
 rL 22 x14 w fun x15=>
 rN 22 3 x15 w fun x16=>
 rC (u4 7) x16 w fun x17=>
 BR x17
 (rX 82 x12 (u4 7) w fun x22=>
 rL 4 x22 w fun x23=>
 rD (Op.unary .not x23) w fun x24=>
 BR x24
 (rA (u4 7) (iV 1) w fun x19=>
 next4 [(u4 5),x19] w)
 (rL 31 x2 w fun x25=>
 cL 173 [x25,(u4 7)] w fun x27 w=>
 rF 31 x2 3 w fun x28=>
 rL 23 x28 w fun x29=>
 rX 23 x29 (u4 7) w fun x31=>
 rL 3 x31 w fun x32=>
 LOOPI [5,9] [(u4 5),x32] w fun u9 w next9=>
 rL 31 x2 w fun x34=>
 cL 67 [x34,(u4 7)] w fun x36 w=>
 rB .leq 3 T0 T0 (u9 9) x36 w fun x37=>
 BR x37
 (rX 82 x27 (u9 9) w fun x42=>
 rL 4 x42 w fun x43=>
 BR x43
 (rF 31 x2 4 w fun x45=>
 rL 29 x45 w fun x46=>
 rX 29 x46 (u9 9) w fun x48=>
 rF 94 x48 0 w fun x49=>
 rL 3 x49 w fun x50=>
 rB .eql 3 T0 U0 x50 (iV 5) w fun x51=>
 BR x51
 (rF 31 x2 4 w fun x54=>
 rL 29 x54 w fun x55=>
 rX 29 x55 (u9 9) w fun x57=>
 rF 94 x57 1 w fun x58=>
 rL 3 x58 w fun x59=>
 rB .eql 3 T0 T0 x59 a1 w fun x61=>
 BR x61
 (oP (Instr.buildSlice 23 1 #[(0,(u9 9))]) w fun x65 w=>
 oP (Builtin.append_ #[23,23] 23 [(u9 5),x65].toArray) w fun x66 w=>
 rA (u9 9) (iV 1) w fun x39=>
 next9 [x66,x39] w)
 (rA (u9 9) (iV 1) w fun x39=>
 next9 [(u9 5),x39] w))
 (rA (u9 9) (iV 1) w fun x39=>
 next9 [(u9 5),x39] w))
 (rA (u9 9) (iV 1) w fun x39=>
 next9 [(u9 5),x39] w))
 (rA (u4 7) (iV 1) w fun x19=>
 next4 [(u9 5),x19] w)))
 (R (u4 5) w)
def cfg132:Cfg:=⟨extL,[],[(4,147573952589676405664,[5,7]),(9,147573952581086478880,[5,9])],[],[],[],[]⟩
theorem F132_call {a0 a1:Value} {w:World} {R:VW} (h:F132 a0 a1 w R):cL 132 [a0,a1] w R:=co (g:=cfg132) Tryz.func132 (by kernel_rfl) (by kernel_rfl) (by kernel_rfl) h
open Rep (rep)
def StP (c:DCode) (r p i:Nat):Prop:=zaC c p i∧(zal c i).op=5∧agN c i=r
noncomputable def zdJ (c:DCode) (r:Nat):List Nat:=(zaS c.procs.length (UsedP c)).flatMap fun p=>zaS c.ins.length (StP c r p)
theorem zm3 {n:Nat} {p q:Nat→Prop} {f:Nat→Bool} (h:∀ i,i<n→(f i=true↔q i)):(zaS n p).filter f=zaS n fun i=>p i∧q i:=by
 induction n with
 | zero=>rfl
 | succ n ih=>
   have ih:=ih fun i hi=>h i (by omega)
   by_cases hp:p n
   · rw [zcc hp,List.filter_append,ih]
     by_cases hq:q n
     · rw [zcc ⟨hp,hq⟩];simp [(h n (by omega)).2 hq]
     rw [zck fun e=>hq e.2]
     have:f n=false:=by
       cases e:f n
       · rfl
       exact absurd ((h n (by omega)).1 e) hq
     simp [this]
   rw [zck hp,zck fun e=>hp e.1,ih]
theorem zfz {α β:Type} {f:α→List β} {B:Nat}:∀ {l:List α},(∀ a∈l,(f a).length≤B)→(l.flatMap f).length≤l.length*B
 | [],_=>by simp
 | a :: l,h=>by
   have h1:=h a (by simp)
   have h2:=zfz (l:=l) fun b hb=>h b (by simp [hb])
   simp only [List.flatMap_cons,List.length_append,List.length_cons,Nat.add_mul]
   omega
theorem zjF {c:DCode} (hc:CodeR c) {r i:Nat} (h:i∈zdJ c r):i<c.ins.length:=by
 unfold zdJ at h
 obtain ⟨p,_,h⟩:=List.mem_flatMap.1 h
 exact (zaE.1 h).1
theorem zjG {w W0:World} {b r:Nat} {c:DCode} (hW:WAt W0 b c) (e0:Ext W0 w) (hc:CodeR c) :
   CALL Tryz.prog 183 [.pointer (some ⟨b,0,none⟩),.int .i64 (zdd c:Nat),.int .i64 5,.int .i64 (r:Int)] w fun v w'=>Ext w w'∧Own w.heap.size w' v (zaA (zdJ c r)):=by
 refine F183_call ?_
 unfold F183
 have h8:=hc.1.procs8
 have hil:=hc.f.ins
 have hu256:zdd c<256:=za3 h8.1
 refine (zcJ (m:=zdd c) (by omega)).mono ?_
 rintro v15 w1 ⟨hx1,ho1⟩
 unfold zdd at ho1
 rw [zcW (by omega)] at ho1
 have hup:∀ p∈zaS c.procs.length (UsedP c),p<c.procs.length:=fun p hp=>(zaE.1 hp).1
 have hul:=zaT (n:=c.procs.length) (p:=UsedP c)
 unfold zdJ
 generalize zaS c.procs.length (UsedP c)=U at *
 refine zag u23 ho1.is ?_
 rw [zae]
 have hfl:∀ k,((U.take k).flatMap fun p=>zaS c.ins.length (StP c r p)).length≤20000:=fun k=>by
   have:=zfz (l:=U.take k) (f:=fun p=>zaS c.ins.length (StP c r p)) (B:=1500) fun a _=>Nat.le_trans zaT hil
   have h2:=List.length_take_le' k U
   have:(U.take k).length*1500≤8*1500:=Nat.mul_le_mul_right _ (by omega)
   omega
 refine zaq U.length (fun k us w'=>∃ out,us=[out,.int .i64 (k:Int)]∧k≤U.length∧Ext w1 w'∧RowI w1.heap.size w'.heap.size 3 w' out (zaA ((U.take k).flatMap fun p=>zaS c.ins.length (StP c r p)))) 0 (Nat.zero_le _) ⟨_,rfl,Nat.zero_le _,Ext.refl _,zcp _ _ _ _⟩ ?_
 rintro k mk u w2 hkm ⟨out,hu,hkl,hx2,hr2⟩
 obtain ⟨hu1,hu2⟩:=zb1 hu
 rw [hu1,hu2]
 refine zah ?_
 refine br (fun hlt=>?_) (fun hge=>?_)
 case refine_2=>
   have hke:k=U.length:=by omega
   rw [hke,List.take_length] at hr2
   exact ⟨hx1.trans hx2,hr2.own.own.mono (by have:=hx1.size;omega)⟩
 have hk:k<U.length:=by omega
 have hp:=hup U[k] (List.getElem_mem _)
 have hfs:=zdY (f:=fun p=>zaS c.ins.length (StP c r p)) hk
 refine zad u23 ty3 (i:=k) ho1.is (by rw [zae];exact hk) fun b3 o3 hA3=>?_
 rw [zaL] at hA3
 generalize U[k]=p at *
 refine zab ty3 hA3 hx2 fun _=>?_
 refine (ze9 hW.wl (e0.trans (hx1.trans hx2)) hc hp).mono ?_
 rintro v23 w3 ⟨hx3,ho3⟩
 have hLin:∀ i∈zaS c.ins.length (zaC c p),i<c.ins.length:=fun i hi=>(zaE.1 hi).1
 have hLf:(zaS c.ins.length (zaC c p)).filter (fun i=>decide ((zal c i).op=5∧agN c i=r))=zaS c.ins.length (StP c r p):=zm3 fun i hi=>by rw [decide_eq_true_eq]
 have hLl:=zaT (n:=c.ins.length) (p:=zaC c p)
 rw [←hLf] at hfs
 have hfk:=hfl k
 generalize zaS c.ins.length (zaC c p)=L at *
 generalize (U.take k).flatMap (fun p=>zaS c.ins.length (StP c r p))=Op at *
 refine zag u23 ho3.is ?_
 rw [zae]
 have hs3:=hx3.size
 have hs2:=hx2.size
 obtain ⟨F3,hM3,hF3⟩:=ho3
 refine zaq L.length (fun j us w'=>∃ out lo hi,us=[out,.int .i64 (j:Int)]∧j≤L.length∧Ext w1 w'∧Mine F3 w' v23 (zaA L)∧w1.heap.size≤lo∧hi≤w'.heap.size∧RowI lo hi 3 w' out (zaA (Op++(L.take j).filter (fun i=>decide ((zal c i).op=5∧agN c i=r))))∧∀ b∈F3,b<lo∨hi≤b) 0 (Nat.zero_le _) ⟨out,w1.heap.size,w2.heap.size,rfl,Nat.zero_le _,hx2.trans hx3,hM3,Nat.le_refl _,hs3,by simpa using hr2.ext hx3,fun b hb=>.inr (hF3 b hb)⟩ ?_
 rintro j mj u6 w6 hjm ⟨out6,lo,hi,hu6,hjl,hx6,hM6,hlo,hhi,hr6,hd⟩
 obtain ⟨hu61,hu62⟩:=zb1 hu6
 rw [hu61,hu62]
 refine zah ?_
 refine br (fun hlt6=>?_) (fun hge6=>?_)
 case refine_2=>
   refine zaf (by omega) ?_
   refine ⟨mk-1,by omega,k+1,by omega,out6,rfl,by omega,hx6,?_⟩
   rw [List.take_of_length_le (by omega)] at hr6
   rw [hfs]
   exact hr6.mono hlo hhi
 have hj:j<L.length:=by omega
 have hi':=hLin L[j] (List.getElem_mem _)
 have htk:L.take (j+1)=L.take j++[L[j]]:=List.take_succ_eq_append_getElem hj
 refine zad u23 ty3 (i:=j) hM6.is (by rw [zae];exact hj) fun b4 o4 hA4=>?_
 rw [zaL] at hA4
 have hlen:(Op++(L.take j).filter (fun i=>decide ((zal c i).op=5∧agN c i=r))).length≤100000:=by
   have:=List.length_filter_le (fun i=>decide ((zal c i).op=5∧agN c i=r)) (L.take j)
   have h2:=List.length_take_le' j L
   rw [List.length_append];omega
 generalize L[j]=i at *
 refine zab ty3 hA4 (Ext.refl _) fun _=>?_
 have ex6:=e0.trans (hx1.trans hx6)
 have hno:¬((zal c i).op=5∧agN c i=r)→(L.take (j+1)).filter (fun i=>decide ((zal c i).op=5∧agN c i=r))=(L.take j).filter (fun i=>decide ((zal c i).op=5∧agN c i=r)):=fun h=>by
   rw [htk,List.filter_append];simp [h]
 have hyes:((zal c i).op=5∧agN c i=r)→(L.take (j+1)).filter (fun i=>decide ((zal c i).op=5∧agN c i=r))=(L.take j).filter (fun i=>decide ((zal c i).op=5∧agN c i=r))++[i]:=fun h=>by
   rw [htk,List.filter_append];simp [h]
 refine NIL.mk rfl ?_
 refine zaa zbd ?_
 refine zaa zaJ ?_
 refine zac zct (zai hW.wl.code) ex6 fun v33 h33=>?_
 refine zad u29 zcb (i:=i) h33 hi' fun b5 o5 hA5=>?_
 rw [zaF] at hA5
 refine zaa za6 ?_
 refine zab ty3 (zas hA5) ex6 fun _=>?_
 refine zao ?_
 refine br (fun h5=>?_) (fun h5=>?_)
 case refine_2=>
   refine zaf (by omega) ?_
   exact ⟨mj-1,by omega,j+1,by omega,out6,lo,hi,rfl,by omega,hx6,hM6,hlo,hhi,by rw [hno fun h=>h5 h.1];exact hr6,hd⟩
 obtain ⟨hag,_⟩:=zbN hc hi' (.inr h5)
 refine NIL.mk rfl ?_
 refine zaa zbd ?_
 refine zaa zaJ ?_
 refine zac zct (zai hW.wl.code) ex6 fun v45 h45=>?_
 refine zad u29 zcb (i:=i) h45 hi' fun b7 o7 hA7=>?_
 rw [zaF] at hA7
 refine zaa za7 ?_
 refine zab ty3 (zav hA7) ex6 fun _=>?_
 refine zao ?_
 refine br (fun ha=>?_) (fun ha=>?_)
 case refine_2=>
   refine zaf (by omega) ?_
   exact ⟨mj-1,by omega,j+1,by omega,out6,lo,hi,rfl,by omega,hx6,hM6,hlo,hhi,by rw [hno fun h=>ha (by rw [hag,h.2])];exact hr6,hd⟩
 refine zcI (x:=(i:Int)) u23 ty3 z3 zc3 (by decide) hr6 (lo2:=0) (hi2:=0) (zb4 _ _ (by unfold I64;omega)) (by rw [zan,zae];omega) (by rw [zae];omega) fun v' w' lo' hi2 hc7 hr' hd7=>?_
 have hs7:=hc7.size
 have hs6:=hx6.size
 refine zaf (by omega) ?_
 refine ⟨mj-1,by omega,j+1,by omega,v',lo',hi2,rfl,by omega,hx6.chgI hc7 hlo,hM6.keep fun b hb=>hc7.block b (hM6.lt b hb) (hd b hb),by omega,by omega,?_,fun b hb=>?_⟩
 · rw [hyes ⟨h5,by omega⟩,←List.append_assoc,zbM]
   exact hr'
 have:=hd b hb
 have:=hM6.lt b hb
 omega
theorem zhp {w W0:World} {v0:Value} {r:Nat} {c:DCode} (h0:Is W0 v0 c) (e0:Ext W0 w) (hc:CodeR c) :
   CALL Tryz.prog 132 [v0,.int .i64 (r:Int)] w fun v w'=>Ext w w'∧Own w.heap.size w' v (zaA (zdJ c r)):=by
 refine F132_call ?_
 unfold F132
 have h8:=hc.1.procs8
 have hil:=hc.f.ins
 have he:=hc.2.1.1
 refine zbr h0 e0 fun w1 hx1 hA=>?_
 refine zaY (α:=Int) u23 ty3 fun a10 w2 hx2 hr2=>?_
 refine zac zbt hA hx2 fun v11 h11=>?_
 refine (zfu h11 hx2 hc).mono ?_
 rintro v12 w3 ⟨hx3,ho3⟩
 have hx13:=hx2.trans hx3
 have hs1:=hx1.size
 have hs13:=hx13.size
 have hfl:∀ k,k≤8→((zaS k (UsedP c)).flatMap fun p=>zaS c.ins.length (StP c r p)).length≤20000:=fun k hk=>by
   have h1:=zfz (l:=zaS k (UsedP c)) (f:=fun p=>zaS c.ins.length (StP c r p)) (B:=1500) fun a _=>Nat.le_trans zaT hil
   have h2:=zaT (n:=k) (p:=UsedP c)
   have:(zaS k (UsedP c)).length*1500≤8*1500:=Nat.mul_le_mul_right _ (by omega)
   omega
 refine zaq c.procs.length (fun k us w'=>∃ out,us=[out,.int .i64 (k:Int)]∧k≤c.procs.length∧Ext w3 w'∧RowI w3.heap.size w'.heap.size 3 w' out (zaA ((zaS k (UsedP c)).flatMap fun p=>zaS c.ins.length (StP c r p)))) 0 (Nat.zero_le _) ⟨_,rfl,Nat.zero_le _,Ext.refl _,zcf _ _ _ _ _⟩ ?_
 rintro p mk u w4 hkm ⟨out,hu,hkl,hx4,hr4⟩
 obtain ⟨hu1,hu2⟩:=zb1 hu
 rw [hu1,hu2]
 have hx14:=hx13.trans hx4
 refine zaa zba ?_
 refine zac zbP (zar hA) hx14 fun v15 h15=>?_
 refine zag u22 h15 ?_
 refine zah ?_
 refine br (fun hlt=>?_) (fun hge=>?_)
 case refine_2=>
   have hke:p=c.procs.length:=by omega
   rw [hke] at hr4
   exact ⟨hx1.trans hx14,hr4.own.own.mono (by omega)⟩
 have hp:p<c.procs.length:=by omega
 have hmk:=zaB (n:=c.procs.length) (p:=UsedP c) (i:=p)
 rw [zaM (by rw [zaj];exact hp)] at hmk
 refine zad u82 ty4 (i:=p) ho3.is (by rw [zaj];exact hp) fun b3 o3 hA3=>?_
 refine zaw ty4 hA3 hx4 ?_
 refine zaV ?_
 refine zbw (fun hf=>?_) (fun hf=>?_)
 · have hnu:¬UsedP c p:=fun h=>by rw [hmk.2 ⟨hp,h⟩] at hf;cases hf
   refine zaf (by omega) ?_
   exact ⟨mk-1,by omega,p+1,by omega,out,rfl,by omega,hx4,by rw [zck hnu];exact hr4⟩
 have hU:UsedP c p:=(hmk.1 (by simpa using hf)).2
 have hfs:(zaS (p+1) (UsedP c)).flatMap (fun p=>zaS c.ins.length (StP c r p))=(zaS p (UsedP c)).flatMap (fun p=>zaS c.ins.length (StP c r p))++zaS c.ins.length (StP c r p):=by
   rw [zcc hU,List.flatMap_append];simp
 have hfk:=hfl p (by omega)
 refine zac zbt hA hx14 fun v25 h25=>?_
 refine (zec h25 hx14 hc (by rw [he];exact hp)).mono ?_
 rintro v27 w5 ⟨hx5,ho5⟩
 have hx15:=hx14.trans hx5
 obtain ⟨hen,heN,_⟩:=zeG hc (p:=p) (by rw [he];exact hp)
 obtain ⟨hzB,hzO,hzN⟩:=zdj hc hp
 have hze:=(zjb hc (p:=p) (by rw [he];exact hp)).2.1
 have hlv:∀ i,zaC c p i→eN c p≤i∧i≤zN c p:=fun i hi=>by
   have h1:=zby hc (by rw [he];exact hp) hi
   obtain ⟨q,hq,h3,h4⟩:=zc7 hc h1.1
   have:q=p:=by have:=h1.2;omega
   subst this;exact h4
 have hz0:zaS (eN c p) (StP c r p)=[]:=by
   rw [zgB (n:=0) (Nat.zero_le _) fun i _ h2 hs=>by have:=hlv i hs.1;omega];rfl
 have hzz:zaS c.ins.length (StP c r p)=zaS (zN c p+1) (StP c r p):=zgB (by omega) fun i h1 _ hs=>by have:=hlv i hs.1;omega
 rw [hzz] at hfs
 refine zaa za1 ?_
 refine zac zbE (zap hA) hx15 fun v29 h29=>?_
 refine zad u23 ty3 (i:=p) h29 (by rw [he];exact hp) fun b6 o6 hA6=>?_
 refine zab ty3 hA6 hx15 fun _=>?_
 rw [zbe,hen]
 generalize hOp:(zaS p (UsedP c)).flatMap (fun p=>zaS c.ins.length (StP c r p))=Op at *
 obtain ⟨F5,hM5,hF5⟩:=ho5
 have hs45:=hx5.size
 have hs34:=hx4.size
 have hr5:RowI w3.heap.size w4.heap.size 3 w5 out (zaA (Op++zaS (eN c p) (StP c r p))):=by rw [hz0];simpa using hr4.ext hx5
 refine zaq (zN c p+1) (fun j us w'=>∃ out lo hi,us=[out,.int .i64 (j:Int)]∧eN c p≤j∧j≤zN c p+1∧Ext w3 w'∧Mine F5 w' v27 (zbl c.ins.length (zaC c p))∧w3.heap.size≤lo∧hi≤w'.heap.size∧RowI lo hi 3 w' out (zaA (Op++zaS j (StP c r p)))∧∀ b∈F5,b<lo∨hi≤b) (eN c p) (by omega) ⟨out,w3.heap.size,w4.heap.size,rfl,Nat.le_refl _,by omega,hx4.trans hx5,hM5,Nat.le_refl _,hs45,hr5,fun b hb=>.inr (hF5 b hb)⟩ ?_
 rintro i mj u6 w6 hjm ⟨out6,lo,hi,hu6,hie,hjl,hx6,hM6,hlo,hhi,hr6,hd⟩
 obtain ⟨hu61,hu62⟩:=zb1 hu6
 rw [hu61,hu62]
 have hx16:=hx13.trans hx6
 refine zac zbt hA hx16 fun v34 h34=>?_
 refine (zdE h34 hx16 (p:=(p:Int)) (by omega) (by omega) hc.2.1.nonneg).mono ?_
 rintro _ w7 ⟨hx7,rfl⟩
 rw [hzO]
 have hx17:=hx16.trans hx7
 have hx37:=hx6.trans hx7
 have hM7:=hM6.ext hx7
 have hr7:=hr6.ext hx7
 have hs67:=hx7.size
 refine zdw ?_
 refine br (fun hlt6=>?_) (fun hge6=>?_)
 case refine_2=>
   have hie:i=zN c p+1:=by omega
   refine zaf (by omega) ?_
   refine ⟨mk-1,by omega,p+1,by omega,out6,rfl,by omega,hx37,?_⟩
   rw [hfs,←hie]
   exact hr7.mono hlo (by omega)
 have hi':i<c.ins.length:=by omega
 have hlen:(Op++zaS i (StP c r p)).length≤100000:=by
   have:=zaT (n:=i) (p:=StP c r p)
   rw [List.length_append];omega
 have hml:=zaB (n:=c.ins.length) (p:=zaC c p) (i:=i)
 rw [zaM (by rw [zaj];exact hi')] at hml
 have hskip:¬StP c r p i→∃ m',m'<mj∧∃ k',k'+m'=zN c p+1∧∃ out lo hi,[out6,Value.int .i64 ((i+1:Nat):Int)]=[out,.int .i64 (k':Int)]∧eN c p≤k'∧k'≤zN c p+1∧Ext w3 w7∧Mine F5 w7 v27 (zbl c.ins.length (zaC c p))∧w3.heap.size≤lo∧hi≤w7.heap.size∧RowI lo hi 3 w7 out (zaA (Op++zaS k' (StP c r p)))∧∀ b∈F5,b<lo∨hi≤b:=fun hn=>
   ⟨mj-1,by omega,i+1,by omega,out6,lo,hi,rfl,by omega,by omega,hx37,hM7,hlo,by omega,by rw [zck hn];exact hr7,hd⟩
 refine zad u82 ty4 (i:=i) hM7.is (by rw [zaj];exact hi') fun b8 o8 hA8=>?_
 refine zaw ty4 hA8 (Ext.refl _) ?_
 refine zbw (fun hf=>?_) (fun hf=>?_)
 case refine_2=>
   refine zaf (by omega) ?_
   exact hskip fun h=>by rw [hml.2 ⟨hi',h.1⟩] at hf;cases hf
 have hL:=(hml.1 hf).2
 refine zaa zaJ ?_
 refine zac zct (zai hA) hx17 fun v46 h46=>?_
 refine zad u29 zcb (i:=i) h46 hi' fun b9 o9 hA9=>?_
 rw [zaF] at hA9
 refine zaa za6 ?_
 refine zab ty3 (zas hA9) hx17 fun _=>?_
 refine zao ?_
 refine br (fun h5=>?_) (fun h5=>?_)
 case refine_2=>
   refine zaf (by omega) ?_
   exact hskip fun h=>h5 h.2.1
 obtain ⟨hag,_⟩:=zbN hc hi' (.inr h5)
 refine zaa zaJ ?_
 refine zac zct (zai hA) hx17 fun v55 h55=>?_
 refine zad u29 zcb (i:=i) h55 hi' fun b10 o10 hA10=>?_
 rw [zaF] at hA10
 refine zaa za7 ?_
 refine zab ty3 (zav hA10) hx17 fun _=>?_
 refine zao ?_
 refine br (fun ha=>?_) (fun ha=>?_)
 case refine_2=>
   refine zaf (by omega) ?_
   exact hskip fun h=>ha (by rw [hag,h.2.2])
 refine zcI (x:=(i:Int)) u23 ty3 z3 zc3 (by decide) hr7 (lo2:=0) (hi2:=0) (zb4 _ _ (by unfold I64;omega)) (by rw [zan,zae];omega) (by rw [zae];omega) fun v' w' lo' hi2 hc8 hr' hd8=>?_
 have hs8:=hc8.size
 have hs37:=hx37.size
 refine zaf (by omega) ?_
 refine ⟨mj-1,by omega,i+1,by omega,v',lo',hi2,rfl,by omega,by omega,hx37.chgI hc8 hlo,hM7.keep fun b hb=>hc8.block b (hM7.lt b hb) (hd b hb),by omega,by omega,?_,fun b hb=>?_⟩
 · rw [zcc (⟨hL,h5,by omega⟩:StP c r p i),←List.append_assoc,zbM]
   exact hr'
 have:=hd b hb
 have:=hM7.lt b hb
 omega
theorem zkE {l:List Int} {k:Nat} {y:Int} (hk:k<l.length) (h:y∉l.take k) (c:¬l[k]=y):y∉l.take (k+1):=by
 rw [List.take_succ_eq_append_getElem hk]
 simp only [List.mem_append,List.mem_cons,List.not_mem_nil,or_false,not_or]
 exact ⟨h,fun e=>c e.symm⟩
def F134 (a0 a1:Value) (w:World) (R:VW):Prop:=
 LOOPI [5] [(iV 0)] w fun u2 w next2=>
 rN 23 3 a0 w fun x8=>
 rC (u2 5) x8 w fun x9=>
 BR x9
 (rX 23 a0 (u2 5) w fun x14=>
 rL 3 x14 w fun x15=>
 rB .eql 3 T0 T0 x15 a1 w fun x17=>
 BR x17
 (R (Value.bool true) w)
 (rA (u2 5) (iV 1) w fun x11=>
 next2 [x11] w))
 (R (Value.bool false) w)
def cfg134:Cfg:=⟨extL,[],[(2,262128,[5])],[],[],[],[]⟩
theorem F134_call {a0 a1:Value} {w:World} {R:VW} (h:F134 a0 a1 w R):cL 134 [a0,a1] w R:=co (g:=cfg134) Tryz.func134 (by kernel_rfl) (by kernel_rfl) (by kernel_rfl) h
theorem zqW {w:World} {v0:Value} {W0:World} {l:(List Int)} {y:Int}  (h0:Is W0 v0 l) (e0:Ext W0 w)  :
   CALL Tryz.prog 134 [v0,.int .i64 y] w fun r w'=>Ext w w'∧(r=.bool (decide (y∈l))):=by
 refine F134_call ?_
 unfold F134
 refine zaq (l.length) (fun k us w'=>us=[.int .i64 (k:Int)]∧Ext w w'∧(y∉l.take k)) (0) (by omega) ⟨by simp,Ext.refl w,by simp⟩ ?_
 rintro k m2 uu2 w1_ hk2 ⟨hu,hx1_,hinv⟩
 simp only [List.map_cons,List.map_nil,List.cons.injEq,and_true] at hu
 try rw [hu]
 try clear hu
 have hln8:=zam h0
 refine zag u23 h0 ?_
 refine zah ?_
 refine br (fun c1=>?_) (fun c1=>?_)
 · refine zad u23 ty3 h0 (by omega) fun b14 o14 h14=>?_
   refine zab ty3 h14 (e0.trans hx1_) fun hI15=>?_
   refine zao ?_
   refine br (fun c2=>?_) (fun c2=>?_)
   · refine ⟨hx1_,?_⟩
     have:y∈l:=c2▸List.getElem_mem _
     simp [this]
   refine zaf (by omega) ?_
   refine ⟨m2-1,by omega,k+1,by omega,by simp,hx1_,?_⟩
   exact zkE (by omega) hinv c2
 refine ⟨hx1_,?_⟩
 rw [List.take_of_length_le (by omega)] at hinv
 simp [hinv]
def F184 (a0 a1:Value) (w:World) (R:VW):Prop:=
 NIL a0 <|
 rF 97 a0 0 w fun x8=>
 rF 31 x8 4 w fun x9=>
 rL 29 x9 w fun x10=>
 rN 29 3 x10 w fun x11=>
 oP (Instr.makeSlice 82 x11 x11) w fun x12 w=>
 cL 45 [a0,x12,a1] w fun x16 w=>
 R x12 w
def cfg184:Cfg:=⟨extL,[],[],[],[],[],[]⟩
theorem F184_call {a0 a1:Value} {w:World} {R:VW} (h:F184 a0 a1 w R):cL 184 [a0,a1] w R:=co (g:=cfg184) Tryz.func184 (by kernel_rfl) (by kernel_rfl) (by kernel_rfl) h
def F182 (a0 a1:Value) (w:World) (R:VW):Prop:=
 rB .geq 3 T0 U0 a1 (iV 0) w fun x6=>
 BR x6
 (NIL a0 <|
 rF 97 a0 0 w fun x11=>
 rF 31 x11 2 w fun x12=>
 rL 22 x12 w fun x13=>
 rN 22 3 x13 w fun x14=>
 rC a1 x14 w fun x15=>
 R x15 w)
 (R (Value.bool false) w)
def cfg182:Cfg:=⟨extL,[],[],[],[],[],[]⟩
theorem F182_call {a0 a1:Value} {w:World} {R:VW} (h:F182 a0 a1 w R):cL 182 [a0,a1] w R:=co (g:=cfg182) Tryz.func182 (by kernel_rfl) (by kernel_rfl) (by kernel_rfl) h
def F152 (a0 a1:Value) (w:World) (R:VW):Prop:=
 cL 182 [a0,a1] w fun x9 w=>
 rD (Op.unary .not x9) w fun x10=>
 BR x10
 (R (Value.bool false) w)
 (NIL a0 <|
 rF 97 a0 5 w fun x14=>
 rL 3 x14 w fun x15=>
 cL 150 [x15,a1] w fun x17 w=>
 rD (Op.unary .not x17) w fun x18=>
 BR x18
 (R (Value.bool false) w)
 (cL 90 [a0] w fun x21 w=>
 NIL a0 <|
 rF 97 a0 6 w fun x25=>
 rL 3 x25 w fun x26=>
 cL 183 [a0,x26,(iV 5),a1] w fun x28 w=>
 rB .eql 3 T0 T0 a1 x21 w fun x31=>
 BR x31
 (rN 23 3 x28 w fun x33=>
 rB .eql 3 T0 U0 x33 (iV 0) w fun x34=>
 R x34 w)
 ((fun w=>rN 23 3 x28 w fun x36=>
 rB .neq 3 T0 U0 x36 (iV 1) w fun x37=>
 BR x37
 (R (Value.bool false) w)
 (NIL a0 <|
 rF 97 a0 0 w fun x41=>
 rL 31 x41 w fun x42=>
 rX 23 x28 (iV 0) w fun x44=>
 rL 3 x44 w fun x45=>
 (fun w_=>cL 151 [x42,x45] w_ fun x46 w=>
 Ext w_ w ∧
 rB .neq 3 T0 T0 x46 x21 w fun x48=>
 BR x48
 (R (Value.bool false) w)
 (rX 23 x28 (iV 0) w fun x53=>
 rL 3 x53 w fun x54=>
 rX 23 x28 (iV 0) w fun x57=>
 rL 3 x57 w fun x58=>
 (fun w_=>cL 184 [a0,x54] w_ fun x55 w=>
 Ext w_ w ∧
 rX 82 x55 x58 w fun x59=>
 rL 4 x59 w fun x60=>
 BR x60
 (R (Value.bool false) w)
 ((fun w=>cL 152 [a0,x21] w fun x64 w=>
 BR x64
 (NIL a0 <|
 rF 97 a0 2 w fun x68=>
 rL 23 x68 w fun x69=>
 NIL a0 <|
 rF 97 a0 6 w fun x72=>
 rL 3 x72 w fun x73=>
 (fun w_=>cL 89 [x69,x73] w_ fun x74 w=>
 Ext w_ w ∧
 cL 150 [x74,x21] w fun x76 w=>
 rD (Op.unary .not x76) w fun x77=>
 R x77 w) w)
 (R (Value.bool false) w)) (World.drew1 w))) w)) w)) (World.drew1 w))))
def cfg152:Cfg:=⟨extL,[],[],[(7,[0,1,2,3,4,5,6,7,8,9,10,12,11,13,14,15,16,17,18,19,21,22,23,20,24,25,26],1050624),(9,[0,1,2,3,4,5,6,7,8,9,10,11,13,12,14,15,16,17],4096)],[],[],[]⟩
theorem F152_call {a0 a1:Value} {w:World} {R:VW} (h:F152 a0 a1 w R):cL 152 [a0,a1] w R:=co (g:=cfg152) Tryz.func152 (by kernel_rfl) (by kernel_rfl) (by kernel_rfl) h
open Rep (rep)
theorem ztu {W0 w:World} {b:Nat} {c:DCode} (h:At W0 b 0 c) (hx:Ext W0 w):KAt W0 w b c:=by
 obtain ⟨F,cs,hr,hc⟩:=h
 have hl:=Rep.len hr
 have hp:0<cs.length:=by rw [hl];exact Rep.pos
 have hc':=zbg hc hx
 refine ⟨F,cs,hr,hc',Decidable.byContradiction fun hn=>?_⟩
 have:=hc' 0 cs[0] (List.getElem?_eq_getElem hp)
 simp only [World.cell?] at this
 rw [Array.getElem?_eq_none (by omega)] at this
 cases this
theorem zso {w W0:World} {b a:Nat} {c:DCode} (hW:WAt W0 b c) (e0:Ext W0 w) (hc:CodeR c) (ha:a<c.ins.length) :
   CALL Tryz.prog 184 [.pointer (some ⟨b,0,none⟩),.int .i64 (a:Int)] w fun v w'=>Ext w w'∧Own w.heap.size w' v (zbl c.ins.length (RP (zax c) a)):=by
 refine F184_call ?_
 unfold F184
 have hil:=hc.f.ins
 refine NIL.mk rfl ?_
 refine zaa zbd ?_
 refine zaa zaJ ?_
 refine zac zct (zai hW.wl.code) e0 fun v10 h10=>?_
 refine zag u29 h10 ?_
 have hk0:=ztu hW.wl.code e0
 have hbl:=hk0.lt
 refine zdm (by omega) (by omega) fun w1 hx1 hM1=>?_
 have hs1:=hx1.size
 have e0s:=e0.size
 refine (zlA (ztu hW.wl.code (e0.trans hx1)) (e0.trans hx1) hc rfl ha hM1 (by simp) (by omega) (by omega) fun i hi=>absurd hi zbj).mono ?_
 rintro _ w2 ⟨rfl,hc2,hM2⟩
 refine ⟨hx1.chgI hc2 (Nat.le_refl _),[w.heap.size],?_,fun b hb=>by simp at hb;omega⟩
 have:(zbl c.ins.length fun i=>mkd (List.replicate c.ins.length false) i∨RP (zax c) a i)=zbl c.ins.length (RP (zax c) a):=zaK fun i _=>⟨fun h=>h.resolve_left zbj,.inr⟩
 rw [←this];exact hM2
theorem zlQ {w W0:World} {b r:Nat} {c:DCode} (hW:WAt W0 b c) (e0:Ext W0 w) (hr:r<c.procs.length) :
   CALL Tryz.prog 182 [.pointer (some ⟨b,0,none⟩),.int .i64 (r:Int)] w fun v w'=>Ext w w'∧v=.bool true:=by
 refine F182_call ?_
 unfold F182
 refine zb9 ?_
 refine br (fun _=>?_) (fun h=>by omega)
 refine NIL.mk rfl ?_
 refine zaa zbd ?_
 refine zaa zba ?_
 refine zac zbP (zar hW.wl.code) e0 fun v10 h10=>?_
 refine zag u22 h10 ?_
 refine zah ?_
 exact ⟨Ext.refl _,by simp;omega⟩
def zoP (c:DCode) (r a:Nat):Prop:=zdJ c r=[a]∧zat c a=(zb0 c:Int)∧¬RP (zax c) a a∧zdJ c (zb0 c)=[]∧¬ ∃ p,UsedP c p∧zip c p 4 (zb0 c)
def zdp (c:DCode) (r:Nat):Prop:=(r=zb0 c∧zdJ c r=[])∨(r≠zb0 c∧∃ a,zoP c r a)
noncomputable instance (c:DCode) (r:Nat):Decidable (zdp c r):=Classical.propDecidable _
theorem zem {c:DCode}:zdp c (zb0 c)↔zdJ c (zb0 c)=[]:=
 ⟨fun h=>h.elim (·.2) fun h=>absurd rfl h.1,fun h=>.inl ⟨rfl,h⟩⟩
theorem zhK {c:DCode} {r:Nat} (hr:r≠zb0 c):zdp c r↔∃ a,zoP c r a:=
 ⟨fun h=>h.elim (fun h=>absurd h.1 hr) (·.2),fun h=>.inr ⟨hr,h⟩⟩
theorem zlR {l:List Nat}:((l.length:Int)=0)↔l=[]:=by
 rw [←List.length_eq_zero_iff];omega
theorem zlS {c:DCode} {p:Nat}:(zdd c).testBit p=true↔p<c.procs.length∧UsedP c p:=zaO
theorem zjH {c:DCode} {p:Nat}:(zce c).testBit p=true↔p<c.procs.length∧RootP c p:=zaO
theorem zqX {c:DCode} (hc:CodeR c) {p:Nat} (h:UsedP c p):p<c.procs.length:=by
 obtain ⟨r,hr,hf⟩:=h
 exact hf.lt (hr.lt hc)
theorem zoQ {c:DCode} (hc:CodeR c) {q:Nat} (hq:q<c.procs.length):(orL (cls c 4) (zbn (zdd c))).testBit q=true↔∃ p,UsedP c p∧zip c p 4 q:=by
 have h8:=hc.1.procs8
 rw [zgC (m:=zdd c) (n:=c.procs.length) zgV (by omega)]
 constructor
 · rintro ⟨i,h1,h2,h3⟩
   exact ⟨i,(zlS.1 h2).2,((zg5 h1).1 h3).2⟩
 rintro ⟨i,h1,h2⟩
 have hi:=zqX hc h1
 exact ⟨i,hi,zlS.2 ⟨hi,h1⟩,(zg5 hi).2 ⟨hq,h2⟩⟩
theorem zjI {w W0:World} {b:Nat} {c:DCode} (hW:WAt W0 b c) (e0:Ext W0 w) (hc:CodeR c) :
   CALL Tryz.prog 152 [.pointer (some ⟨b,0,none⟩),.int .i64 (zb0 c:Nat)] w fun v w'=>Ext w w'∧v=.bool (decide (zdp c (zb0 c))):=by
 refine F152_call ?_
 unfold F152
 have h8:=hc.1.procs8
 have hml:=(zdn hc).2
 have hr256:zce c<256:=za3 h8.1
 refine (zlQ hW e0 hml).mono ?_
 rintro _ w1 ⟨hx1,rfl⟩
 refine zaV ?_
 refine zbw (fun h=>by cases h) (fun _=>?_)
 refine NIL.mk rfl ?_
 refine zaa zh0 ?_
 refine zab ty3 hW.roots (e0.trans hx1) fun _=>?_
 refine (zee (m:=zce c) (i:=zb0 c) (by omega) (by omega)).mono ?_
 rintro _ w2 ⟨hx2,rfl⟩
 rw [zjH.2 ⟨hml,.main⟩]
 refine zaV ?_
 refine zbw (fun h=>by cases h) (fun _=>?_)
 have hx12:=hx1.trans hx2
 refine (zf3 (hW.wl.code.ext (e0.trans hx12)) hc).mono ?_
 rintro _ w3 ⟨hx3,rfl⟩
 have hx13:=hx12.trans hx3
 refine NIL.mk rfl ?_
 refine zaa zh1 ?_
 refine zab ty3 hW.used (e0.trans hx13) fun _=>?_
 refine (zjG (r:=zb0 c) hW (e0.trans hx13) hc).mono ?_
 rintro v28 w4 ⟨hx4,ho4⟩
 refine zao ?_
 refine br (fun _=>?_) (fun h=>absurd rfl h)
 refine zag u23 ho4.is ?_
 refine zao ?_
 rw [zae]
 exact ⟨hx13.trans hx4,by congr 1;rw [decide_eq_decide,zem,zlR]⟩
theorem zqY {w W0:World} {b r:Nat} {c:DCode} (hW:WAt W0 b c) (e0:Ext W0 w) (hc:CodeR c) (hr:RootP c r) :
   CALL Tryz.prog 152 [.pointer (some ⟨b,0,none⟩),.int .i64 (r:Int)] w fun v w'=>Ext w w'∧v=.bool (decide (zdp c r)):=by
 by_cases hm:r=zb0 c
 · subst hm;exact zjI hW e0 hc
 refine F152_call ?_
 unfold F152
 have h8:=hc.1.procs8
 have hml:=(zdn hc).2
 have hrl:=hr.lt hc
 have hr256:zce c<256:=za3 h8.1
 have hu256:zdd c<2^c.procs.length:=zgV
 refine (zlQ hW e0 hrl).mono ?_
 rintro _ w1 ⟨hx1,rfl⟩
 refine zaV ?_
 refine zbw (fun h=>by cases h) (fun _=>?_)
 refine NIL.mk rfl ?_
 refine zaa zh0 ?_
 refine zab ty3 hW.roots (e0.trans hx1) fun _=>?_
 refine (zee (m:=zce c) (i:=r) (by omega) (by omega)).mono ?_
 rintro _ w2 ⟨hx2,rfl⟩
 rw [zjH.2 ⟨hrl,hr⟩]
 refine zaV ?_
 refine zbw (fun h=>by cases h) (fun _=>?_)
 have hx12:=hx1.trans hx2
 refine (zf3 (hW.wl.code.ext (e0.trans hx12)) hc).mono ?_
 rintro _ w3 ⟨hx3,rfl⟩
 have hx13:=hx12.trans hx3
 refine NIL.mk rfl ?_
 refine zaa zh1 ?_
 refine zab ty3 hW.used (e0.trans hx13) fun _=>?_
 refine (zjG (r:=r) hW (e0.trans hx13) hc).mono ?_
 rintro v28 w4' ⟨hx4,ho4⟩
 refine zao ?_
 refine br (fun h=>absurd (by omega) hm) (fun _=>?_)
 have hxd:=zak w4'
 have hx14:=hx13.trans (hx4.trans hxd)
 have hS4:=ho4.is.ext hxd
 generalize World.drew1 w4'=w4 at *
 have hsm:=fun a (ha:a∈zdJ c r)=>zjF hc ha
 have hnot:(¬ ∃ a,zoP c r a)→Value.bool false=.bool (decide (zdp c r)):=fun h=>by rw [decide_eq_false fun h2=>h ((zhK hm).1 h2)]
 refine zag u23 hS4 ?_
 refine zaI ?_
 rw [zae]
 refine br (fun hne=>?_) (fun heq=>?_)
 · exact ⟨hx14,hnot fun ⟨a,h⟩=>hne (by rw [h.1];rfl)⟩
 have hl1:(zdJ c r).length=1:=by have:=Decidable.not_not.1 heq;omega
 obtain ⟨a,ha⟩:∃ a,zdJ c r=[a]:=List.length_eq_one_iff.1 hl1
 have hal:a<c.ins.length:=hsm a (by rw [ha];simp)
 rw [ha] at hS4
 have hget:∀ {w:World} {K:Value→Prop},Ext w4 w→(K (.int .i64 (a:Int)))→RD Tryz.prog (Instr.indexAt 23 v28 (.int .i64 0)) w fun x=>RD Tryz.prog (Instr.loadAt 3 x) w K:=fun hx kk=>by
   refine zad u23 ty3 (i:=0) hS4 (by simp [zaA]) fun b3 o3 hA3=>?_
   rw [show (zaA [a])[0]'(by simp [zaA])=(a:Int) from rfl] at hA3
   exact zab ty3 hA3 hx fun _=>kk
 have hone:∀ a',zoP c r a'→a'=a:=fun a' h=>by have:=h.1;rw [ha] at this;simpa using this.symm
 refine NIL.mk rfl ?_
 refine zaa zbd ?_
 refine zac zbt hW.wl.code (e0.trans hx14) fun v42 h42=>?_
 refine hget (Ext.refl _) ?_
 refine (zlu (a:=(a:Int)) h42 (e0.trans hx14) hc (by omega) (by omega)).mono ?_
 rintro _ w5 ⟨hx5,rfl⟩
 refine ⟨hx5,?_⟩
 have hx15:=hx14.trans hx5
 refine zaI ?_
 refine br (fun hne=>?_) (fun heq2=>?_)
 · exact ⟨hx15,hnot fun ⟨a',h⟩=>hne (by have:=hone a' h;subst this;exact h.2.1)⟩
 refine hget hx5 ?_
 refine hget hx5 ?_
 refine (zso (a:=a) hW (e0.trans hx15) hc hal).mono ?_
 rintro v55 w6 ⟨hx6,ho6⟩
 refine ⟨hx6,?_⟩
 have hx16:=hx15.trans hx6
 have hmk:=zaB (n:=c.ins.length) (p:=RP (zax c) a) (i:=a)
 rw [zaM (by rw [zaj];exact hal)] at hmk
 refine zad u82 ty4 (i:=a) ho6.is (by rw [zaj];exact hal) fun b8 o8 hA8=>?_
 refine zaw ty4 hA8 (Ext.refl _) ?_
 refine zbw (fun hrp=>?_) (fun hrp=>?_)
 · exact ⟨hx16,hnot fun ⟨a',h⟩=>by have:=hone a' h;subst this;exact h.2.2.1 (hmk.1 hrp).2⟩
 have hnr:¬RP (zax c) a a:=fun h=>by rw [hmk.2 ⟨hal,h⟩] at hrp;cases hrp
 have hxd6:=zak w6
 have hx17:=hx16.trans hxd6
 generalize World.drew1 w6=w7 at *
 refine (zjI hW (e0.trans hx17) hc).mono ?_
 rintro _ w8 ⟨hx8,rfl⟩
 have hx18:=hx17.trans hx8
 refine br (fun hsm=>?_) (fun hsm=>?_)
 case refine_2=>exact ⟨hx18,hnot fun ⟨a',h⟩=>hsm (zem.2 h.2.2.2.1)⟩
 refine NIL.mk rfl ?_
 refine zaa znz ?_
 refine zac zbE hW.calls (e0.trans hx18) fun v69 h69=>?_
 refine NIL.mk rfl ?_
 refine zaa zh1 ?_
 refine zab ty3 hW.used (e0.trans hx18) fun _=>?_
 have hcl:∀ x∈cls c 4,x<256:=fun x hx=>by
   obtain ⟨p,_,rfl⟩:=List.mem_map.1 hx
   exact za3 h8.1
 refine (zfs (m:=zdd c) h69 (e0.trans hx18) hcl (by rw [zfa];omega) (by rw [zfa];exact hu256)).mono ?_
 rintro _ w9 ⟨hx9,rfl⟩
 refine ⟨hx9,?_⟩
 have ho256:=znQ hcl (zbn (zdd c))
 refine (zee (m:=orL (cls c 4) (zbn (zdd c))) (i:=zb0 c) (by omega) (by omega)).mono ?_
 rintro _ w10 ⟨hx10,rfl⟩
 refine zaV ?_
 refine ⟨hx18.trans (hx9.trans hx10),?_⟩
 have hcb:=zoQ hc hml
 have:zdp c r↔¬(orL (cls c 4) (zbn (zdd c))).testBit (zb0 c)=true:=by
   rw [zhK hm,hcb]
   constructor
   · rintro ⟨a',h⟩;exact h.2.2.2.2
   intro h;exact ⟨a,ha,Decidable.not_not.1 heq2,hnr,zem.1 hsm,h⟩
 congr 1
 cases hb:(orL (cls c 4) (zbn (zdd c))).testBit (zb0 c)
 · rw [decide_eq_true (this.2 (by rw [hb];simp))];rfl
 rw [decide_eq_false (fun h=>this.1 h hb)];rfl
end Go.Proofs.YtbnjpfjjmhodnaaGreatDoor
