/-
  Parts of the proof, put together by program.
-/
import Derived.Test.YtbnjpfjjmhodnaaGreatPFnMachines4
set_option linter.unusedVariables false
set_option linter.unusedSimpArgs false
set_option linter.unusedSectionVars false
namespace Go.Proofs.YtbnjpfjjmhodnaaGreat
open Go Go.Sh Go.Proofs
open Rep (rep)
def F159 (a0 a1:Value) (w:World) (R:VW):Prop:=
 LOOPI [4] [(iV 0)] w fun u1 w next1=>
 rN 162 3 a1 w fun x11=>
 rC (u1 4) x11 w fun x12=>
 BR x12
 (rX 162 a1 (u1 4) w fun x17=>
 rL 209 x17 w fun x18=>
 oP (Instr.alloc 209 true (.tuple #[])) w fun x5 w=>
 oS 209 x5 x18 w fun w=>
 rF 209 x5 0 w fun x19=>
 rL 3 x19 w fun x20=>
 rB .eql 3 T0 U0 x20 (iV 1) w fun x22=>
 BR x22
 ((fun w=>NIL a0 <|
 rF 169 a0 0 w fun x26=>
 rF 112 x26 0 w fun x27=>
 rL 24 x27 w fun x28=>
 rF 209 x5 1 w fun x29=>
 rL 9 x29 w fun x30=>
 rF 209 x5 2 w fun x32=>
 rL 75 x32 w fun x33=>
 (fun w_=>cL 150 [x28,x30] w_ fun x31 w=>
 Ext w_ w ∧
 (fun w_=>cL 226 [x33] w_ fun x34 w=>
 Ext w_ w ∧
 rD (Instr.build 77 #[(0,(iV 1)),(1,x31),(2,x34)]) w fun x35=>
 cL 160 [a0,x35] w fun x36 w=>
 rA (u1 4) (iV 1) w fun x14=>
 next1 [x14] w) w) w) (World.drew1 w))
 (rB .eql 3 T0 U0 x20 (iV 4) w fun x38=>
 BR x38
 ((fun w=>NIL a0 <|
 rF 169 a0 0 w fun x42=>
 rL 112 x42 w fun x43=>
 rF 209 x5 1 w fun x44=>
 rL 9 x44 w fun x45=>
 (fun w_=>cL 225 [x43,x45] w_ fun x46 w=>
 Ext w_ w ∧
 rD (Instr.build 77 #[(0,(iV 4)),(1,x46)]) w fun x47=>
 cL 160 [a0,x47] w fun x48 w=>
 rA (u1 4) (iV 1) w fun x14=>
 next1 [x14] w) w) (World.drew1 w))
 (rB .eql 3 T0 U0 x20 (iV 5) w fun x50=>
 BR x50
 ((fun w=>NIL a0 <|
 rF 169 a0 0 w fun x54=>
 rL 112 x54 w fun x55=>
 rF 209 x5 1 w fun x56=>
 rL 9 x56 w fun x57=>
 (fun w_=>cL 225 [x55,x57] w_ fun x58 w=>
 Ext w_ w ∧
 rD (Instr.build 77 #[(0,(iV 5)),(1,x58)]) w fun x59=>
 cL 160 [a0,x59] w fun x60 w=>
 rA (u1 4) (iV 1) w fun x14=>
 next1 [x14] w) w) (World.drew1 w))
 (rB .eql 3 T0 U0 x20 (iV 6) w fun x62=>
 BR x62
 ((fun w=>NIL a0 <|
 rF 169 a0 0 w fun x66=>
 rF 112 x66 1 w fun x67=>
 rL 24 x67 w fun x68=>
 rF 209 x5 1 w fun x69=>
 rL 9 x69 w fun x70=>
 (fun w_=>cL 150 [x68,x70] w_ fun x71 w=>
 Ext w_ w ∧
 rD (Instr.build 77 #[(0,(iV 6)),(1,x71)]) w fun x72=>
 cL 160 [a0,x72] w fun x73 w=>
 rA (u1 4) (iV 1) w fun x14=>
 next1 [x14] w) w) (World.drew1 w))
 (rB .eql 3 T0 U0 x20 (iV 7) w fun x75=>
 BR x75
 ((fun w=>NIL a0 <|
 rF 169 a0 0 w fun x79=>
 rF 112 x79 1 w fun x80=>
 rL 24 x80 w fun x81=>
 rF 209 x5 1 w fun x82=>
 rL 9 x82 w fun x83=>
 (fun w_=>cL 150 [x81,x83] w_ fun x84 w=>
 Ext w_ w ∧
 rD (Instr.build 77 #[(0,(iV 7)),(1,x84)]) w fun x85=>
 cL 160 [a0,x85] w fun x86 w=>
 rA (u1 4) (iV 1) w fun x14=>
 next1 [x14] w) w) (World.drew1 w))
 (rB .eql 3 T0 U0 x20 (iV 8) w fun x88=>
 BR x88
 (rD (Instr.build 77 #[(0,(iV 8))]) w fun x90=>
 cL 160 [a0,x90] w fun x91 w=>
 rA (u1 4) (iV 1) w fun x14=>
 next1 [x14] w)
 (rB .eql 3 T0 U0 x20 (iV 3) w fun x93=>
 BR x93
 (rF 209 x5 2 w fun x95=>
 rL 75 x95 w fun x96=>
 cL 226 [x96] w fun x97 w=>
 rD (Instr.build 77 #[(0,(iV 2)),(2,x97)]) w fun x98=>
 cL 160 [a0,x98] w fun x99 w=>
 rF 209 x5 3 w fun x101=>
 rL 162 x101 w fun x102=>
 cL 159 [a0,x102] w fun x103 w=>
 rD (Instr.build 77 #[(0,(iV 3)),(3,x99)]) w fun x106=>
 cL 160 [a0,x106] w fun x107 w=>
 (fun w=>NIL a0 <|
 rF 169 a0 1 w fun x110=>
 rL 26 x110 w fun x111=>
 NIL a0 <|
 rF 169 a0 1 w fun x115=>
 rL 26 x115 w fun x116=>
 rN 26 3 x116 w fun x117=>
 rX 26 x111 x99 w fun x118=>
 rF 77 x118 3 w fun x119=>
 oS 3 x119 x117 w fun w=>
 rA (u1 4) (iV 1) w fun x14=>
 next1 [x14] w) (World.drew1 w))
 (rB .eql 3 T0 U0 x20 (iV 2) w fun x121=>
 BR x121
 (rF 209 x5 2 w fun x123=>
 rL 75 x123 w fun x124=>
 cL 226 [x124] w fun x125 w=>
 rD (Instr.build 77 #[(0,(iV 2)),(2,x125)]) w fun x126=>
 cL 160 [a0,x126] w fun x127 w=>
 rF 209 x5 3 w fun x129=>
 rL 162 x129 w fun x130=>
 cL 159 [a0,x130] w fun x131 w=>
 rF 209 x5 4 w fun x132=>
 rL 162 x132 w fun x133=>
 rN 162 3 x133 w fun x134=>
 rB .gtr 3 T0 U0 x134 (iV 0) w fun x135=>
 BR x135
 (rD (Instr.build 77 #[(0,(iV 3))]) w fun x137=>
 cL 160 [a0,x137] w fun x138 w=>
 (fun w=>NIL a0 <|
 rF 169 a0 1 w fun x141=>
 rL 26 x141 w fun x142=>
 NIL a0 <|
 rF 169 a0 1 w fun x146=>
 rL 26 x146 w fun x147=>
 rN 26 3 x147 w fun x148=>
 rX 26 x142 x127 w fun x149=>
 rF 77 x149 3 w fun x150=>
 oS 3 x150 x148 w fun w=>
 rF 209 x5 4 w fun x152=>
 rL 162 x152 w fun x153=>
 cL 159 [a0,x153] w fun x154 w=>
 (fun w=>NIL a0 <|
 rF 169 a0 1 w fun x157=>
 rL 26 x157 w fun x158=>
 NIL a0 <|
 rF 169 a0 1 w fun x162=>
 rL 26 x162 w fun x163=>
 rN 26 3 x163 w fun x164=>
 rX 26 x158 x138 w fun x165=>
 rF 77 x165 3 w fun x166=>
 oS 3 x166 x164 w fun w=>
 rA (u1 4) (iV 1) w fun x14=>
 next1 [x14] w) (World.drew1 w)) (World.drew1 w))
 ((fun w=>NIL a0 <|
 rF 169 a0 1 w fun x169=>
 rL 26 x169 w fun x170=>
 NIL a0 <|
 rF 169 a0 1 w fun x174=>
 rL 26 x174 w fun x175=>
 rN 26 3 x175 w fun x176=>
 rX 26 x170 x127 w fun x177=>
 rF 77 x177 3 w fun x178=>
 oS 3 x178 x176 w fun w=>
 rA (u1 4) (iV 1) w fun x14=>
 next1 [x14] w) (World.drew1 w)))
 (rA (u1 4) (iV 1) w fun x14=>
 next1 [x14] w)))))))))
 (R (Value.tuple #[]) w)
def cfg159:Cfg:=⟨extL,[],[(1,766247770432944429179173513575154591809369561091801072,[4])],[(6,[0,1,2,3,4,5,6,7,9,10,8,11,12,13],2304),(8,[0,1,2,3,4,5,6,7,8,9],128),(10,[0,1,2,3,4,5,6,7,8,9],128),(12,[0,1,2,3,4,5,6,7,8,9,10],256),(14,[0,1,2,3,4,5,6,7,8,9,10],256),(21,[0,1,2,3,4,5,6,7,8,9,10,11,12],0),(27,[0,1,2,3,4,5,6,7,8,9,10,11,12],0),(29,[0,1,2,3,4,5,6,7,8,9,10,11,12],0),(30,[0,1,2,3,4,5,6,7,8,9,10,11,12],0)],[],[],[]⟩
theorem F159_call {a0 a1:Value} {w:World} {R:VW} (h:F159 a0 a1 w R):cL 159 [a0,a1] w R:=co (g:=cfg159) Tryz.func159 (by kernel_rfl) (by kernel_rfl) (by kernel_rfl) h
theorem zdH (G L P:List ByteArray) (x:DStmt) (a:Nat):emS G L P x a =
   if x.kind=1 then [⟨1,plc x.name G,x.term,0⟩]
   else if x.kind=4 then [⟨4,plc x.name P,term0,0⟩]
   else if x.kind=5 then [⟨5,plc x.name P,term0,0⟩]
   else if x.kind=6 then [⟨6,plc x.name L,term0,0⟩]
   else if x.kind=7 then [⟨7,plc x.name L,term0,0⟩]
   else if x.kind=8 then [⟨8,0,term0,0⟩]
   else if x.kind=3 then ⟨2,0,x.term,((a+1+(emL G L P x.body (a+1)).length+1:Nat):Int)⟩ :: (emL G L P x.body (a+1)++[⟨3,0,term0,(a:Int)⟩])
   else if x.kind=2 then
     (if x.els.length=0 then ⟨2,0,x.term,((a+1+(emL G L P x.body (a+1)).length:Nat):Int)⟩ :: emL G L P x.body (a+1)
     else ⟨2,0,x.term,((a+1+(emL G L P x.body (a+1)).length+1:Nat):Int)⟩ :: (emL G L P x.body (a+1) ++
       (⟨3,0,term0,((a+1+(emL G L P x.body (a+1)).length+1+(emL G L P x.els (a+1+(emL G L P x.body (a+1)).length+1)).length:Nat):Int)⟩ :: emL G L P x.els (a+1+(emL G L P x.body (a+1)).length+1))))
   else []:=by cases x;rw [emS];rfl
section
variable (G L P:List ByteArray)
mutual
theorem zmt:∀ (x:DStmt) (a:Nat),(emS G L P x a).length≤2*szS x
  | .mk k n t b e,a=>by
    have h1:=zfQ b (a+1)
    have h2:=zfQ e (a+1+(emL G L P b (a+1)).length+1)
    rw [emS,szS]
    repeat' split
    all_goals simp only [List.length_cons,List.length_nil,List.length_append];omega
theorem zfQ:∀ (l:List DStmt) (a:Nat),(emL G L P l a).length≤2*szL l
  | [],a=>by rw [emL];simp
  | x :: l,a=>by
    have h1:=zmt x a
    have h2:=zfQ l (a+(emS G L P x a).length)
    rw [emL,szL,List.length_append];omega
end
end
theorem zom (x:DStmt):szS x=1+szL x.body+szL x.els:=by cases x;rw [szS];rfl
theorem zcq {g:Nat} {F F1:List Nat} {w w1 w2:World} (h:Chg (g :: F) w w1) (k:Chg (g :: F1) w1 w2) (hF:∀ c∈F1,c∈F∨w.heap.size≤c):Chg (g :: F) w w2:=
 ⟨k.os.trans h.os,k.tape.trans h.tape,k.output.trans h.output,Nat.le_trans h.size k.size,fun b hb hn=>(k.block b (Nat.lt_of_lt_of_le hb h.size) fun hm=>by
   simp only [List.mem_cons,not_or] at hn
   rcases List.mem_cons.1 hm with e | hm
   · exact hn.1 e
   rcases hF b hm with h | h
   · exact hn.2 h
   omega).trans (h.block b hb hn)⟩
theorem zo1 {W w:World} {b:Nat} {x:DStmt} (h:AtB W w b 0 x):AtB W w b (0+6) x.body:=by
 obtain ⟨F,cs,hr,hc⟩:=h
 have h:AtB W w b 0 x.tup:=⟨F,cs,zcZ.1 hr,hc⟩
 exact h.snd.snd.snd.fst
theorem zo2 {W w:World} {b:Nat} {x:DStmt} (h:AtB W w b 0 x):AtB W w b (0+7) x.els:=by
 obtain ⟨F,cs,hr,hc⟩:=h
 have h:AtB W w b 0 x.tup:=⟨F,cs,zcZ.1 hr,hc⟩
 exact h.snd.snd.snd.snd
theorem zkH {W:World} {v:Value} {p:DProg} (h:Is W v p):p.procs.length≤9223372036854775807:=by
 obtain ⟨F,cs,hr,hv⟩:=h
 obtain ⟨F1,F2,x1,x2,rfl,hx,h1,F3,F4,x3,x4,rfl,hx2,h2,h3⟩:=hr
 obtain ⟨a,cap,Fi,xs,_,q1,q2,_⟩:=h3
 have q1:p.procs.length≤cap:=q1
 rw [zap] at q2
 omega
def zjW (pr:List ByteArray) (n:Nat) (l:List DStmt):Prop:=∀ {W w:World} {g:Nat} {p:DProg} {L:List DIns} {F:List Nat} {v:Value},EmF W g p L F w→Is W v l→(∀ x∈l,StR pr n x)→L.length+2*szL l≤1000000 →
 CALL Tryz.prog 159 [.pointer (some ⟨g,0,none⟩),v] w fun r w'=>Chg (g :: F) w w'∧∃ F',EmF W g p (L++emL p.globals p.locks (p.procs.map DProc.name) l L.length) F' w'∧∀ c∈F',c∈F∨w.heap.size≤c
def zpz (W w:World) (g:Nat) (p:DProg) (L:List DIns) (F:List Nat) (l:List DStmt) (k:Nat) (us:List Value) (w':World):Prop:=
 us=[.int .i64 (k:Int)]∧∃ L1 F1,k≤l.length∧L++emL p.globals p.locks (p.procs.map DProc.name) l L.length=L1++emL p.globals p.locks (p.procs.map DProc.name) (l.drop k) L1.length∧L1.length+2*szL (l.drop k)≤1000000 ∧
   Chg (g :: F) w w'∧EmF W g p L1 F1 w'∧∀ c∈F1,c∈F∨w.heap.size≤c
theorem zfi {pr:List ByteArray} {n:Nat} {l:List DStmt} (ih:∀ m l,m+1=n→zjW pr m l) (inil:∀ m,zjW pr m []):zjW pr n l:=by
 intro W w g p L F v hE h hs hlen
 have hln:=zae h
 obtain ⟨-,e2,e3,e4,e5⟩:=hE.lt
 have e1:=hE.lt.1
 refine F159_call ?_
 unfold F159
 refine zaI l.length (zpz W w g p L F l) 0 (Nat.zero_le _) ⟨rfl,L,F,Nat.zero_le _,by simp,by simpa using hlen,Chg.refl _ _,hE,fun c hc=>.inl hc⟩ ?_
 rintro k m u w1 hkm ⟨hu,L1,F1,hkl,heq,hlen1,hc1,hE1,hF1⟩
 simp only [List.map_cons,List.map_nil,List.cons.injEq,and_true] at hu
 rw [hu]
 have hsz1:=hc1.size
 refine zad zdm h ?_
 refine zai ?_
 refine br (fun hlt=>?_) (fun hge=>?_)
 rotate_left
 · have hk:k=l.length:=by omega
   subst hk
   rw [List.drop_length,emL,List.append_nil] at heq
   rw [heq]
   exact ⟨hc1,F1,hE1,hF1⟩
 have hk:k<l.length:=by omega
 obtain ⟨x,hx⟩:∃ x,x=l[k]:=⟨_,rfl⟩
 have hxs:StR pr n x:=by rw [hx];exact hs _ (List.getElem_mem hk)
 have hdr:l.drop k=x :: l.drop (k+1):=by rw [hx];exact List.drop_eq_getElem_cons hk
 rw [hdr,emL] at heq
 rw [hdr,szL] at hlen1
 have hel:=zmt p.globals p.locks (p.procs.map DProc.name) x L1.length
 have hszx:=zom x
 have hfin:∀ w' F2,Chg (g :: F) w w'→EmF W g p (L1++emS p.globals p.locks (p.procs.map DProc.name) x L1.length) F2 w'→(∀ c∈F2,c∈F∨w.heap.size≤c) →
     ∃ m',m'<m∧∃ k',k'+m'=l.length∧zpz W w g p L F l k' [.int .i64 ((k+1:Nat):Int)] w':=fun w' F2 hc hE hF=>
   ⟨m-1,by omega,k+1,by omega,rfl,_,F2,by omega,by rw [heq,List.length_append,List.append_assoc],by rw [List.length_append];omega,hc,hE,hF⟩
 obtain ⟨f1,f2,f3,f4,f5⟩:=hE1.lt
 have hW1:=hE1.old
 refine zaf zdm za8 h hk fun b17 o17 hA17=>?_
 rw [←hx] at hA17
 refine zab za8 hA17 hW1 fun v18 h18=>?_
 refine zeo zlX rfl za8 rfl h18 hW1 fun w2 hx2 hA5 hV5=>?_
 have hs2:=hx2.size
 have hg5:=hV5.lt
 have hE2:=hE1.ext hx2
 have hB5:=zjF h18 hV5 rfl
 have hc2:Chg (g :: F) w w2:=hc1.trans (hx2.chg _)
 have hkind:(x.kind=1∨x.kind=2∨x.kind=3)→TmR x.term:=fun hq=>by
   have h0:St0 pr x→TmR x.term:=fun q=>by
     rcases q with q | q | q | q
     · exact q.2.2.1
     · have:=q.1;omega
     · have:=q.1;omega
     have:=q.1;omega
   cases n with
   | zero=>exact h0 hxs.zero
   | succ n=>
     rcases hxs.succ with q | ⟨_,_,h3,_⟩
     · exact h0 q
     exact h3
 have hkid:∃ q,(∀ y∈x.body,StR pr q y)∧(∀ y∈x.els,StR pr q y)∧zjW pr q x.body∧zjW pr q x.els:=by
   have h0:St0 pr x→x.body=[]∧x.els=[]:=fun h=>by rcases h with q | q | q | q<;>exact ⟨q.2.2.2.1,q.2.2.2.2⟩
   cases n with
   | zero=>
     obtain ⟨h1,h2⟩:=h0 hxs.zero
     rw [h1,h2]
     exact ⟨0,by simp,by simp,inil 0,inil 0⟩
   | succ n=>
     rcases hxs.succ with q | ⟨_,_,_,h4,h5⟩
     · obtain ⟨h1,h2⟩:=h0 q
       rw [h1,h2]
       exact ⟨0,by simp,by simp,inil 0,inil 0⟩
     exact ⟨n,h4,h5,ih n _ rfl,ih n _ rfl⟩
 obtain ⟨q,hqb,hqe,ihb,ihe⟩:=hkid
 have hat2:=hB5.at hE2.old
 refine zaa zc6 ?_
 refine zac ty3 (zbD hat2) (Ext.refl _) fun hI20=>?_
 -- an instruction of one's own behind what there is
 have hput:∀ {w3:World} {lo hi:Nat} {u:Value} {y:DIns} {K:Value→World→Prop},Ext w2 w3→OwnI lo hi w3 u y→w1.heap.size≤lo→lo≤w3.heap.size →
     (∀ w4 F4,Chg (g :: F) w w4→EmF W g p (L1++[y]) F4 w4→(∀ c∈F4,c∈F1∨w1.heap.size≤c)→AtB W w4 w1.heap.size 0 x→w1.heap.size<w4.heap.size→w1.heap.size∉F4∨lo≤w1.heap.size→K (.int .i64 (L1.length:Int)) w4)→CALL Tryz.prog 160 [.pointer (some ⟨g,0,none⟩),u] w3 K:=by
   intro w3 lo hi u y K hx3 ho h1 h2 hK
   have hs3:=hx3.size
   refine (zfh (hE2.ext hx3) ho (by omega) (fun c hc=>by have:=f2 c hc;omega) h2 (by omega)).mono ?_
   rintro _ w4 ⟨rfl,hc4,F4,hE4,hF4⟩
   have hs4:=hc4.size
   refine hK w4 F4 (zcq (hc2.trans (hx3.chg _)) hc4 hF1) hE4 (fun c hc=>(hF4 c hc).imp id fun h=>by omega) ((hB5.ext hx3).keep (hc4.block _ (by omega) fun hm=>?_)) (by omega) ?_
   · rcases List.mem_cons.1 hm with e | hm
     · omega
     have:=f2 _ hm;omega
   rcases Nat.lt_or_ge w1.heap.size lo with hl | hl
   · refine .inl fun hm=>?_
     rcases hF4 _ hm with h | h
     · have:=f2 _ h;omega
     omega
   exact .inr hl
 refine zag ?_
 refine br (fun k1=>?_) (fun k1=>?_)
 · have hx3:=zaj w2
   have hE3:=hE2.ext hx3
   refine NIL.mk rfl ?_
   refine zo0 hE3 fun v28 h28=>?_
   refine zaa zbK ?_
   refine zam ty9 (zaM hat2) hx3 fun hS=>?_
   refine zaa zdW ?_
   refine zab zb3 (zb7 hat2) hx3 fun v33 h33=>?_
   refine (zbF h28 hE3.old).mono ?_
   rintro _ w4 ⟨hx4,rfl⟩
   refine ⟨hx4,?_⟩
   have hw24:=(hkind (.inl k1)).2.2
   refine (zfN _ h33 (hx3.trans hx4) (by omega)).mono ?_
   rintro v34 w5 ⟨hx5,o34⟩
   have o34:=o34.toI
   have hs3:=hx3.size
   have hs4:=hx4.size
   have hs5:=hx5.size
   refine ⟨hx5,?_⟩
   have hpl:=zgE (s:=x.name) (l:=p.globals)
   have hpl2:=zae h28
   refine zjV (by unfold I64;omega) (by unfold I64;omega) o34 fun v35 o35=>?_
   refine hput (hx3.trans (hx4.trans hx5)) o35 (by omega) (by omega) fun w6 F6 hc6 hE6 hF6 _ _ _=>?_
   refine zak (by omega) ?_
   refine hfin w6 F6 hc6 ?_ fun c hc=>(hF6 c hc).elim (hF1 c) fun h=>.inr (by omega)
   rw [zdH,if_pos k1];exact hE6
 refine zag ?_
 refine br (fun k4=>?_) (fun k4=>?_)
 · have hx3:=zaj w2
   have hE3:=hE2.ext hx3
   have hs3:=hx3.size
   refine NIL.mk rfl ?_
   refine znM hE3 fun v28 h28=>?_
   refine zaa zbK ?_
   refine zam ty9 (zaM hat2) hx3 fun hS=>?_
   refine (zgW h28 hE3.old).mono ?_
   rintro _ w4 ⟨hx4,rfl⟩
   have hs4:=hx4.size
   refine ⟨hx4,?_⟩
   have hpl:=zgE (s:=x.name) (l:=p.procs.map DProc.name)
   have hpl2:p.procs.length≤9223372036854775807:=zkH h28
   rw [List.length_map] at hpl
   refine zek (lo:=w4.heap.size) (hi:=w4.heap.size) (by unfold I64;omega) (by unfold I64;omega) fun v35 o35=>?_
   refine hput (hx3.trans hx4) o35 (by omega) (by omega) fun w6 F6 hc6 hE6 hF6 _ _ _=>?_
   refine zak (by omega) ?_
   refine hfin w6 F6 hc6 ?_ fun c hc=>(hF6 c hc).elim (hF1 c) fun h=>.inr (by omega)
   rw [zdH,if_neg k1,if_pos k4];exact hE6
 refine zag ?_
 refine br (fun k5=>?_) (fun k5=>?_)
 · have hx3:=zaj w2
   have hE3:=hE2.ext hx3
   have hs3:=hx3.size
   refine NIL.mk rfl ?_
   refine znM hE3 fun v28 h28=>?_
   refine zaa zbK ?_
   refine zam ty9 (zaM hat2) hx3 fun hS=>?_
   refine (zgW h28 hE3.old).mono ?_
   rintro _ w4 ⟨hx4,rfl⟩
   have hs4:=hx4.size
   refine ⟨hx4,?_⟩
   have hpl:=zgE (s:=x.name) (l:=p.procs.map DProc.name)
   have hpl2:p.procs.length≤9223372036854775807:=zkH h28
   rw [List.length_map] at hpl
   refine zek (lo:=w4.heap.size) (hi:=w4.heap.size) (by unfold I64;omega) (by unfold I64;omega) fun v35 o35=>?_
   refine hput (hx3.trans hx4) o35 (by omega) (by omega) fun w6 F6 hc6 hE6 hF6 _ _ _=>?_
   refine zak (by omega) ?_
   refine hfin w6 F6 hc6 ?_ fun c hc=>(hF6 c hc).elim (hF1 c) fun h=>.inr (by omega)
   rw [zdH,if_neg k1,if_neg k4,if_pos k5];exact hE6
 refine zag ?_
 refine br (fun k6=>?_) (fun k6=>?_)
 · have hx3:=zaj w2
   have hE3:=hE2.ext hx3
   have hs3:=hx3.size
   refine NIL.mk rfl ?_
   refine znL hE3 fun v28 h28=>?_
   refine zaa zbK ?_
   refine zam ty9 (zaM hat2) hx3 fun hS=>?_
   refine (zbF h28 hE3.old).mono ?_
   rintro _ w4 ⟨hx4,rfl⟩
   have hs4:=hx4.size
   refine ⟨hx4,?_⟩
   have hpl:=zgE (s:=x.name) (l:=p.locks)
   have hpl2:=zae h28
   refine zek (lo:=w4.heap.size) (hi:=w4.heap.size) (by unfold I64;omega) (by unfold I64;omega) fun v35 o35=>?_
   refine hput (hx3.trans hx4) o35 (by omega) (by omega) fun w6 F6 hc6 hE6 hF6 _ _ _=>?_
   refine zak (by omega) ?_
   refine hfin w6 F6 hc6 ?_ fun c hc=>(hF6 c hc).elim (hF1 c) fun h=>.inr (by omega)
   rw [zdH,if_neg k1,if_neg k4,if_neg k5,if_pos k6];exact hE6
 refine zag ?_
 refine br (fun k7=>?_) (fun k7=>?_)
 · have hx3:=zaj w2
   have hE3:=hE2.ext hx3
   have hs3:=hx3.size
   refine NIL.mk rfl ?_
   refine znL hE3 fun v28 h28=>?_
   refine zaa zbK ?_
   refine zam ty9 (zaM hat2) hx3 fun hS=>?_
   refine (zbF h28 hE3.old).mono ?_
   rintro _ w4 ⟨hx4,rfl⟩
   have hs4:=hx4.size
   refine ⟨hx4,?_⟩
   have hpl:=zgE (s:=x.name) (l:=p.locks)
   have hpl2:=zae h28
   refine zek (lo:=w4.heap.size) (hi:=w4.heap.size) (by unfold I64;omega) (by unfold I64;omega) fun v35 o35=>?_
   refine hput (hx3.trans hx4) o35 (by omega) (by omega) fun w6 F6 hc6 hE6 hF6 _ _ _=>?_
   refine zak (by omega) ?_
   refine hfin w6 F6 hc6 ?_ fun c hc=>(hF6 c hc).elim (hF1 c) fun h=>.inr (by omega)
   rw [zdH,if_neg k1,if_neg k4,if_neg k5,if_neg k6,if_pos k7];exact hE6
 refine zag ?_
 refine br (fun k8=>?_) (fun k8=>?_)
 · refine zgY (lo:=w2.heap.size) (hi:=w2.heap.size) (by unfold I64;omega) fun v35 o35=>?_
   refine hput (Ext.refl w2) o35 (by omega) (by omega) fun w6 F6 hc6 hE6 hF6 _ _ _=>?_
   refine zak (by omega) ?_
   refine hfin w6 F6 hc6 ?_ fun c hc=>(hF6 c hc).elim (hF1 c) fun h=>.inr (by omega)
   rw [zdH,if_neg k1,if_neg k4,if_neg k5,if_neg k6,if_neg k7,if_pos k8];exact hE6
 have hlb:=zfQ p.globals p.locks (p.procs.map DProc.name) x.body (L1.length+1)
 refine zag ?_
 refine br (fun k3=>?_) (fun k3=>?_)
 · refine zaa zdW ?_
   refine zab zb3 (zb7 hat2) (Ext.refl _) fun v96 h96=>?_
   have hw24:=(hkind (.inr (.inr k3))).2.2
   refine (zfN _ h96 (Ext.refl _) (by omega)).mono ?_
   rintro v97 w4 ⟨hx4,o97⟩
   have o97:=o97.toI
   have hs4:=hx4.size
   refine zhy (by unfold I64;omega) o97 fun v98 o98=>?_
   refine hput hx4 o98 (by omega) (by omega) fun w5 F5 hc5 hE5 hF5 hB5' hg5' _=>?_
   refine zaa zcx ?_
   refine zcT zce (zo1 hB5') hE5.old (Ext.refl _) fun v102 h102=>?_
   refine (ihb hE5 h102 hqb (by simp;omega)).mono ?_
   rintro r103 w6 ⟨hc6,F6,hE6,hF6⟩
   have hs5:=hc5.size
   have hs6:=hc6.size
   obtain ⟨z1,z2,z3,z4,z5⟩:=hE6.lt
   refine zlf (lo:=w6.heap.size) (hi:=w6.heap.size) (by unfold I64;omega) (by unfold I64;omega) fun v106 o106=>?_
   refine (zfh hE6 o106 z1 z2 (Nat.le_refl _) (by simp;omega)).mono ?_
   rintro r107 w7 ⟨-,hc7,F7,hE7,hF7⟩
   have hs7:=hc7.size
   have hx8:=zaj w7
   have e7:L1++[(⟨2,0,x.term,0⟩:DIns)]++emL p.globals p.locks (p.procs.map DProc.name) x.body (L1++[(⟨2,0,x.term,0⟩:DIns)]).length++[⟨3,0,term0,(L1.length:Int)⟩] =
       L1++(⟨2,0,x.term,0⟩:DIns) :: (emL p.globals p.locks (p.procs.map DProc.name) x.body (L1.length+1)++[⟨3,0,term0,(L1.length:Int)⟩]):=by simp
   rw [e7] at hE7
   have hF6':∀ c∈F6,c∈F∨w.heap.size≤c:=fun c hc=>(hF6 c hc).elim (fun h=>(hF5 c h).elim (hF1 c) fun h=>.inr (by omega)) fun h=>.inr (by omega)
   have hF7':∀ c∈F7,c∈F∨w.heap.size≤c:=fun c hc=>(hF7 c hc).elim (hF6' c) fun h=>.inr (by omega)
   have hc07:=zcq (zcq hc5 hc6 fun c hc=>(hF5 c hc).elim (hF1 c) fun h=>.inr (by omega)) hc7 hF6'
   refine zgo (hE7.ext hx8) rfl (by simp;omega) fun w9 F9 hc9 hE9 hF9=>?_
   refine zak (by omega) ?_
   refine hfin w9 F9 (zcq (hc07.trans (hx8.chg _)) hc9 hF7') ?_ fun c hc=>hF7' c (hF9 c hc)
   rw [zdH,if_neg k1,if_neg k4,if_neg k5,if_neg k6,if_neg k7,if_neg k8,if_pos k3]
   have:((L1++(⟨2,0,x.term,0⟩:DIns) :: (emL p.globals p.locks (p.procs.map DProc.name) x.body (L1.length+1)++[⟨3,0,term0,(L1.length:Int)⟩])).length:Int)=((L1.length+1+(emL p.globals p.locks (p.procs.map DProc.name) x.body (L1.length+1)).length+1:Nat):Int):=by
     simp only [List.length_append,List.length_cons,List.length_nil];omega
   rw [this] at hE9
   exact hE9
 refine zag ?_
 refine br (fun k2=>?_) (fun k2=>?_)
 rotate_left
 · exfalso
   have h0:St0 pr x→False:=fun q=>by rcases q with q | q | q | q<;>(have:=q.1;omega)
   cases n with
   | zero=>exact h0 hxs.zero
   | succ n=>
     rcases hxs.succ with q | ⟨q,_⟩
     · exact h0 q
     omega
 refine zaa zdW ?_
 refine zab zb3 (zb7 hat2) (Ext.refl _) fun v124 h124=>?_
 have hw24:=(hkind (.inr (.inl k2))).2.2
 refine (zfN _ h124 (Ext.refl _) (by omega)).mono ?_
 rintro v125 w4 ⟨hx4,o125⟩
 have o125:=o125.toI
 have hs4:=hx4.size
 refine zhy (by unfold I64;omega) o125 fun v126 o126=>?_
 refine hput hx4 o126 (by omega) (by omega) fun w5 F5 hc5 hE5 hF5 hB5' hg5' hgF5=>?_
 have hgF5:w1.heap.size∉F5:=hgF5.elim id fun h=>by omega
 have hs5:=hc5.size
 refine zaa zcx ?_
 refine zcT zce (zo1 hB5') hE5.old (Ext.refl _) fun v130 h130=>?_
 refine (ihb hE5 h130 hqb (by simp;omega)).mono ?_
 rintro r131 w6 ⟨hc6,F6,hE6,hF6⟩
 have hs6:=hc6.size
 have hB6:=hB5'.keep (hc6.block _ hg5' fun hm=>by
   rcases List.mem_cons.1 hm with e | hm
   · omega
   exact hgF5 hm)
 obtain ⟨z1,z2,z3,z4,z5⟩:=hE6.lt
 have hF5':∀ c∈F5,c∈F∨w.heap.size≤c:=fun c hc=>(hF5 c hc).elim (hF1 c) fun h=>.inr (by omega)
 have hF6':∀ c∈F6,c∈F∨w.heap.size≤c:=fun c hc=>(hF6 c hc).elim (hF5' c) fun h=>.inr (by omega)
 have hc06:=zcq hc5 hc6 hF5'
 have e6:L1++[(⟨2,0,x.term,0⟩:DIns)]++emL p.globals p.locks (p.procs.map DProc.name) x.body (L1++[(⟨2,0,x.term,0⟩:DIns)]).length =
     L1++(⟨2,0,x.term,0⟩:DIns) :: emL p.globals p.locks (p.procs.map DProc.name) x.body (L1.length+1):=by simp
 rw [e6] at hE6
 obtain ⟨B,hB⟩:∃ B,B=emL p.globals p.locks (p.procs.map DProc.name) x.body (L1.length+1):=⟨_,rfl⟩
 rw [←hB] at hE6 hlb
 refine zaa zcf ?_
 refine zcT zce (zo2 hB6) hE6.old (Ext.refl _) fun v133 h133=>?_
 refine zad zdm h133 ?_
 refine zb5 ?_
 refine br (fun ke=>?_) (fun ke=>?_)
 · refine zgY (lo:=w6.heap.size) (hi:=w6.heap.size) (by unfold I64;omega) fun v137 o137=>?_
   refine (zfh hE6 o137 z1 z2 (Nat.le_refl _) (by simp;omega)).mono ?_
   rintro r138 w7 ⟨h138,hc7,F7,hE7,hF7⟩
   rw [h138]
   have hs7:=hc7.size
   have hx8:=zaj w7
   have hs8:=hx8.size
   have e7:L1++(⟨2,0,x.term,0⟩:DIns) :: B++[⟨3,0,term0,0⟩]=L1++(⟨2,0,x.term,0⟩:DIns) :: (B++[⟨3,0,term0,0⟩]):=by simp
   rw [e7] at hE7
   have hF7':∀ c∈F7,c∈F∨w.heap.size≤c:=fun c hc=>(hF7 c hc).elim (hF6' c) fun h=>.inr (by omega)
   have hc07:=zcq hc06 hc7 hF6'
   have hgF6:w1.heap.size∉F6:=fun hm=>(hF6 _ hm).elim hgF5 fun h=>by omega
   have hgF7:w1.heap.size∉F7:=fun hm=>(hF7 _ hm).elim hgF6 fun h=>by omega
   have hB7:=hB6.keep (hc7.block _ (by omega) fun hm=>by
     rcases List.mem_cons.1 hm with e | hm
     · omega
     exact hgF6 hm)
   refine zgo (hE7.ext hx8) rfl (by simp;omega) fun w9 F9 hc9 hE9 hF9=>?_
   have hs9:=hc9.size
   have hB9:=(hB7.ext hx8).keep (hc9.block _ (by omega) fun hm=>by
     rcases List.mem_cons.1 hm with e | hm
     · omega
     exact hgF7 hm)
   refine zaa zcf ?_
   refine zcT zce (zo2 hB9) hE9.old (Ext.refl _) fun v153 h153=>?_
   obtain ⟨y0,hy0⟩:∃ y0:DIns,y0=⟨2,0,x.term,((L1++(⟨2,0,x.term,0⟩:DIns) :: (B++[⟨3,0,term0,0⟩])).length:Int)⟩:=⟨_,rfl⟩
   have hE9:EmF W g p (L1++y0 :: (B++[⟨3,0,term0,0⟩])) F9 w9:=by rw [hy0];exact hE9
   refine (ihe hE9 h153 hqe (by simp;omega)).mono ?_
   rintro r154 w10 ⟨hc10,F10,hE10,hF10⟩
   have hF9':∀ c∈F9,c∈F∨w.heap.size≤c:=fun c hc=>hF7' c (hF9 c hc)
   have hF10':∀ c∈F10,c∈F∨w.heap.size≤c:=fun c hc=>(hF10 c hc).elim (hF9' c) fun h=>.inr (by omega)
   have hc010:=zcq (zcq (hc07.trans (hx8.chg _)) hc9 hF7') hc10 hF9'
   have hx11:=zaj w10
   have hle:=zfQ p.globals p.locks (p.procs.map DProc.name) x.els (L1++y0 :: (B++[⟨3,0,term0,0⟩])).length
   have hn9:(L1++y0 :: (B++[(⟨3,0,term0,0⟩:DIns)])).length=L1.length+1+B.length+1:=by simp only [List.length_append,List.length_cons,List.length_nil];omega
   rw [hn9] at hE10 hle
   obtain ⟨E,hEe⟩:∃ E,E=emL p.globals p.locks (p.procs.map DProc.name) x.els (L1.length+1+B.length+1):=⟨_,rfl⟩
   rw [←hEe] at hE10 hle
   have e10:L1++y0 :: (B++[(⟨3,0,term0,0⟩:DIns)])++E=(L1++y0 :: B)++(⟨3,0,term0,0⟩:DIns) :: E:=by simp
   rw [e10] at hE10
   refine zgo (hE10.ext hx11) (by simp) (by simp only [List.length_append,List.length_cons];omega) fun w12 F12 hc12 hE12 hF12=>?_
   refine zak (by omega) ?_
   refine hfin w12 F12 (zcq (hc010.trans (hx11.chg _)) hc12 hF10') ?_ fun c hc=>hF10' c (hF12 c hc)
   rw [zdH,if_neg k1,if_neg k4,if_neg k5,if_neg k6,if_neg k7,if_neg k8,if_neg k3,if_pos k2,if_neg (by omega),←hB,←hEe]
   have q1:y0=⟨2,0,x.term,((L1.length+1+B.length+1:Nat):Int)⟩:=by
     rw [hy0];congr 1
     simp only [List.length_append,List.length_cons,List.length_nil];omega
   have q2:(((L1++y0 :: B)++(⟨3,0,term0,0⟩:DIns) :: E).length:Int)=((L1.length+1+B.length+1+E.length:Nat):Int):=by
     simp only [List.length_append,List.length_cons,List.length_nil];omega
   rw [q2,q1] at hE12
   simpa using hE12
 have hx8:=zaj w6
 refine zgo (hE6.ext hx8) rfl (by simp;omega) fun w9 F9 hc9 hE9 hF9=>?_
 refine zak (by omega) ?_
 refine hfin w9 F9 (zcq (hc06.trans (hx8.chg _)) hc9 hF6') ?_ fun c hc=>hF6' c (hF9 c hc)
 rw [zdH,if_neg k1,if_neg k4,if_neg k5,if_neg k6,if_neg k7,if_neg k8,if_neg k3,if_pos k2,if_pos (by omega),←hB]
 have:((L1++(⟨2,0,x.term,0⟩:DIns) :: B).length:Int)=((L1.length+1+B.length:Nat):Int):=by
   simp only [List.length_append,List.length_cons,List.length_nil];omega
 rw [this] at hE9
 exact hE9
theorem zf5 (pr:List ByteArray) (n:Nat):zjW pr n []:=by
 intro W w g p L F v hE h hs hlen
 refine F159_call ?_
 unfold F159
 refine zaI 0 (fun k us w'=>us=[.int .i64 (k:Int)]∧w'=w) 0 (Nat.zero_le _) ⟨rfl,rfl⟩ ?_
 rintro k m u w1 hkm ⟨hu,rfl⟩
 simp only [List.map_cons,List.map_nil,List.cons.injEq,and_true] at hu
 rw [hu]
 refine zad zdm h ?_
 refine zai ?_
 refine br (fun hlt=>by simp at hlt;omega) (fun hge=>?_)
 exact ⟨Chg.refl _ _,F,by rw [emL,List.append_nil];exact hE,fun c hc=>.inl hc⟩
theorem zgZ (pr:List ByteArray):∀ (n:Nat) (l:List DStmt),zjW pr n l
 | 0,l=>zfi (n:=0) (l:=l) (fun m l h=>absurd h (by omega)) (zf5 pr)
 | n + 1, l => zfi (n := n + 1) (l := l) (fun m l h => by
     obtain rfl:m=n:=by omega
     exact zgZ pr m l) (zf5 pr)
def F129 (a0:Value) (w:World) (R:VW):Prop:=
 oP (Instr.alloc 112 true (.tuple #[])) w fun x2 w=>
 oP (Instr.buildSlice 24 4 #[(0,(Value.string (ByteArray.mk #[120]))),(1,(Value.string (ByteArray.mk #[121]))),(2,(Value.string (ByteArray.mk #[122]))),(3,(Value.string (ByteArray.mk #[117])))]) w fun x7 w=>
 oP (Instr.buildSlice 24 3 #[(0,(Value.string (ByteArray.mk #[97]))),(1,(Value.string (ByteArray.mk #[98]))),(2,(Value.string (ByteArray.mk #[109])))]) w fun x8 w=>
 rD (Instr.build 112 #[(0,x7),(1,x8)]) w fun x9=>
 oP (Instr.alloc 112 true (.tuple #[])) w fun x3 w=>
 oS 112 x3 x9 w fun w=>
 oP (Instr.buildSlice 24 4 #[(0,(Value.string (ByteArray.mk #[109,97,105,110]))),(1,(Value.string (ByteArray.mk #[112]))),(2,(Value.string (ByteArray.mk #[113]))),(3,(Value.string (ByteArray.mk #[114])))]) w fun x10 w=>
 cL 71 [a0,(iV 3)] w fun x12 w=>
 rB .add 3 U0 T0 (iV 2) x12 w fun x13=>
 rD (Instr.sliceAt 24 x10 none (some x13) none) w fun x14=>
 LOOPI [5] [(iV 0)] w fun u4 w next4=>
 rN 24 3 x14 w fun x17=>
 rC (u4 5) x17 w fun x18=>
 BR x18
 (cL 198 [a0,(iV 2)] w fun x22 w=>
 cL 198 [a0,(iV 1)] w fun x24 w=>
 oP (Builtin.append_ #[162,162] 162 [x22,x24].toArray) w fun x25 w=>
 JOIN [6] (fun J9=>
 cL 199 [x25,(iV 50)] w fun x27 w=>
 rB .lss 3 T0 U0 x27 (iV 0) w fun x28=>
 BR x28
 (rD (Instr.build 209 #[(0,(iV 8))]) w fun x29=>
 oP (Instr.buildSlice 162 1 #[(0,x29)]) w fun x30 w=>
 J9 [x30] w)
 (J9 [x25] w)) (fun u9 w=>
 JOIN [6] (fun J11=>
 cL 92 [a0,(iV 2)] w fun x32 w=>
 BR x32
 (cL 200 [a0,(u9 6)] w fun x35 w=>
 J11 [x35] w)
 (J11 [(u9 6)] w)) (fun u11 w=>
 JOIN [6] (fun J13=>
 rB .eql 3 T0 U0 (u4 5) (iV 0) w fun x37=>
 BR x37
 (cL 92 [a0,(iV 2)] w fun x40 w=>
 BR x40
 (rX 24 x14 (iV 1) w fun x43=>
 rL 9 x43 w fun x44=>
 rD (Instr.build 209 #[(0,(iV 5)),(1,x44)]) w fun x45=>
 oP (Instr.buildSlice 162 1 #[(0,x45)]) w fun x46 w=>
 oP (Builtin.append_ #[162,162] 162 [x46,(u11 6)].toArray) w fun x48 w=>
 J13 [x48] w)
 (J13 [(u11 6)] w))
 (J13 [(u11 6)] w)) (fun u13 w=>
 (fun w=>XR fun X=>RDX tp X (Instr.fieldAt 112 x3 2) w fun x49=>
 RDX tp X (Instr.loadAt 110 x49) w fun x50=>
 RDX tp X (Instr.indexAt 24 x14 (u4 5)) w fun x53=>
 RDX tp X (Instr.loadAt 9 x53) w fun x54=>
 RDX tp X (Instr.sliceAt 24 x14 (some (iV 1)) none none) w fun x58=>
 (fun w_=>cL 201 [a0,(u13 6),x58] w_ fun x59 w=>
 ExtX X w_ w ∧
 RDX tp X (Instr.build 164 #[(0,x54),(1,x59)]) w fun x60=>
 (fun w_=>oP (Instr.buildSlice 110 1 #[(0,x60)]) w_ fun x61 w=>
 ExtX X w_ w ∧
 (oP (Builtin.append_ #[110,110] 110 [x50,x61].toArray) w fun x62 w=>
 RDX tp X (Instr.fieldAt 112 x3 2) w fun x63=>
 oS 110 x63 x62 w fun w=>
 rA (u4 5) (iV 1) w fun x20=>
 next4 [x20] w)) w) w) (World.drew1 w)))))
 (rL 112 x3 w fun x64=>
 oS 112 x2 x64 w fun w=>
 rD (zaz 112 x2) w fun r2=>R r2 w)
def cfg129:Cfg:={ ext:=extL,joins:=[(9,2080374848,[6]),(11,66571993152,[6]),(13,562881233944640,[6])],loops:=[(4,18446744073709518944,[5])],draws:=[(13,[0,1,2,3,4,5,6,7,8,9,10,11,12,13,14,15],5120)],pars:=[],xs:=[13] }
theorem F129_call {a0:Value} {w:World} {R:VW} (h:F129 a0 w R):cL 129 [a0] w R:=co (g:=cfg129) Tryz.func129 (by kernel_rfl) (by kernel_rfl) (by kernel_rfl) h
theorem zlg {w:World} {n:ByteArray} {a:Option Addr} {m c:Nat}:(Instr.build 164 #[(0,.string n),(1,.slice a m c)]).run Tryz.prog w=.ok (.agg #[.string n,.slice a m c]) w:=by
 obtain ⟨v,h1,h2⟩:=zaP (P:=Tryz.prog) (w:=w) (K:=fun v=>v=.agg #[.string n,.slice a m c]) (t:=164) (parts:=#[(0,.string n),(1,.slice a m c)]) (cells:=#[.string n,.slice a m c]) (by kernel_rfl) rfl
 subst h2;exact h1 w (Ext.refl w)
theorem znl {X:Nat→Prop} {w:World} {lo hi n cap i:Nat} {a:Option Addr} {l:List ByteArray} {K:Value→Prop} (h:IsK lo hi w (.slice a n cap) l) (hn:n=l.length) (hil:i<l.length) (hX:∀ b,lo≤b→b<hi→¬X b)
   (k:l[i].size≤maxLen→K (.string l[i])):∃ p,(∀ w':World,(Instr.indexAt 24 (.slice a n cap) (.int .i64 (i:Int))).run Tryz.prog w'=.ok p w')∧RDX Tryz.prog X (Instr.loadAt 9 p) w K:=by
 subst hn
 obtain ⟨F,cs,⟨a',cap',Fi,xs,rfl,h1,h2,hc,h4⟩,hv⟩:=h.is
 simp only [mkv,Rep.agg,cond_false,List.headD_cons,Value.slice.injEq] at hv
 obtain ⟨rfl,_,rfl⟩:=hv
 rcases h4 with ⟨rfl,_⟩ | ⟨b,o,rfl,rfl,hr,hb⟩
 · simp at hil
 refine ⟨.pointer (some ⟨b,o+i*1,none⟩),fun w'=>by rw [zbw u24 ty9 (by omega) (by omega)];simp,?_⟩
 have key:∀ w':World,Is w' (.slice (some ⟨b,o,none⟩) l.length cap) l→w'.cell? ⟨b,o+i*1,none⟩=some (.string l[i])∧l[i].size≤maxLen:=by
   intro w' hw
   obtain ⟨F,cs,⟨a',cap',Fi,xs,rfl,h1,h2,hc,h4⟩,hv⟩:=hw
   simp only [mkv,Rep.agg,cond_false,List.headD_cons,Value.slice.injEq] at hv
   obtain ⟨rfl,_,rfl⟩:=hv
   rcases h4 with ⟨rfl,_⟩ | ⟨b2,o2,hbo,rfl,hr,hb⟩
   · simp at hil
   simp only [Option.some.injEq,Addr.mk.injEq,and_true] at hbo
   obtain ⟨rfl,rfl⟩:=hbo
   have e:l=l.take i++(l[i] :: l.drop (i+1)):=by simp
   rw [e] at hc
   obtain ⟨F1,F2,x1,x2,rfl,rfl,c1,c2⟩:=Cells.split hc
   obtain ⟨G,F3,cg,x3,rfl,rfl,⟨_,rfl,hs⟩,_⟩:=c2
   have hx1:x1.length=i:=by rw [Cells.len c1,List.length_take,Nat.min_eq_left (by omega)];exact Nat.mul_one i
   refine ⟨?_,hs⟩
   have:=hr i (.string l[i]) (by rw [List.getElem?_append_right (by omega),hx1];simp)
   simpa using this
 refine ⟨.string l[i],fun w' hx'=>?_,k (key w h.is).2⟩
 have h0:=(key w' (h.2 w' fun c h5 h6=>hx'.block c (Nat.lt_of_lt_of_le h6 h.1) (hX c h5 h6))).1
 rw [Nat.mul_one] at h0
 have hA:=zdR ty9 w'
 simp [Instr.loadAt,Instr.sureAddr,loadVar,hA,h0]
theorem zmu (bs:List UInt8) (s:Cur):(zaF bs 2 s).1.length≤4∧(zaF bs 1 (zaF bs 2 s).2).1.length≤4∧(zdY bs s).1.length≤50∧(zeG bs (zdY bs s)).1.length≤53:=by
 refine ⟨zgM 4 0 _,zgM 4 0 _,?_,?_⟩
 · have:=zjK bs s;have:=zh8 (zdY bs s).1;omega
 have:=zmc bs (zjK bs s);have:=zh8 (zeG bs (zdY bs s)).1;omega
theorem zkI {X:Nat→Prop} {w:World} {m:Sem Value} {p:Value} {K:Value→Prop} (h:∀ w':World,m.run Tryz.prog w'=.ok p w') (k:K p):RDX Tryz.prog X m w K:=⟨p,fun w' _=>h w',k⟩
theorem zmv {pr:List ByteArray} (h:1<pr.length):(pr.drop 1).getD 0 nO=pr[1]:=by
 rw [List.getD_eq_getElem?_getD,List.getElem?_drop,List.getElem?_eq_getElem h];rfl
theorem zhb {bs:List UInt8} {pr l:List ByteArray} {k:Nat} {s:Cur} (hk:k<l.length):zaR bs pr (l.drop k) k s =
   (⟨l[k],(zch bs pr k s).1⟩ :: (zaR bs pr (l.drop (k+1)) (k+1) (zch bs pr k s).2).1,(zaR bs pr (l.drop (k+1)) (k+1) (zch bs pr k s).2).2):=by
 rw [List.drop_eq_getElem_cons hk,zaR]
theorem zlh {W w:World} {g:Nat} {bs:List UInt8} {s:Cur} (hC:CurAt W g bs s w) :
   CALL Tryz.prog 129 [.pointer (some ⟨g,0,none⟩)] w fun r w'=>ChgI g (g+1) w w'∧CurAt W g bs (zbS bs s).2 w'∧OwnI w.heap.size w'.heap.size w' r (zbS bs s).1:=by
 have hgl:=hC.lt
 refine F129_call ?_
 unfold F129
 refine zbm zoR fun w1 hx1 hB1=>?_
 have hs1:=hx1.size
 have hg1:=hB1.lt
 refine zoY fun v7 w2 hx2 o7=>?_
 have hs2:=hx2.size
 refine zmn fun v8 w3 hx3 o8=>?_
 have hs3:=hx3.size
 have o7:=o7.ext hx3
 obtain ⟨a7,cap7,rfl⟩:=zds o7
 obtain ⟨a8,cap8,rfl⟩:=zds o8
 refine zaP (cells:=#[.slice a7 glb.length cap7,.slice a8 lks.length cap8,.slice none 0 0]) (by kernel_rfl) ?_
 refine zbm zoR fun w4 hx4 hB4=>?_
 have hs4:=hx4.size
 have hg4:=hB4.lt
 have o7:=o7.ext hx4
 have o8:=o8.ext hx4
 refine zbo (x:=(⟨glb,lks,[]⟩:DProg)) (lo:=w1.heap.size) (hi:=w3.heap.size) zdV rfl hB4 rfl (zi3 (l0:=w1.heap.size) (h0:=w2.heap.size) (l1:=w2.heap.size) (h1:=w3.heap.size) (l2:=w3.heap.size) (h2:=w3.heap.size) o7 o8 zbt (by omega) (by omega) (by omega) (by omega) (by omega) (by omega)) fun w5 hc5 hB5=>?_
 have hs5:=hc5.size
 have o7:=o7.chg hc5 (by omega)
 have o8:=o8.chg hc5 (by omega)
 have hx05:Ext w w5:=Ext.chgI (hx1.trans (hx2.trans (hx3.trans hx4))) hc5 (by omega)
 have hB15:=(hB1.ext (hx2.trans (hx3.trans hx4))).chgI hc5 (by omega)
 refine zoZ fun v10 w6 hx6 o10=>?_
 have hs6:=hx6.size
 refine (zbA (hC.ext (hx05.trans hx6)) (by omega)).mono ?_
 rintro _ w7 ⟨hc7,hC7,rfl⟩
 have hs7:=hc7.size
 have o7:=(o7.ext hx6).chg hc7 (by omega)
 have o8:=(o8.ext hx6).chg hc7 (by omega)
 have o10:=o10.chg hc7 (by omega)
 have hB7:=(hB5.ext hx6).chgI hc7 (by omega)
 have hB17:=(hB15.ext hx6).chgI hc7 (by omega)
 have hbx:=zbs bs (n:=3) (by omega) s
 have hN:=zmo bs s
 refine zb6 (by unfold I64;omega) ?_
 obtain ⟨a10,cap10,rfl⟩:=zds o10
 have hK10:=o10.isK (by omega)
 obtain ⟨np,hnp⟩:∃ np:Nat,np=2+(zaV bs 3 s).toNat:=⟨_,rfl⟩
 have hnp4:np≤prc4.length:=by show np≤4;omega
 have hprN:zgO bs s=prc4.take np:=by rw [hnp];rfl
 have hprl:(zgO bs s).length=np:=by rw [hprN,List.length_take];omega
 have hK:=hK10.take hnp4
 rw [←hprN] at hK
 have hsl:∀ w':World,(Instr.sliceAt 24 (.slice a10 prc4.length cap10) none (some (.int .i64 (2+zaV bs 3 s))) none).run Tryz.prog w'=.ok (.slice a10 np cap10) w':=fun w'=>by
   obtain ⟨a',cap',Fi',xs',hv',q1,q2,_⟩:=zb1 o10.is
   simp only [Value.slice.injEq] at hv'
   obtain ⟨rfl,_,rfl⟩:=hv'
   have hb:(Instr.sliceBounds true prc4.length cap10 none (some (.int .i64 (2+zaV bs 3 s))) none).run Tryz.prog w'=.ok (0,np,cap10) w':=by
     have h1:2+zaV bs 3 s≤(cap10:Int):=by omega
     have h2:(0:Int)≤2+zaV bs 3 s:=by omega
     have h3:(2+zaV bs 3 s).toNat=np:=by omega
     simp [Instr.sliceBounds,Instr.sliceBound,asIntOf,h1,h2,h3]
   simp only [Instr.sliceAt,Instr.slice,Sem.run_bind,run_underlying u24,Result.andThen_ok,hb,zaC ty9]
   simp
   exact fun _=>by cases a10<;>simp [Addr.add_mid,Addr.add]
 refine zaU (fun w' _=>hsl w') ?_
 obtain ⟨L,hL⟩:∃ L,L=zgO bs s:=⟨_,rfl⟩
 rw [←hL] at hK hN hprl
 have hp0:0<(L.drop 1).length:=by rw [List.length_drop];omega
 have hc07:ChgI g (g+1) w w7:=((hx05.trans hx6).toI).trans hc7
 refine zaI L.length (fun k us w'=>us=[.int .i64 (k:Int)]∧∃ (ps:List DProc) (s1:Cur) (vr:Value) (hi:Nat),k≤L.length∧ps.length=k∧zaR bs (L.drop 1) L 0 (zah bs 3 s)=(ps++(zaR bs (L.drop 1) (L.drop k) k s1).1,(zaR bs (L.drop 1) (L.drop k) k s1).2) ∧
     CurAt W g bs s1 w'∧ChgI g (g+1) w w'∧Blk w3.heap.size 112 w' [.slice a7 glb.length cap7,.slice a8 lks.length cap8,vr]∧OwnI w1.heap.size w2.heap.size w' (.slice a7 glb.length cap7) glb∧OwnI w2.heap.size w3.heap.size w' (.slice a8 lks.length cap8) lks ∧
     IsK w5.heap.size w6.heap.size w' (.slice a10 np cap10) L∧RowI w6.heap.size hi 164 w' vr ps∧w6.heap.size≤hi∧hi≤w'.heap.size∧Blk w.heap.size 112 w' [.slice none 0 0,.slice none 0 0,.slice none 0 0]) 0 (Nat.zero_le _)
     ⟨rfl,[],zah bs 3 s,.slice none 0 0,w6.heap.size,Nat.zero_le _,rfl,by simp,hC7,hc07,hB7,o7,o8,hK,ze1 _ _ _ _,Nat.le_refl _,by omega,hB17⟩ ?_
 rintro k m u w8 hkm ⟨hu,ps,s1,vr,hi,hkl,hps,hdr,hC8,hc8,hB8,o7,o8,hK8,r8,hhi0,hhi,hB18⟩
 simp only [List.map_cons,List.map_nil,List.cons.injEq,and_true] at hu
 rw [hu]
 have hs8:=hc8.size
 refine zad u24 hK8.is ?_
 refine zai ?_
 refine br (fun hlt=>?_) (fun hge=>?_)
 · have hk:k<L.length:=by omega
   rw [zhb hk] at hdr
   obtain ⟨q1,q2,q3,q4⟩:=zmu bs s1
   refine ((zjN 2 (by omega)).2 hC8 rfl).mono ?_
   rintro v22 w9 ⟨hc9,hC9,r22⟩
   have hs9:=hc9.size
   refine ((zjN 1 (by omega)).2 hC9 rfl).mono ?_
   rintro v24 w10 ⟨hc10,hC10,r24⟩
   have hs10:=hc10.size
   refine zlb (α:=DStmt) zdm za8 zkZ (r22.chg hc10 (by omega)) (by omega) r24.own (by omega) (by omega) (by rw [zap];omega) (by omega) fun v25 w11 hc11 r25=>?_
   have hs11:=hc11.size
   have hC11:=hC10.chg hc11 (by omega) (by omega)
   have hu11:UpG g w8.heap.size w8 w11:=(hc9.upG1.trans hc10.upG1).trans (hc11.upG (by omega))
   refine JOIN.mk (fun us w'=>∃ v,us=[v]∧UpG g w8.heap.size w8 w'∧CurAt W g bs (zdY bs s1).2 w'∧OwnI w8.heap.size w'.heap.size w' v (zdY bs s1).1) ?_ ?_
   · refine (zgT _ r25.is (Ext.refl _) (by omega) (by omega)).mono ?_
     rintro _ w12 ⟨hx12,rfl⟩
     have hs12:=hx12.size
     refine zai ?_
     refine br (fun h0=>?_) (fun h0=>?_)
     · refine zhu (lo:=w12.heap.size) (hi:=w12.heap.size) (Nat.le_refl _) (by unfold I64;omega) fun v29 o29=>?_
       refine zef (α:=DStmt) (lo:=w12.heap.size) (hi:=w12.heap.size) zdm za8 zoD (by decide) o29 (by omega) fun v30 w13 hx13 o30=>?_
       refine ⟨v30,rfl,(hu11.trans hx12.upG).trans hx13.upG,hC11.ext (hx12.trans hx13),?_⟩
       unfold zdY
       rw [if_pos h0]
       exact o30.mono (by omega) (by omega)
     refine ⟨v25,rfl,hu11.trans hx12.upG,hC11.ext hx12,?_⟩
     unfold zdY
     rw [if_neg h0]
     exact (r25.ext hx12).own.mono (by omega) (by omega)
   rintro u9 w14 ⟨v14,hu,hu14,hC14,o14⟩
   simp only [List.map_cons,List.map_nil,List.cons.injEq,and_true] at hu
   rw [hu]
   have hs14:=hu14.size
   have hgw:g<w8.heap.size:=by omega
   refine JOIN.mk (fun us w'=>∃ v,us=[v]∧UpG g w8.heap.size w8 w'∧CurAt W g bs (zeG bs (zdY bs s1)).2 w'∧OwnI w8.heap.size w'.heap.size w' v (zeG bs (zdY bs s1)).1) ?_ ?_
   · refine (zei hC14 (by omega)).mono ?_
     rintro _ w15 ⟨hc15,hC15,rfl⟩
     have hs15:=hc15.size
     have o15:=o14.chg hc15 (by omega)
     refine br (fun h0=>?_) (fun h0=>?_)
     · refine (zie hC15 o15 (by omega) (by omega) hgw (by omega)).mono ?_
       rintro v35 w16 ⟨hu16,hC16,r16⟩
       refine ⟨v35,rfl,(hu14.trans hc15.upG1).trans hu16,?_,?_⟩
       · unfold zeG;rw [if_pos h0];exact hC16
       unfold zeG;rw [if_pos h0];exact r16.own
     refine ⟨v14,rfl,hu14.trans hc15.upG1,?_,?_⟩
     · unfold zeG;rw [if_neg h0];exact hC15
     unfold zeG;rw [if_neg h0];exact o15.mono (Nat.le_refl _) hs15
   rintro u11 w17 ⟨v17,hu,hu17,hC17,o17⟩
   simp only [List.map_cons,List.map_nil,List.cons.injEq,and_true] at hu
   rw [hu]
   have hs17:=hu17.size
   have hK17:=hK8.upG hu17 (by omega) (by omega)
   have hone:1<L.length:=by omega
   refine JOIN.mk (fun us w'=>∃ v,us=[v]∧UpG g w8.heap.size w8 w'∧CurAt W g bs (zgc bs k ((L.drop 1).getD 0 nO) (zeG bs (zdY bs s1))).2 w'∧OwnI w8.heap.size w'.heap.size w' v (zgc bs k ((L.drop 1).getD 0 nO) (zeG bs (zdY bs s1))).1) ?_ ?_
   · refine zag ?_
     refine br (fun hk0=>?_) (fun hk0=>?_)
     · have hk0':k=0:=by omega
       refine (zei hC17 (by omega)).mono ?_
       rintro _ w18 ⟨hc18,hC18,rfl⟩
       have hs18:=hc18.size
       have o18:=o17.chg hc18 (by omega)
       have hK18:=hK17.chgF hc18.toC (by simp;omega)
       refine br (fun h0=>?_) (fun h0=>?_)
       · refine zau (l:=L) (i:=1) u24 ty9 hK18.is (by omega) (by show 1<L.length;omega) fun b43 o43 hA43=>?_
         refine zam ty9 hA43 (Ext.refl _) fun hS44=>?_
         refine zbM (lo:=w18.heap.size) (hi:=w18.heap.size) (Nat.le_refl _) (by unfold I64;omega) hS44 fun v45 o45=>?_
         refine zfL (β:=DStmt) zdm za8 zoD (by decide) (zhx o45) fun v46 w19 hx19 r46=>?_
         have hs19:=hx19.size
         refine zfI (α:=DStmt) (lo0:=w8.heap.size) zdm za8 zkZ r46 (by omega) (o18.ext hx19) (by omega) (by omega) (by omega) (by rw [zap];simp;omega) (by simp;omega) fun v48 w20 hc20 r48=>?_
         refine ⟨v48,rfl,((hu17.trans hc18.upG1).trans hx19.upG).trans (hc20.upG (by omega)),?_,?_⟩
         · unfold zgc
           rw [if_pos hk0',if_pos h0]
           exact (hC18.ext hx19).chg hc20 (by omega) (by omega)
         unfold zgc
         rw [if_pos hk0',if_pos h0,zmv hone]
         exact r48.own
       refine ⟨v17,rfl,hu17.trans hc18.upG1,?_,?_⟩
       · unfold zgc;rw [if_pos hk0',if_neg h0];exact hC18
       unfold zgc;rw [if_pos hk0',if_neg h0];exact o18.mono (Nat.le_refl _) hs18
     have hk0':¬k=0:=by omega
     refine ⟨v17,rfl,hu17,?_,?_⟩
     · unfold zgc;rw [if_neg hk0'];exact hC17
     unfold zgc;rw [if_neg hk0'];exact o17
   rintro u13 w21 ⟨v21,hu,hu21,hC21,o21⟩
   simp only [List.map_cons,List.map_nil,List.cons.injEq,and_true] at hu
   rw [hu]
   have hs21:=hu21.size
   have hx22:=zaj w21
   have hs22:=hx22.size
   generalize World.drew1 w21=w22 at *
   have hu22:UpG g w8.heap.size w8 w22:=hu21.trans hx22.upG
   have hB22:=hB8.upG hu22 (by omega) (by omega)
   have hK22:=hK8.upG hu22 (by omega) (by omega)
   have r22:=r8.upG hu22 (by omega) (by omega)
   have o22:=o21.ext hx22
   have hC22:=hC21.ext hx22
   refine XR.mk (fun c=>c=g∨w8.heap.size≤c) ?_
   have hXK:∀ b,w5.heap.size≤b→b<w6.heap.size→¬(b=g∨w8.heap.size≤b):=fun b h1 h2=>by omega
   refine zeH zb4 ?_
   refine zgm zex (u:=vr) (fun j v hj=>?_) (by omega) ?_
   · have:=hB22.range 2 vr rfl
     match j,hj with
     | 0,hj=>simp at hj;subst hj;simpa using this
     | j+1,hj=>simp at hj
   obtain ⟨p53,hp53,hl53⟩:=znl (X:=fun c=>c=g∨w8.heap.size≤c) (K:=fun v=>L[k].size≤maxLen∧v=.string L[k]) hK22 hprl.symm hk hXK fun h=>⟨h,rfl⟩
   refine zkI hp53 ?_
   obtain ⟨v54,hv54,hS54,rfl⟩:=hl53
   refine RDX.mk _ hv54 ?_
   have hd1:∀ w':World,(Instr.sliceAt 24 (.slice a10 np cap10) (some (.int .i64 1)) none none).run Tryz.prog w'=.ok (.slice (if cap10=1 then a10 else a10.map (·.add (1*Rep.size ByteArray))) (np-1) (cap10-1)) w':=fun w'=>by
     obtain ⟨a',cap',Fi',xs',hv',z1,z2,_⟩:=zb1 hK22.is
     simp only [Value.slice.injEq] at hv'
     obtain ⟨rfl,_,rfl⟩:=hv'
     have hb:(Instr.sliceBounds true np cap10 (some (.int .i64 1)) none none).run Tryz.prog w'=.ok (1,np,cap10) w':=by
       have h1:(1:Int)≤(np:Int):=by omega
       simp [Instr.sliceBounds,Instr.sliceBound,asIntOf,h1]
     simp [Instr.sliceAt,Instr.slice,run_underlying u24,hb,zaC ty9]
     rfl
   refine zkI hd1 ?_
   have hK1:IsK w5.heap.size w6.heap.size w22 (.slice (if cap10=1 then a10 else a10.map (·.add (1*Rep.size ByteArray))) (np-1) (cap10-1)) (L.drop 1):=by
     have:=IsK.drop (l:=L) (k:=1) (by rw [hprl];exact hK22) (by omega)
     rwa [hprl] at this
   obtain ⟨F,hMF,hF⟩:=o22
   refine (zmi _ hC22 hMF (fun h=>by have:=hF g h;omega) (fun c hc=>by have:=hF c hc;omega) hK1 (by omega) (fun c hc=>by have:=hF c hc;omega) hp0 (by rw [List.length_drop];omega)).mono ?_
   rintro r59 w23 ⟨h59,hc23,hC23,F',hM23,hF'⟩
   rw [h59]
   have hs23:=hc23.size
   refine ⟨hc23.toX fun c hc=>?_,?_⟩
   · rcases List.mem_cons.1 hc with rfl | hc
     · exact .inl rfl
     exact .inr (hF c hc).1
   have hu23:UpG g w8.heap.size w22 w23:=hc23.upG fun c hc=>(hF c hc).1
   have o23:OwnI w8.heap.size w22.heap.size w23 v21 (zch bs (L.drop 1) k s1).1:=⟨F',hM23,fun c hc=>⟨(hF c (hF' c hc)).1,hMF.lt c (hF' c hc)⟩⟩
   obtain ⟨a21,c21,rfl⟩:=zds o23
   refine znh (fun w'=>zlg) ?_
   have o60:=zmm hS54 o23
   have hB23:=hB22.upG hu23 (by omega) (by omega)
   have r23:=r22.upG hu23 (by omega) (by omega)
   refine zhU (α:=DProc) zkm ziI zpK zpk (by decide) r23 (by omega) o60 (by omega) (by omega) (by rw [zap];omega) (by omega) (fun v62 w24 hc24 r24'=>?_) fun s' w' hx' h'=>⟨hx'.toX,h'⟩
   have hs24:=hc24.size
   refine zeH zb4 ?_
   have hB24:=hB23.chgI hc24 (by omega)
   refine zcI (α:=List DProc) zex rfl rfl hB24 (by simp) r24'.own fun w25 hc25 hB25=>?_
   have hs25:=hc25.size
   refine zak (by omega) ?_
   have hu25:UpG g w6.heap.size w8 w24:=((hu22.trans hu23).mono (by omega)).trans (hc24.upG (by omega))
   refine ⟨m-1,by omega,k+1,by omega,rfl,ps++[⟨L[k],(zch bs (L.drop 1) k s1).1⟩],(zch bs (L.drop 1) k s1).2,v62,w24.heap.size,by omega,by simp [hps],by rw [hdr];simp,?_,?_,hB25,?_,?_,?_,r24'.chg hc25 (by omega),by omega,by omega,?_⟩
   · exact (hC23.chg hc24 (by omega) (by omega)).chg hc25 (by omega) (by omega)
   · have h1:ChgI g (g+1) w w23:=hc8.trans ((hu22.trans hu23).toI (Nat.le_refl _))
     exact ChgI.out (ChgI.out h1 hc24 (by omega)) hc25 (by omega)
   · exact (o7.upG hu25 (by omega) (by omega)).chg hc25 (by omega)
   · exact (o8.upG hu25 (by omega) (by omega)).chg hc25 (by omega)
   · exact (hK8.upG hu25 (Nat.le_refl _) (by omega)).chgF hc25.toC (by simp;omega)
   exact (hB18.upG hu25 (by omega) (by omega)).chgI hc25 (by omega)
 have hk:k=L.length:=by omega
 subst hk
 rw [List.drop_length,zaR] at hdr
 simp only [List.append_nil] at hdr
 have hpe:zbS bs s=(⟨glb,lks,ps⟩,s1):=by
   unfold zbS
   rw [←hL,hdr]
 rw [hpe]
 refine zfG hB8 zdV ?_
 have ost:OwnI w1.heap.size w8.heap.size w8 (.agg #[.slice a7 glb.length cap7,.slice a8 lks.length cap8,vr]) (⟨glb,lks,ps⟩:DProg):=
   zi3 (l0:=w1.heap.size) (h0:=w2.heap.size) (l1:=w2.heap.size) (h1:=w3.heap.size) (l2:=w6.heap.size) (h2:=hi) o7 o8 r8.own (by omega) (by omega) (by omega) (by omega) (by omega) (by omega)
 refine zbo zdV rfl hB18 rfl ost fun w9 hc9 hB9=>?_
 have hs9:=hc9.size
 refine zdb hB9 zdV ?_
 exact ⟨ChgI.out hc8 hc9 (Nat.le_refl _),hC8.chg hc9 (by omega) (by omega),(ost.chg hc9 (by omega)).mono (by omega) (by omega)⟩
theorem CodeR.f {c:DCode} (h:CodeR c):EntF c:=h.2.1.f h.1.procs8.2
def F105 (a0 a1:Value) (w:World) (R:VW):Prop:=
 oP (Instr.box 28 a0) w fun x2 w=>
 rB .geq 3 T0 U0 a1 (iV 0) w fun x6=>
 BR x6
 (rF 28 x2 4 w fun x9=>
 rL 26 x9 w fun x10=>
 rN 26 3 x10 w fun x11=>
 rC a1 x11 w fun x12=>
 R x12 w)
 (R (Value.bool false) w)
def cfg105:Cfg:=⟨extL,[],[],[],[],[],[]⟩
theorem F105_call {a0 a1:Value} {w:World} {R:VW} (h:F105 a0 a1 w R):cL 105 [a0,a1] w R:=co (g:=cfg105) Tryz.func105 (by kernel_rfl) (by kernel_rfl) (by kernel_rfl) h
theorem zfR {w:World} {v0:Value} {W0:World} {c:DCode} {a:Int}  (h0:Is W0 v0 c) (e0:Ext W0 w)  :
   CALL Tryz.prog 105 [v0,.int .i64 a] w fun r w'=>Ext w w'∧(r=.bool (decide (0≤a∧a<c.ins.length))):=by
 refine F105_call ?_
 unfold F105
 refine zan zcD rfl h0 e0 fun w1_ hx1_ hA2 hV2=>?_
 refine zbI ?_
 refine br (fun c1=>?_) (fun c1=>?_)
 · refine zaa zbk ?_
   refine zab zdT (zat hA2) (Ext.refl w1_) fun v10 h10=>?_
   have hln11:=zae h10
   refine zad u26 h10 ?_
   refine zai ?_
   refine ⟨hx1_,?_⟩
   simp [c1]
 refine ⟨hx1_,?_⟩
 simp [c1]
def F208 (a0 a1:Value) (w:World) (R:VW):Prop:=
 oP (Instr.box 28 a0) w fun x2 w=>
 LOOPI [5] [(iV 0)] w fun u2 w next2=>
 rA (u2 5) (iV 1) w fun x7=>
 rF 28 x2 3 w fun x8=>
 rL 25 x8 w fun x9=>
 rN 25 3 x9 w fun x10=>
 rC x7 x10 w fun x11=>
 BR x11
 (rF 28 x2 3 w fun x13=>
 rL 25 x13 w fun x14=>
 rA (u2 5) (iV 1) w fun x16=>
 rX 25 x14 x16 w fun x17=>
 rL 3 x17 w fun x18=>
 rB .leq 3 T0 T0 x18 a1 w fun x20=>
 BR x20
 (rA (u2 5) (iV 1) w fun x23=>
 next2 [x23] w)
 (R (u2 5) w))
 (R (u2 5) w)
def cfg208:Cfg:=⟨extL,[],[(2,16777184,[5])],[],[],[],[]⟩
theorem F208_call {a0 a1:Value} {w:World} {R:VW} (h:F208 a0 a1 w R):cL 208 [a0,a1] w R:=co (g:=cfg208) Tryz.func208 (by kernel_rfl) (by kernel_rfl) (by kernel_rfl) h
theorem zmw {w:World} {v0:Value} {W0:World} {c:DCode} {a:Int}  (h0:Is W0 v0 c) (e0:Ext W0 w) (hc:CodeR c) (ha:0≤a) (ha2:a<c.ins.length) :
   CALL Tryz.prog 208 [v0,.int .i64 a] w fun r w'=>Ext w w'∧(r=.int .i64 (zay c a)):=by
 refine F208_call ?_
 unfold F208
 have hf:=hc.f
 have h8:=hc.1.procs8
 have hl:=hf.len
 refine zan zcD rfl h0 e0 fun w1_ hx1_ hA2 hV2=>?_
 refine zaI (c.entry.length-1) (fun k us w'=>us=[.int .i64 (k:Int)]∧Ext w1_ w'∧(en c k≤a)) (0) (by omega) ⟨by simp,Ext.refl w1_,by rw [hf.zero];exact ha⟩ ?_
 rintro k m2 uu2 w2_ hk2 ⟨hu,hx2_,hinv⟩
 simp only [List.map_cons,List.map_nil,List.cons.injEq,and_true] at hu
 try rw [hu]
 try clear hu
 refine zak (by omega) ?_
 refine zaa za1 ?_
 refine zab zba (zao hA2) hx2_ fun v9 h9=>?_
 have hln10:=zae h9
 refine zad u25 h9 ?_
 refine zai ?_
 refine br (fun c1=>?_) (fun c1=>?_)
 · refine zaa za1 ?_
   refine zab zba (zao hA2) hx2_ fun v14 h14=>?_
   refine zak (by omega) ?_
   refine zaf u25 ty3 h14 (by omega) fun b17 o17 h17=>?_
   refine zac ty3 h17 hx2_ fun hI18=>?_
   refine zcN ?_
   refine br (fun c2=>?_) (fun c2=>?_)
   · refine zak (by omega) ?_
     refine ⟨m2-1,by omega,k+1,by omega,by simp,hx2_,?_⟩
     rwa [zbx] at c2
   refine ⟨(hx1_.trans hx2_),?_⟩
   rw [zbx] at c2
   rw [hf.proc (i:=k) (by omega) hinv (by rw [hf.step (by omega)];omega)]
 refine ⟨(hx1_.trans hx2_),?_⟩
 rw [hf.proc (i:=k) (by omega) hinv (by rw [hf.last (by omega)];omega)]
def st (l:List Int) (i:Nat):Int:=l.getD i 0
theorem zd2 {l:List Int} {i:Nat} (h:i<l.length):l[i]=st l i:=by unfold st;rw [List.getD_eq_getElem?_getD,List.getElem?_eq_getElem h];rfl
def zbb (c:DCode) (l:List Int):Prop:=l.length≤8∧(∀ i,i<l.length→0≤st l i∧st l i<c.ins.length) ∧
 ∀ i,i<l.length-1→(zbe c (st l i).toNat).op=4∧zay c (st l (i+1))=(zbe c (st l i).toNat).arg
instance (c:DCode) (l:List Int):Decidable (zbb c l):=by unfold zbb;infer_instance
def F207 (a0 a1:Value) (w:World) (R:VW):Prop:=
 oP (Instr.box 28 a0) w fun x2 w=>
 rN 25 3 a1 w fun x9=>
 rB .gtr 3 T0 U0 x9 (iV 8) w fun x10=>
 BR x10
 (R (Value.bool false) w)
 (LOOPI [5] [(iV 0)] w fun u4 w next4=>
 rN 25 3 a1 w fun x13=>
 rC (u4 5) x13 w fun x14=>
 BR x14
 ((fun w=>rX 25 a1 (u4 5) w fun x19=>
 rL 3 x19 w fun x20=>
 rF 28 x2 4 w fun x21=>
 rL 26 x21 w fun x22=>
 rN 26 3 x22 w fun x23=>
 rB .sub 3 T0 U0 x23 (iV 1) w fun x24=>
 cL 100 [x20,(iV 0),x24] w fun x25 w=>
 rD (Op.unary .not x25) w fun x26=>
 BR x26
 (R (Value.bool false) w)
 (rA (u4 5) (iV 1) w fun x16=>
 next4 [x16] w)) (World.drew1 w))
 (LOOPI [6] [(iV 0)] w fun u9 w next9=>
 rA (u9 6) (iV 1) w fun x28=>
 rN 25 3 a1 w fun x30=>
 rC x28 x30 w fun x31=>
 BR x31
 ((fun w=>rF 28 x2 4 w fun x34=>
 rL 26 x34 w fun x35=>
 rX 25 a1 (u9 6) w fun x38=>
 rL 3 x38 w fun x39=>
 rX 26 x35 x39 w fun x40=>
 rL 77 x40 w fun x41=>
 (fun w_=>oP (Instr.alloc 77 true (.tuple #[])) w_ fun x7 w=>
 Ext w_ w ∧
 (oS 77 x7 x41 w fun w=>
 (fun w=>rF 77 x7 0 w fun x42=>
 rL 3 x42 w fun x43=>
 rB .neq 3 T0 U0 x43 (iV 4) w fun x44=>
 BR x44
 (R (Value.bool false) w)
 (rL 28 x2 w fun x46=>
 rA (u9 6) (iV 1) w fun x49=>
 rX 25 a1 x49 w fun x50=>
 rL 3 x50 w fun x51=>
 rF 77 x7 1 w fun x53=>
 rL 3 x53 w fun x54=>
 (fun w_=>cL 194 [x46,x51] w_ fun x52 w=>
 Ext w_ w ∧
 rB .neq 3 T0 T0 x52 x54 w fun x55=>
 BR x55
 (R (Value.bool false) w)
 (rA (u9 6) (iV 1) w fun x33=>
 next9 [x33] w)) w)) (World.drew1 w))) w) (World.drew1 w))
 (R (Value.bool true) w)))
def cfg207:Cfg:=⟨extL,[],[(4,134215728,[5]),(9,144115187941638352,[6])],[(6,[0,1,2,3,4,5,6,7,8,9],0),(11,[0,1,2,3,4,5,6,7,8,9],256),(12,[0,1,2,3,4,5,6,7,8,9,11,12,10,13,14],1024)],[],[],[]⟩
theorem F207_call {a0 a1:Value} {w:World} {R:VW} (h:F207 a0 a1 w R):cL 207 [a0,a1] w R:=co (g:=cfg207) Tryz.func207 (by kernel_rfl) (by kernel_rfl) (by kernel_rfl) h
theorem zjX {w:World} {v0:Value} {W0:World} {c:DCode} {v1:Value} {W1:World} {l:(List Int)}  (h0:Is W0 v0 c) (e0:Ext W0 w) (h1:Is W1 v1 l) (e1:Ext W1 w)  :
   CALL Tryz.prog 207 [v0,v1] w fun r w'=>Ext w w'∧(r=.bool (decide (zbb c l))):=by
 refine F207_call ?_
 unfold F207
 have hln:=zae h1
 refine zan zcD rfl h0 e0 fun w1_ hx1_ hA2 hV2=>?_
 have hln9:=zae h1
 refine zad u25 h1 ?_
 refine zb5 ?_
 refine br (fun c1=>?_) (fun c1=>?_)
 · refine ⟨hx1_,?_⟩
   have:¬zbb c l:=fun h=>by have:=h.1;omega
   simp only [this,decide_false]
 refine zaI (l.length) (fun k us w'=>us=[.int .i64 (k:Int)]∧Ext w1_ w'∧(∀ i,i<k→0≤st l i∧st l i<c.ins.length)) (0) (by omega) ⟨by simp,Ext.refl w1_,fun i h=>by omega⟩ ?_
 rintro k m4 uu4 w2_ hk4 ⟨hu,hx2_,hpl⟩
 simp only [List.map_cons,List.map_nil,List.cons.injEq,and_true] at hu
 try rw [hu]
 try clear hu
 have hln13:=zae h1
 refine zad u25 h1 ?_
 refine zai ?_
 refine br (fun c2=>?_) (fun c2=>?_)
 · have hx3_:=zaj w2_
   refine zaf u25 ty3 h1 (by omega) fun b19 o19 h19=>?_
   refine zac ty3 h19 (e1.trans (hx1_.trans (hx2_.trans hx3_))) fun hI20=>?_
   refine zaa zbk ?_
   refine zab zdT (zat hA2) (hx2_.trans hx3_) fun v22 h22=>?_
   have hln23:=zae h22
   refine zad u26 h22 ?_
   refine zaX (by unfold I64;have:=zae h22;omega) ?_
   refine (zco ).mono ?_
   rintro _ w4_ ⟨hx4_,rfl⟩
   refine zas ?_
   refine br (fun c3=>?_) (fun c3=>?_)
   · refine ⟨(hx1_.trans (hx2_.trans (hx3_.trans hx4_))),?_⟩
     rw [zd2] at c3
     have:¬zbb c l:=fun h=>c3 (by have:=h.2.1 k (by omega);omega)
     simp only [this,decide_false]
   refine zak (by omega) ?_
   refine ⟨m4-1,by omega,k+1,by omega,by simp,(hx2_.trans (hx3_.trans hx4_)),?_⟩
   rw [zd2] at c3
   exact zcG hpl (by omega)
 refine zaI (l.length) (fun q us w'=>us=[.int .i64 (q:Int)]∧Ext w2_ w'∧(∀ i,i<q→(zbe c (st l i).toNat).op=4∧zay c (st l (i+1))=(zbe c (st l i).toNat).arg)) (0) (by omega) ⟨by simp,Ext.refl w2_,fun i h=>by omega⟩ ?_
 rintro q m9 uu9 w5_ hk9 ⟨hu,hx5_,hinv⟩
 simp only [List.map_cons,List.map_nil,List.cons.injEq,and_true] at hu
 try rw [hu]
 try clear hu
 refine zak (by omega) ?_
 have hln30:=zae h1
 refine zad u25 h1 ?_
 refine zai ?_
 refine br (fun c4=>?_) (fun c4=>?_)
 · have hx6_:=zaj w5_
   refine zaa zbk ?_
   refine zab zdT (zat hA2) (hx2_.trans (hx5_.trans hx6_)) fun v35 h35=>?_
   refine zaf u25 ty3 h1 (by omega) fun b38 o38 h38=>?_
   refine zac ty3 h38 (e1.trans (hx1_.trans (hx2_.trans (hx5_.trans hx6_)))) fun hI39=>?_
   rw [zd2]
   have hst:=hpl q (by omega)
   refine zau u26 zfp h35 (by omega) (by omega) fun b40 o40 h40=>?_
   refine zab zfp h40 (hx2_.trans (hx5_.trans hx6_)) fun v41 h41=>?_
   rw [za2] at h41
   refine zlF zoQ rfl zfp rfl h41 (hx2_.trans (hx5_.trans hx6_)) fun w7_ hx7_ hA7 hV7=>?_
   have hx8_:=zaj w7_
   refine zaa zbU ?_
   refine zac ty3 (zaH hA7) hx8_ fun hI43=>?_
   refine zaQ ?_
   refine br (fun c5=>?_) (fun c5=>?_)
   · refine ⟨(hx1_.trans (hx2_.trans (hx5_.trans (hx6_.trans (hx7_.trans hx8_))))),?_⟩
     have:¬zbb c l:=fun h=>c5 (h.2.2 q (by omega)).1
     simp only [this,decide_false]
   refine zar hV2 (hx2_.trans (hx5_.trans (hx6_.trans (hx7_.trans hx8_)))) ?_
   refine zak (by omega) ?_
   refine zaf u25 ty3 h1 (by omega) fun b50 o50 h50=>?_
   refine zac ty3 h50 (e1.trans (hx1_.trans (hx2_.trans (hx5_.trans (hx6_.trans (hx7_.trans hx8_)))))) fun hI51=>?_
   refine zaa zdl ?_
   refine zac ty3 (zbq hA7) hx8_ fun hI54=>?_
   refine (zfw h0 (e0.trans (hx1_.trans (hx2_.trans (hx5_.trans (hx6_.trans (hx7_.trans hx8_))))))).mono ?_
   rintro _ w9_ ⟨hx9_,rfl⟩
   refine ⟨hx9_,?_⟩
   refine zaQ ?_
   refine br (fun c6=>?_) (fun c6=>?_)
   · refine ⟨(hx1_.trans (hx2_.trans (hx5_.trans (hx6_.trans (hx7_.trans (hx8_.trans hx9_)))))),?_⟩
     rw [zd2] at c6
     have:¬zbb c l:=fun h=>c6 (h.2.2 q (by omega)).2
     simp only [this,decide_false]
   refine zak (by omega) ?_
   refine ⟨m9-1,by omega,q+1,by omega,by simp,(hx5_.trans (hx6_.trans (hx7_.trans (hx8_.trans hx9_)))),?_⟩
   rw [zd2] at c6
   exact zcG hinv ⟨Decidable.not_not.1 c5,Decidable.not_not.1 c6⟩
 refine ⟨(hx1_.trans (hx2_.trans hx5_)),?_⟩
 have:zbb c l:=⟨by omega,fun i hi=>hpl i (by omega),fun i hi=>hinv i (by omega)⟩
 simp only [this,decide_true]
def F137 (a0 a1:Value) (w:World) (R:VW):Prop:=
 oP (Instr.box 28 a0) w fun x2 w=>
 rN 25 3 a1 w fun x8=>
 rB .gtr 3 T0 U0 x8 (iV 8) w fun x9=>
 BR x9
 (R (Value.bool false) w)
 (rN 25 3 a1 w fun x11=>
 LOOPI [12] [(iV 0)] w fun u4 w next4=>
 rC (u4 12) x11 w fun x13=>
 BR x13
 (rX 25 a1 (u4 12) w fun x15=>
 rL 3 x15 w fun x16=>
 rL 28 x2 w fun x17=>
 cL 105 [x17,x16] w fun x19 w=>
 rD (Op.unary .not x19) w fun x20=>
 BR x20
 (R (Value.bool false) w)
 (rA (u4 12) (iV 1) w fun x22=>
 rN 25 3 a1 w fun x24=>
 rB .eql 3 T0 T0 x22 x24 w fun x25=>
 BR x25
 (R (Value.bool true) w)
 ((fun w=>rF 28 x2 4 w fun x26=>
 rL 26 x26 w fun x27=>
 rX 26 x27 x16 w fun x29=>
 rF 77 x29 0 w fun x30=>
 rL 3 x30 w fun x31=>
 rB .neq 3 T0 U0 x31 (iV 4) w fun x32=>
 BR x32
 (R (Value.bool false) w)
 (rL 28 x2 w fun x34=>
 rA (u4 12) (iV 1) w fun x37=>
 rX 25 a1 x37 w fun x38=>
 rL 3 x38 w fun x39=>
 cL 105 [x34,x39] w fun x40 w=>
 rD (Op.unary .not x40) w fun x41=>
 BR x41
 (R (Value.bool false) w)
 (rL 28 x2 w fun x44=>
 rA (u4 12) (iV 1) w fun x47=>
 rX 25 a1 x47 w fun x48=>
 rL 3 x48 w fun x49=>
 rF 28 x2 4 w fun x51=>
 rL 26 x51 w fun x52=>
 rX 26 x52 x16 w fun x54=>
 rF 77 x54 1 w fun x55=>
 rL 3 x55 w fun x56=>
 (fun w_=>cL 208 [x44,x49] w_ fun x50 w=>
 Ext w_ w ∧
 rB .neq 3 T0 T0 x50 x56 w fun x57=>
 BR x57
 (R (Value.bool false) w)
 (rA (u4 12) (iV 1) w fun x59=>
 next4 [x59] w)) w))) (World.drew1 w))))
 (R (Value.bool true) w))
def cfg137:Cfg:=⟨extL,[],[(4,1152921504606842992,[12])],[(9,[0,1,2,3,4,5,6,7,8,9,10,11,12,13,14,15,16,17,18,19,20,21,22,23,25,26,27,28,29,30,24,31,32],16777216)],[],[],[]⟩
theorem F137_call {a0 a1:Value} {w:World} {R:VW} (h:F137 a0 a1 w R):cL 137 [a0,a1] w R:=co (g:=cfg137) Tryz.func137 (by kernel_rfl) (by kernel_rfl) (by kernel_rfl) h
theorem zig {w:World} {v0:Value} {W0:World} {c:DCode} {v1:Value} {W1:World} {l:(List Int)}  (h0:Is W0 v0 c) (e0:Ext W0 w) (h1:Is W1 v1 l) (e1:Ext W1 w) (hc:CodeR c) :
   CALL Tryz.prog 137 [v0,v1] w fun r w'=>Ext w w'∧(r=.bool (decide (zbb c l))):=by
 refine F137_call ?_
 unfold F137
 have hln:=zae h1
 refine zan zcD rfl h0 e0 fun w1_ hx1_ hA2 hV2=>?_
 have hln8:=zae h1
 refine zad u25 h1 ?_
 refine zb5 ?_
 refine br (fun c1=>?_) (fun c1=>?_)
 · refine ⟨hx1_,?_⟩
   have:¬zbb c l:=fun h=>by have:=h.1;omega
   simp only [this,decide_false]
 have hln11:=zae h1
 refine zad u25 h1 ?_
 refine zaI (l.length) (fun k us w'=>us=[.int .i64 (k:Int)]∧Ext w1_ w'∧(k≤l.length-1∧(∀ i,i<k→0≤st l i∧st l i<c.ins.length)∧∀ i,i<k→(zbe c (st l i).toNat).op=4∧zay c (st l (i+1))=(zbe c (st l i).toNat).arg)) (0) (by omega) ⟨by simp,Ext.refl w1_,by omega,fun i h=>by omega,fun i h=>by omega⟩ ?_
 rintro k m4 uu4 w2_ hk4 ⟨hu,hx2_,hkl,hpl,hop⟩
 simp only [List.map_cons,List.map_nil,List.cons.injEq,and_true] at hu
 try rw [hu]
 try clear hu
 refine zai ?_
 refine br (fun c2=>?_) (fun c2=>?_)
 · refine zaf u25 ty3 h1 (by omega) fun b15 o15 h15=>?_
   refine zac ty3 h15 (e1.trans (hx1_.trans hx2_)) fun hI16=>?_
   rw [zd2]
   refine zar hV2 hx2_ ?_
   refine (zfR h0 (e0.trans (hx1_.trans hx2_))).mono ?_
   rintro _ w3_ ⟨hx3_,rfl⟩
   refine zas ?_
   refine br (fun c3=>?_) (fun c3=>?_)
   · refine ⟨(hx1_.trans (hx2_.trans hx3_)),?_⟩
     have:¬zbb c l:=fun h=>c3 (by have:=h.2.1 k (by omega);omega)
     simp only [this,decide_false]
   refine zak (by omega) ?_
   have hln24:=zae h1
   refine zad u25 h1 ?_
   refine zag ?_
   refine br (fun c4=>?_) (fun c4=>?_)
   · refine ⟨(hx1_.trans (hx2_.trans hx3_)),?_⟩
     have:zbb c l:=⟨by omega,fun i hi=>by
         by_cases e:i=k
         · subst e;omega
         exact hpl i (by omega),fun i hi=>hop i (by omega)⟩
     simp only [this,decide_true]
   have hx4_:=zaj w3_
   refine zaa zbk ?_
   refine zab zdT (zat hA2) (hx2_.trans (hx3_.trans hx4_)) fun v27 h27=>?_
   have hst1:0≤st l k∧st l k<c.ins.length:=by omega
   refine zau u26 zfp h27 (by omega) (by omega) fun b29 o29 h29=>?_
   refine zaa zbU ?_
   refine zac ty3 (zaH h29) (hx2_.trans (hx3_.trans hx4_)) fun hI31=>?_
   refine zaQ ?_
   refine br (fun c5=>?_) (fun c5=>?_)
   · refine ⟨(hx1_.trans (hx2_.trans (hx3_.trans hx4_))),?_⟩
     rw [za2] at c5
     have:¬zbb c l:=fun h=>c5 (h.2.2 k (by omega)).1
     simp only [this,decide_false]
   refine zar hV2 (hx2_.trans (hx3_.trans hx4_)) ?_
   refine zak (by omega) ?_
   refine zaf u25 ty3 h1 (by omega) fun b38 o38 h38=>?_
   refine zac ty3 h38 (e1.trans (hx1_.trans (hx2_.trans (hx3_.trans hx4_)))) fun hI39=>?_
   refine (zfR h0 (e0.trans (hx1_.trans (hx2_.trans (hx3_.trans hx4_))))).mono ?_
   rintro _ w5_ ⟨hx5_,rfl⟩
   refine zas ?_
   refine br (fun c6=>?_) (fun c6=>?_)
   · refine ⟨(hx1_.trans (hx2_.trans (hx3_.trans (hx4_.trans hx5_)))),?_⟩
     rw [zd2] at c6
     have:¬zbb c l:=fun h=>c6 (by have:=h.2.1 (k+1) (by omega);omega)
     simp only [this,decide_false]
   refine zar hV2 (hx2_.trans (hx3_.trans (hx4_.trans hx5_))) ?_
   refine zak (by omega) ?_
   refine zaf u25 ty3 h1 (by omega) fun b48 o48 h48=>?_
   refine zac ty3 h48 (e1.trans (hx1_.trans (hx2_.trans (hx3_.trans (hx4_.trans hx5_))))) fun hI49=>?_
   refine zaa zbk ?_
   refine zab zdT (zat hA2) (hx2_.trans (hx3_.trans (hx4_.trans hx5_))) fun v52 h52=>?_
   refine zau u26 zfp h52 (by omega) (by omega) fun b54 o54 h54=>?_
   refine zaa zdl ?_
   refine zac ty3 (zbq h54) (hx2_.trans (hx3_.trans (hx4_.trans hx5_))) fun hI56=>?_
   rw [zd2] at c6
   rw [zd2]
   refine (zmw h0 (e0.trans (hx1_.trans (hx2_.trans (hx3_.trans (hx4_.trans hx5_))))) (by assumption) (by omega) (by omega)).mono ?_
   rintro _ w6_ ⟨hx6_,rfl⟩
   refine ⟨hx6_,?_⟩
   refine zaQ ?_
   refine br (fun c7=>?_) (fun c7=>?_)
   · refine ⟨(hx1_.trans (hx2_.trans (hx3_.trans (hx4_.trans (hx5_.trans hx6_))))),?_⟩
     rw [za2] at c7
     have:¬zbb c l:=fun h=>c7 (h.2.2 k (by omega)).2
     simp only [this,decide_false]
   refine zak (by omega) ?_
   refine ⟨m4-1,by omega,k+1,by omega,by simp,(hx2_.trans (hx3_.trans (hx4_.trans (hx5_.trans hx6_)))),?_⟩
   rw [za2] at c7 c5
   exact ⟨by omega,zcG hpl hst1,zcG hop ⟨Decidable.not_not.1 c5,Decidable.not_not.1 c7⟩⟩
 refine ⟨(hx1_.trans hx2_),?_⟩
 have:zbb c l:=⟨by omega,fun i hi=>hpl i (by omega),fun i hi=>hop i (by omega)⟩
 simp only [this,decide_true]
def zaB (c:DCode) (s:DState):Prop:=s.vars.length=c.globals.length∧s.owner.length=c.locks.length∧(1≤s.stacks.length∧s.stacks.length≤6)∧(∀ v∈s.vars,0≤v∧v≤999) ∧
 (∀ o∈s.owner,-1≤o∧o<s.stacks.length)∧∀ l∈s.stacks,zbb c l
instance (c:DCode) (s:DState):Decidable (zaB c s):=by unfold zaB;infer_instance
theorem zel {α:Type} {P:α→Prop} {l:List α} {k:Nat} (hk:k<l.length) (h:∀ x∈l.take k,P x) (hp:P l[k]):∀ x∈l.take (k+1),P x:=by
 intro x hx
 rw [List.take_succ_eq_append_getElem hk] at hx
 rcases List.mem_append.1 hx with hx | hx
 · exact h x hx
 simp only [List.mem_cons,List.not_mem_nil,or_false] at hx
 subst hx;exact hp
theorem zfS {α:Type} {P:α→Prop} {l:List α} {k:Nat} (hk:l.length≤k) (h:∀ x∈l.take k,P x):∀ x∈l,P x:=by
 rwa [List.take_of_length_le hk] at h
def F135 (a0 a1:Value) (w:World) (R:VW):Prop:=
 oP (Instr.box 28 a0) w fun x2 w=>
 oP (Instr.box 33 a1) w fun x3 w=>
 rF 33 x3 0 w fun x8=>
 rL 25 x8 w fun x9=>
 rN 25 3 x9 w fun x10=>
 rF 28 x2 0 w fun x11=>
 rL 24 x11 w fun x12=>
 rN 24 3 x12 w fun x13=>
 rB .neq 3 T0 T0 x10 x13 w fun x14=>
 BR x14
 (R (Value.bool false) w)
 (rF 33 x3 1 w fun x16=>
 rL 25 x16 w fun x17=>
 rN 25 3 x17 w fun x18=>
 rF 28 x2 1 w fun x19=>
 rL 24 x19 w fun x20=>
 rN 24 3 x20 w fun x21=>
 rB .neq 3 T0 T0 x18 x21 w fun x22=>
 BR x22
 (R (Value.bool false) w)
 (rF 33 x3 2 w fun x25=>
 rL 31 x25 w fun x26=>
 rN 31 3 x26 w fun x27=>
 cL 100 [x27,(iV 1),(iV 6)] w fun x28 w=>
 rD (Op.unary .not x28) w fun x29=>
 BR x29
 (R (Value.bool false) w)
 (LOOPI [5] [(iV 0)] w fun u4 w next4=>
 rF 33 x3 0 w fun x32=>
 rL 25 x32 w fun x33=>
 rN 25 3 x33 w fun x34=>
 rC (u4 5) x34 w fun x35=>
 BR x35
 (rF 33 x3 0 w fun x38=>
 rL 25 x38 w fun x39=>
 rX 25 x39 (u4 5) w fun x41=>
 rL 3 x41 w fun x42=>
 cL 100 [x42,(iV 0),(iV 999)] w fun x43 w=>
 rD (Op.unary .not x43) w fun x44=>
 BR x44
 (R (Value.bool false) w)
 (rA (u4 5) (iV 1) w fun x37=>
 next4 [x37] w))
 (LOOPI [6] [(iV 0)] w fun u9 w next9=>
 rF 33 x3 1 w fun x46=>
 rL 25 x46 w fun x47=>
 rN 25 3 x47 w fun x48=>
 rC (u9 6) x48 w fun x49=>
 BR x49
 ((fun w=>rF 33 x3 1 w fun x52=>
 rL 25 x52 w fun x53=>
 rX 25 x53 (u9 6) w fun x55=>
 rL 3 x55 w fun x56=>
 rF 33 x3 2 w fun x57=>
 rL 31 x57 w fun x58=>
 rN 31 3 x58 w fun x59=>
 rB .sub 3 T0 U0 x59 (iV 1) w fun x60=>
 cL 100 [x56,(iV (-1)),x60] w fun x61 w=>
 rD (Op.unary .not x61) w fun x62=>
 BR x62
 (R (Value.bool false) w)
 (rA (u9 6) (iV 1) w fun x51=>
 next9 [x51] w)) (World.drew1 w))
 (LOOPI [7] [(iV 0)] w fun u14 w next14=>
 rF 33 x3 2 w fun x64=>
 rL 31 x64 w fun x65=>
 rN 31 3 x65 w fun x66=>
 rC (u14 7) x66 w fun x67=>
 BR x67
 ((fun w=>rL 28 x2 w fun x70=>
 rF 33 x3 2 w fun x71=>
 rL 31 x71 w fun x72=>
 rX 31 x72 (u14 7) w fun x74=>
 rL 25 x74 w fun x75=>
 cL 207 [x70,x75] w fun x76 w=>
 rD (Op.unary .not x76) w fun x77=>
 BR x77
 (R (Value.bool false) w)
 (rA (u14 7) (iV 1) w fun x69=>
 next14 [x69] w)) (World.drew1 w))
 (R (Value.bool true) w))))))
def cfg135:Cfg:=⟨extL,[],[(4,35182224605232,[5]),(9,9223336852482687056,[6]),(14,302222231531620438900880,[7])],[(11,[0,1,2,3,4,5,6,7,8,9,10],0),(16,[0,1,2,3,4,5,6,7],0)],[],[],[]⟩
theorem F135_call {a0 a1:Value} {w:World} {R:VW} (h:F135 a0 a1 w R):cL 135 [a0,a1] w R:=co (g:=cfg135) Tryz.func135 (by kernel_rfl) (by kernel_rfl) (by kernel_rfl) h
theorem zjY {w:World} {v0:Value} {W0:World} {c:DCode} {v1:Value} {W1:World} {s:DState}  (h0:Is W0 v0 c) (e0:Ext W0 w) (h1:Is W1 v1 s) (e1:Ext W1 w)  :
   CALL Tryz.prog 135 [v0,v1] w fun r w'=>Ext w w'∧(r=.bool (decide (zaB c s))):=by
 refine F135_call ?_
 unfold F135
 refine zan zcD rfl h0 e0 fun w1_ hx1_ hA2 hV2=>?_
 refine zan zcj rfl h1 (e1.trans hx1_) fun w2_ hx2_ hA3 hV3=>?_
 refine zaa zeY ?_
 refine zab zba (zbJ hA3) (Ext.refl w2_) fun v9 h9=>?_
 have hln10:=zae h9
 refine zad u25 h9 ?_
 refine zaa zcP ?_
 refine zab zcv (zaS hA2) hx2_ fun v12 h12=>?_
 have hln13:=zae h12
 refine zad u24 h12 ?_
 refine zaQ ?_
 refine br (fun c1=>?_) (fun c1=>?_)
 · refine ⟨(hx1_.trans hx2_),?_⟩
   have:¬zaB c s:=fun h=>by have:=h.1;omega
   simp only [this,decide_false]
 refine zaa zcR ?_
 refine zab zba (zbi hA3) (Ext.refl w2_) fun v17 h17=>?_
 have hln18:=zae h17
 refine zad u25 h17 ?_
 refine zaa zdU ?_
 refine zab zcv (zbr hA2) hx2_ fun v20 h20=>?_
 have hln21:=zae h20
 refine zad u24 h20 ?_
 refine zaQ ?_
 refine br (fun c2=>?_) (fun c2=>?_)
 · refine ⟨(hx1_.trans hx2_),?_⟩
   have:¬zaB c s:=fun h=>by have:=h.2.1;omega
   simp only [this,decide_false]
 refine zaa zaZ ?_
 refine zab zee (zaq hA3) (Ext.refl w2_) fun v26 h26=>?_
 have hln27:=zae h26
 refine zad u31 h26 ?_
 refine (zco ).mono ?_
 rintro _ w3_ ⟨hx3_,rfl⟩
 refine zas ?_
 refine br (fun c3=>?_) (fun c3=>?_)
 · refine ⟨(hx1_.trans (hx2_.trans hx3_)),?_⟩
   have:¬zaB c s:=fun h=>by have:=h.2.2.1;omega
   simp only [this,decide_false]
 refine zaI (s.vars.length) (fun k us w'=>us=[.int .i64 (k:Int)]∧Ext w3_ w'∧(∀ v∈s.vars.take k,0≤v∧v≤999)) (0) (by omega) ⟨by simp,Ext.refl w3_,by simp⟩ ?_
 rintro k m4 uu4 w4_ hk4 ⟨hu,hx4_,hv1⟩
 simp only [List.map_cons,List.map_nil,List.cons.injEq,and_true] at hu
 try rw [hu]
 try clear hu
 refine zaa zeY ?_
 refine zab zba (zbJ hA3) (hx3_.trans hx4_) fun v33 h33=>?_
 have hln34:=zae h33
 refine zad u25 h33 ?_
 refine zai ?_
 refine br (fun c4=>?_) (fun c4=>?_)
 · refine zaa zeY ?_
   refine zab zba (zbJ hA3) (hx3_.trans hx4_) fun v39 h39=>?_
   refine zaf u25 ty3 h39 (by omega) fun b41 o41 h41=>?_
   refine zac ty3 h41 (hx3_.trans hx4_) fun hI42=>?_
   refine (zco ).mono ?_
   rintro _ w5_ ⟨hx5_,rfl⟩
   refine zas ?_
   refine br (fun c5=>?_) (fun c5=>?_)
   · refine ⟨(hx1_.trans (hx2_.trans (hx3_.trans (hx4_.trans hx5_)))),?_⟩
     have:¬zaB c s:=fun h=>c5 (h.2.2.2.1 _ (List.getElem_mem _))
     simp only [this,decide_false]
   refine zak (by omega) ?_
   refine ⟨m4-1,by omega,k+1,by omega,by simp,(hx4_.trans hx5_),?_⟩
   exact zel (by omega) hv1 (Decidable.not_not.1 c5)
 refine zaI (s.owner.length) (fun q us w'=>us=[.int .i64 (q:Int)]∧Ext w4_ w'∧(∀ o∈s.owner.take q,-1≤o∧o<s.stacks.length)) (0) (by omega) ⟨by simp,Ext.refl w4_,by simp⟩ ?_
 rintro q m9 uu9 w6_ hk9 ⟨hu,hx6_,hv2⟩
 simp only [List.map_cons,List.map_nil,List.cons.injEq,and_true] at hu
 try rw [hu]
 try clear hu
 refine zaa zcR ?_
 refine zab zba (zbi hA3) (hx3_.trans (hx4_.trans hx6_)) fun v47 h47=>?_
 have hln48:=zae h47
 refine zad u25 h47 ?_
 refine zai ?_
 refine br (fun c6=>?_) (fun c6=>?_)
 · have hx7_:=zaj w6_
   refine zaa zcR ?_
   refine zab zba (zbi hA3) (hx3_.trans (hx4_.trans (hx6_.trans hx7_))) fun v53 h53=>?_
   refine zaf u25 ty3 h53 (by omega) fun b55 o55 h55=>?_
   refine zac ty3 h55 (hx3_.trans (hx4_.trans (hx6_.trans hx7_))) fun hI56=>?_
   refine zaa zaZ ?_
   refine zab zee (zaq hA3) (hx3_.trans (hx4_.trans (hx6_.trans hx7_))) fun v58 h58=>?_
   have hln59:=zae h58
   refine zad u31 h58 ?_
   refine zaX (by unfold I64;have:=zae h58;omega) ?_
   refine (zco ).mono ?_
   rintro _ w8_ ⟨hx8_,rfl⟩
   refine zas ?_
   refine br (fun c7=>?_) (fun c7=>?_)
   · refine ⟨(hx1_.trans (hx2_.trans (hx3_.trans (hx4_.trans (hx6_.trans (hx7_.trans hx8_)))))),?_⟩
     have:¬zaB c s:=fun h=>c7 (by have:=h.2.2.2.2.1 _ (List.getElem_mem (n:=q) (by omega));omega)
     simp only [this,decide_false]
   refine zak (by omega) ?_
   refine ⟨m9-1,by omega,q+1,by omega,by simp,(hx6_.trans (hx7_.trans hx8_)),?_⟩
   exact zel (by omega) hv2 (by omega)
 refine zaI (s.stacks.length) (fun p us w'=>us=[.int .i64 (p:Int)]∧Ext w6_ w'∧(∀ l∈s.stacks.take p,zbb c l)) (0) (by omega) ⟨by simp,Ext.refl w6_,by simp⟩ ?_
 rintro p m14 uu14 w9_ hk14 ⟨hu,hx9_,hv3⟩
 simp only [List.map_cons,List.map_nil,List.cons.injEq,and_true] at hu
 try rw [hu]
 try clear hu
 refine zaa zaZ ?_
 refine zab zee (zaq hA3) (hx3_.trans (hx4_.trans (hx6_.trans hx9_))) fun v65 h65=>?_
 have hln66:=zae h65
 refine zad u31 h65 ?_
 refine zai ?_
 refine br (fun c8=>?_) (fun c8=>?_)
 · have hx10_:=zaj w9_
   refine zar hV2 (hx2_.trans (hx3_.trans (hx4_.trans (hx6_.trans (hx9_.trans hx10_))))) ?_
   refine zaa zaZ ?_
   refine zab zee (zaq hA3) (hx3_.trans (hx4_.trans (hx6_.trans (hx9_.trans hx10_)))) fun v72 h72=>?_
   refine zaf u31 zba h72 (by omega) fun b74 o74 h74=>?_
   refine zab zba h74 (hx3_.trans (hx4_.trans (hx6_.trans (hx9_.trans hx10_)))) fun v75 h75=>?_
   refine (zjX h0 (e0.trans (hx1_.trans (hx2_.trans (hx3_.trans (hx4_.trans (hx6_.trans (hx9_.trans hx10_))))))) h75 (hx3_.trans (hx4_.trans (hx6_.trans (hx9_.trans hx10_))))).mono ?_
   rintro _ w11_ ⟨hx11_,rfl⟩
   refine zas ?_
   refine br (fun c9=>?_) (fun c9=>?_)
   · refine ⟨(hx1_.trans (hx2_.trans (hx3_.trans (hx4_.trans (hx6_.trans (hx9_.trans (hx10_.trans hx11_))))))),?_⟩
     have:¬zaB c s:=fun h=>c9 (h.2.2.2.2.2 _ (List.getElem_mem _))
     simp only [this,decide_false]
   refine zak (by omega) ?_
   refine ⟨m14-1,by omega,p+1,by omega,by simp,(hx9_.trans (hx10_.trans hx11_)),?_⟩
   exact zel (by omega) hv3 (Decidable.not_not.1 c9)
 refine ⟨(hx1_.trans (hx2_.trans (hx3_.trans (hx4_.trans (hx6_.trans hx9_))))),?_⟩
 have:zaB c s:=⟨by omega,by omega,by omega,zfS (by omega) hv1,zfS (by omega) hv2,zfS (by omega) hv3⟩
 simp only [this,decide_true]
def F74 (a0 a1:Value) (w:World) (R:VW):Prop:=
 oP (Instr.box 28 a0) w fun x2 w=>
 oP (Instr.box 33 a1) w fun x3 w=>
 rL 28 x2 w fun x5=>
 cL 81 [x5] w fun x6 w=>
 BR x6
 (rL 28 x2 w fun x8=>
 rL 33 x3 w fun x9=>
 cL 135 [x8,x9] w fun x10 w=>
 R x10 w)
 (R (Value.bool false) w)
def cfg74:Cfg:=⟨extL,[],[],[],[],[],[]⟩
theorem F74_call {a0 a1:Value} {w:World} {R:VW} (h:F74 a0 a1 w R):cL 74 [a0,a1] w R:=co (g:=cfg74) Tryz.func74 (by kernel_rfl) (by kernel_rfl) (by kernel_rfl) h
theorem zhc {w:World} {v0:Value} {W0:World} {c:DCode} {v1:Value} {W1:World} {s:DState}  (h0:Is W0 v0 c) (e0:Ext W0 w) (h1:Is W1 v1 s) (e1:Ext W1 w)  :
   CALL Tryz.prog 74 [v0,v1] w fun r w'=>Ext w w'∧(r=.bool (decide (CodeR c∧zaB c s))):=by
 refine F74_call ?_
 unfold F74
 refine zan zcD rfl h0 e0 fun w1_ hx1_ hA2 hV2=>?_
 refine zan zcj rfl h1 (e1.trans hx1_) fun w2_ hx2_ hA3 hV3=>?_
 refine zar hV2 hx2_ ?_
 refine (zh4 h0 (e0.trans (hx1_.trans hx2_))).mono ?_
 rintro _ w3_ ⟨hx3_,rfl⟩
 refine br (fun c1=>?_) (fun c1=>?_)
 · refine zar hV2 (hx2_.trans hx3_) ?_
   refine zar hV3 hx3_ ?_
   refine (zjY h0 (e0.trans (hx1_.trans (hx2_.trans hx3_))) h1 (e1.trans (hx1_.trans (hx2_.trans hx3_)))).mono ?_
   rintro _ w4_ ⟨hx4_,rfl⟩
   refine ⟨(hx1_.trans (hx2_.trans (hx3_.trans hx4_))),?_⟩
   simp [c1]
 refine ⟨(hx1_.trans (hx2_.trans hx3_)),?_⟩
 simp [c1]
def F76 (a0 a1:Value) (w:World) (R:VW):Prop:=
 oP (Instr.box 28 a0) w fun x2 w=>
 oP (Instr.box 33 a1) w fun x3 w=>
 rF 33 x3 2 w fun x12=>
 rL 31 x12 w fun x13=>
 rN 31 3 x13 w fun x14=>
 rF 33 x3 0 w fun x15=>
 rL 25 x15 w fun x16=>
 rN 25 3 x16 w fun x17=>
 rF 28 x2 0 w fun x18=>
 rL 24 x18 w fun x19=>
 rN 24 3 x19 w fun x20=>
 rB .neq 3 T0 T0 x17 x20 w fun x21=>
 BR x21
 (R (Value.bool false) w)
 (rF 33 x3 1 w fun x23=>
 rL 25 x23 w fun x24=>
 rN 25 3 x24 w fun x25=>
 rF 28 x2 1 w fun x26=>
 rL 24 x26 w fun x27=>
 rN 24 3 x27 w fun x28=>
 rB .neq 3 T0 T0 x25 x28 w fun x29=>
 BR x29
 (R (Value.bool false) w)
 (rB .lss 3 T0 U0 x14 (iV 1) w fun x33=>
 BR x33
 (R (Value.bool false) w)
 (rB .gtr 3 T0 U0 x14 (iV 6) w fun x37=>
 BR x37
 (R (Value.bool false) w)
 (rF 33 x3 0 w fun x39=>
 rL 25 x39 w fun x40=>
 rN 25 3 x40 w fun x41=>
 LOOPI [42] [(iV 0)] w fun u5 w next5=>
 rC (u5 42) x41 w fun x43=>
 BR x43
 (rX 25 x40 (u5 42) w fun x44=>
 rL 3 x44 w fun x45=>
 rB .lss 3 T0 U0 x45 (iV 0) w fun x47=>
 BR x47
 (R (Value.bool false) w)
 (rB .gtr 3 T0 U0 x45 (iV 999) w fun x50=>
 BR x50
 (R (Value.bool false) w)
 (rA (u5 42) (iV 1) w fun x52=>
 next5 [x52] w)))
 (rF 33 x3 1 w fun x53=>
 rL 25 x53 w fun x54=>
 rN 25 3 x54 w fun x55=>
 LOOPI [56] [(iV 0)] w fun u11 w next11=>
 rC (u11 56) x55 w fun x57=>
 BR x57
 (rX 25 x54 (u11 56) w fun x58=>
 rL 3 x58 w fun x59=>
 rB .lss 3 T0 U0 x59 (iV (-1)) w fun x61=>
 BR x61
 (R (Value.bool false) w)
 (rB .geq 3 T0 T0 x59 x14 w fun x65=>
 BR x65
 (R (Value.bool false) w)
 (rA (u11 56) (iV 1) w fun x67=>
 next11 [x67] w)))
 (rF 33 x3 2 w fun x68=>
 rL 31 x68 w fun x69=>
 rN 31 3 x69 w fun x70=>
 LOOPI [71] [(iV 0)] w fun u17 w next17=>
 rC (u17 71) x70 w fun x72=>
 BR x72
 (rX 31 x69 (u17 71) w fun x73=>
 rL 25 x73 w fun x74=>
 rL 28 x2 w fun x75=>
 cL 137 [x75,x74] w fun x77 w=>
 rD (Op.unary .not x77) w fun x78=>
 BR x78
 (R (Value.bool false) w)
 (rA (u17 71) (iV 1) w fun x79=>
 next17 [x79] w))
 (R (Value.bool true) w)))))))
def cfg76:Cfg:=⟨extL,[],[(5,9002801208230032,[42]),(11,295075847585314898448,[56]),(17,1206564636373194352101392,[71])],[],[],[],[]⟩
theorem F76_call {a0 a1:Value} {w:World} {R:VW} (h:F76 a0 a1 w R):cL 76 [a0,a1] w R:=co (g:=cfg76) Tryz.func76 (by kernel_rfl) (by kernel_rfl) (by kernel_rfl) h
theorem zih {w:World} {v0:Value} {W0:World} {c:DCode} {v1:Value} {W1:World} {s:DState}  (h0:Is W0 v0 c) (e0:Ext W0 w) (h1:Is W1 v1 s) (e1:Ext W1 w) (hc:CodeR c) :
   CALL Tryz.prog 76 [v0,v1] w fun r w'=>Ext w w'∧(r=.bool (decide (zaB c s))):=by
 refine F76_call ?_
 unfold F76
 refine zan zcD rfl h0 e0 fun w1_ hx1_ hA2 hV2=>?_
 refine zan zcj rfl h1 (e1.trans hx1_) fun w2_ hx2_ hA3 hV3=>?_
 refine zaa zaZ ?_
 refine zab zee (zaq hA3) (Ext.refl w2_) fun v13 h13=>?_
 have hln14:=zae h13
 refine zad u31 h13 ?_
 refine zaa zeY ?_
 refine zab zba (zbJ hA3) (Ext.refl w2_) fun v16 h16=>?_
 have hln17:=zae h16
 refine zad u25 h16 ?_
 refine zaa zcP ?_
 refine zab zcv (zaS hA2) hx2_ fun v19 h19=>?_
 have hln20:=zae h19
 refine zad u24 h19 ?_
 refine zaQ ?_
 refine br (fun c1=>?_) (fun c1=>?_)
 · refine ⟨(hx1_.trans hx2_),?_⟩
   have:¬zaB c s:=fun h=>by have:=h.1;omega
   simp only [this,decide_false]
 refine zaa zcR ?_
 refine zab zba (zbi hA3) (Ext.refl w2_) fun v24 h24=>?_
 have hln25:=zae h24
 refine zad u25 h24 ?_
 refine zaa zdU ?_
 refine zab zcv (zbr hA2) hx2_ fun v27 h27=>?_
 have hln28:=zae h27
 refine zad u24 h27 ?_
 refine zaQ ?_
 refine br (fun c2=>?_) (fun c2=>?_)
 · refine ⟨(hx1_.trans hx2_),?_⟩
   have:¬zaB c s:=fun h=>by have:=h.2.1;omega
   simp only [this,decide_false]
 refine zai ?_
 refine br (fun c3=>?_) (fun c3=>?_)
 · refine ⟨(hx1_.trans hx2_),?_⟩
   have:¬zaB c s:=fun h=>by have:=h.2.2.1;omega
   simp only [this,decide_false]
 refine zb5 ?_
 refine br (fun c4=>?_) (fun c4=>?_)
 · refine ⟨(hx1_.trans hx2_),?_⟩
   have:¬zaB c s:=fun h=>by have:=h.2.2.1;omega
   simp only [this,decide_false]
 refine zaa zeY ?_
 refine zab zba (zbJ hA3) (Ext.refl w2_) fun v40 h40=>?_
 have hln41:=zae h40
 refine zad u25 h40 ?_
 refine zaI (s.vars.length) (fun k us w'=>us=[.int .i64 (k:Int)]∧Ext w2_ w'∧(∀ v∈s.vars.take k,0≤v∧v≤999)) (0) (by omega) ⟨by simp,Ext.refl w2_,by simp⟩ ?_
 rintro k m5 uu5 w3_ hk5 ⟨hu,hx3_,hv1⟩
 simp only [List.map_cons,List.map_nil,List.cons.injEq,and_true] at hu
 try rw [hu]
 try clear hu
 refine zai ?_
 refine br (fun c5=>?_) (fun c5=>?_)
 · refine zaf u25 ty3 h40 (by omega) fun b44 o44 h44=>?_
   refine zac ty3 h44 hx3_ fun hI45=>?_
   refine zai ?_
   refine br (fun c6=>?_) (fun c6=>?_)
   · refine ⟨(hx1_.trans (hx2_.trans hx3_)),?_⟩
     have:¬zaB c s:=fun h=>by have:=h.2.2.2.1 _ (List.getElem_mem (n:=k) (by omega));omega
     simp only [this,decide_false]
   refine zb5 ?_
   refine br (fun c7=>?_) (fun c7=>?_)
   · refine ⟨(hx1_.trans (hx2_.trans hx3_)),?_⟩
     have:¬zaB c s:=fun h=>by have:=h.2.2.2.1 _ (List.getElem_mem (n:=k) (by omega));omega
     simp only [this,decide_false]
   refine zak (by omega) ?_
   refine ⟨m5-1,by omega,k+1,by omega,by simp,hx3_,?_⟩
   exact zel (by omega) hv1 (by omega)
 refine zaa zcR ?_
 refine zab zba (zbi hA3) hx3_ fun v54 h54=>?_
 have hln55:=zae h54
 refine zad u25 h54 ?_
 refine zaI (s.owner.length) (fun q us w'=>us=[.int .i64 (q:Int)]∧Ext w3_ w'∧(∀ o∈s.owner.take q,-1≤o∧o<s.stacks.length)) (0) (by omega) ⟨by simp,Ext.refl w3_,by simp⟩ ?_
 rintro q m11 uu11 w4_ hk11 ⟨hu,hx4_,hv2⟩
 simp only [List.map_cons,List.map_nil,List.cons.injEq,and_true] at hu
 try rw [hu]
 try clear hu
 refine zai ?_
 refine br (fun c8=>?_) (fun c8=>?_)
 · refine zaf u25 ty3 h54 (by omega) fun b58 o58 h58=>?_
   refine zac ty3 h58 (hx3_.trans hx4_) fun hI59=>?_
   refine zai ?_
   refine br (fun c9=>?_) (fun c9=>?_)
   · refine ⟨(hx1_.trans (hx2_.trans (hx3_.trans hx4_))),?_⟩
     have:¬zaB c s:=fun h=>by have:=h.2.2.2.2.1 _ (List.getElem_mem (n:=q) (by omega));omega
     simp only [this,decide_false]
   refine zbI ?_
   refine br (fun c10=>?_) (fun c10=>?_)
   · refine ⟨(hx1_.trans (hx2_.trans (hx3_.trans hx4_))),?_⟩
     have:¬zaB c s:=fun h=>by have:=h.2.2.2.2.1 _ (List.getElem_mem (n:=q) (by omega));omega
     simp only [this,decide_false]
   refine zak (by omega) ?_
   refine ⟨m11-1,by omega,q+1,by omega,by simp,hx4_,?_⟩
   exact zel (by omega) hv2 (by omega)
 refine zaa zaZ ?_
 refine zab zee (zaq hA3) (hx3_.trans hx4_) fun v69 h69=>?_
 have hln70:=zae h69
 refine zad u31 h69 ?_
 refine zaI (s.stacks.length) (fun p us w'=>us=[.int .i64 (p:Int)]∧Ext w4_ w'∧(∀ l∈s.stacks.take p,zbb c l)) (0) (by omega) ⟨by simp,Ext.refl w4_,by simp⟩ ?_
 rintro p m17 uu17 w5_ hk17 ⟨hu,hx5_,hv3⟩
 simp only [List.map_cons,List.map_nil,List.cons.injEq,and_true] at hu
 try rw [hu]
 try clear hu
 refine zai ?_
 refine br (fun c11=>?_) (fun c11=>?_)
 · refine zaf u31 zba h69 (by omega) fun b73 o73 h73=>?_
   refine zab zba h73 (hx3_.trans (hx4_.trans hx5_)) fun v74 h74=>?_
   refine zar hV2 (hx2_.trans (hx3_.trans (hx4_.trans hx5_))) ?_
   refine (zig h0 (e0.trans (hx1_.trans (hx2_.trans (hx3_.trans (hx4_.trans hx5_))))) h74 (hx3_.trans (hx4_.trans hx5_)) (by assumption)).mono ?_
   rintro _ w6_ ⟨hx6_,rfl⟩
   refine zas ?_
   refine br (fun c12=>?_) (fun c12=>?_)
   · refine ⟨(hx1_.trans (hx2_.trans (hx3_.trans (hx4_.trans (hx5_.trans hx6_))))),?_⟩
     have:¬zaB c s:=fun h=>c12 (h.2.2.2.2.2 _ (List.getElem_mem _))
     simp only [this,decide_false]
   refine zak (by omega) ?_
   refine ⟨m17-1,by omega,p+1,by omega,by simp,(hx5_.trans hx6_),?_⟩
   exact zel (by omega) hv3 (Decidable.not_not.1 c12)
 refine ⟨(hx1_.trans (hx2_.trans (hx3_.trans (hx4_.trans hx5_)))),?_⟩
 have:zaB c s:=⟨by omega,by omega,by omega,zfS (by omega) hv1,zfS (by omega) hv2,zfS (by omega) hv3⟩
 simp only [this,decide_true]
def F14 (a0 a1:Value) (w:World) (R:VW):Prop:=
 oP (Instr.box 28 a0) w fun x2 w=>
 oP (Instr.box 33 a1) w fun x3 w=>
 rL 28 x2 w fun x5=>
 cL 72 [x5] w fun x6 w=>
 BR x6
 (rL 28 x2 w fun x8=>
 rL 33 x3 w fun x9=>
 cL 76 [x8,x9] w fun x10 w=>
 R x10 w)
 (R (Value.bool false) w)
def cfg14:Cfg:=⟨extL,[],[],[],[],[],[]⟩
theorem F14_call {a0 a1:Value} {w:World} {R:VW} (h:F14 a0 a1 w R):cL 14 [a0,a1] w R:=co (g:=cfg14) Tryz.func14 (by kernel_rfl) (by kernel_rfl) (by kernel_rfl) h
theorem zbX {w:World} {v0:Value} {W0:World} {c:DCode} {v1:Value} {W1:World} {s:DState}  (h0:Is W0 v0 c) (e0:Ext W0 w) (h1:Is W1 v1 s) (e1:Ext W1 w)  :
   CALL Tryz.prog 14 [v0,v1] w fun r w'=>Ext w w'∧(r=.bool (decide (CodeR c∧zaB c s))):=by
 refine F14_call ?_
 unfold F14
 refine zan zcD rfl h0 e0 fun w1_ hx1_ hA2 hV2=>?_
 refine zan zcj rfl h1 (e1.trans hx1_) fun w2_ hx2_ hA3 hV3=>?_
 refine zar hV2 hx2_ ?_
 refine (ze6 h0 (e0.trans (hx1_.trans hx2_))).mono ?_
 rintro _ w3_ ⟨hx3_,rfl⟩
 refine br (fun c1=>?_) (fun c1=>?_)
 · refine zar hV2 (hx2_.trans hx3_) ?_
   refine zar hV3 hx3_ ?_
   refine (zih h0 (e0.trans (hx1_.trans (hx2_.trans hx3_))) h1 (e1.trans (hx1_.trans (hx2_.trans hx3_))) (by assumption)).mono ?_
   rintro _ w4_ ⟨hx4_,rfl⟩
   refine ⟨(hx1_.trans (hx2_.trans (hx3_.trans hx4_))),?_⟩
   simp [c1]
 refine ⟨(hx1_.trans (hx2_.trans hx3_)),?_⟩
 simp [c1]
def zhz (s:DState):Prop:=∀ x∈s.stacks,x=[]
instance (s:DState):Decidable (zhz s):=inferInstanceAs (Decidable (∀ x∈s.stacks,x=[]))
theorem znm {s:DState} {i:Nat} (h:i<s.stacks.length) (c:0<(s.stacks[i].length:Int)):¬zhz s:=fun ho=>by
 have:=ho _ (List.getElem_mem h)
 rw [this] at c;simp at c
theorem zmx {s:DState} {k:Nat} (hk:k<s.stacks.length) (hinv:∀ x∈s.stacks.take k,x=[]) (c:¬0<(s.stacks[k].length:Int)):∀ x∈s.stacks.take (k+1),x=[]:=by
 intro x hx
 rw [List.take_succ_eq_append_getElem hk] at hx
 rcases List.mem_append.1 hx with hx | hx
 · exact hinv x hx
 simp only [List.mem_cons,List.not_mem_nil,or_false] at hx
 subst hx
 exact List.eq_nil_of_length_eq_zero (by omega)
theorem znn {s:DState} {k:Nat} (hk:s.stacks.length≤k) (hinv:∀ x∈s.stacks.take k,x=[]):zhz s:=by
 rw [List.take_of_length_le hk] at hinv;exact hinv
def F17 (a0:Value) (w:World) (R:VW):Prop:=
 oP (Instr.box 33 a0) w fun x1 w=>
 rF 33 x1 2 w fun x5=>
 rL 31 x5 w fun x6=>
 rN 31 3 x6 w fun x7=>
 LOOPI [8] [(iV 0)] w fun u2 w next2=>
 rC (u2 8) x7 w fun x9=>
 BR x9
 (rX 31 x6 (u2 8) w fun x10=>
 rL 25 x10 w fun x11=>
 rN 25 3 x11 w fun x13=>
 rB .gtr 3 T0 U0 x13 (iV 0) w fun x14=>
 BR x14
 (R (Value.bool false) w)
 (rA (u2 8) (iV 1) w fun x15=>
 next2 [x15] w))
 (R (Value.bool true) w)
def cfg17:Cfg:=⟨extL,[],[(2,65300,[8])],[],[],[],[]⟩
theorem F17_call {a0:Value} {w:World} {R:VW} (h:F17 a0 w R):cL 17 [a0] w R:=co (g:=cfg17) Tryz.func17 (by kernel_rfl) (by kernel_rfl) (by kernel_rfl) h
theorem zfj {w:World} {v0:Value} {W0:World} {s:DState}  (h0:Is W0 v0 s) (e0:Ext W0 w)  :
   CALL Tryz.prog 17 [v0] w fun r w'=>Ext w w'∧(r=.bool (decide (zhz s))):=by
 refine F17_call ?_
 unfold F17
 refine zan zcj rfl h0 e0 fun w1_ hx1_ hA1 hV1=>?_
 refine zaa zaZ ?_
 refine zab zee (zaq hA1) (Ext.refl w1_) fun v6 h6=>?_
 have hln7:=zae h6
 refine zad u31 h6 ?_
 refine zaI (s.stacks.length) (fun k us w'=>us=[.int .i64 (k:Int)]∧Ext w1_ w'∧(∀ x∈s.stacks.take k,x=[])) (0) (by omega) ⟨by simp,Ext.refl w1_,by simp⟩ ?_
 rintro k m2 uu2 w2_ hk2 ⟨hu,hx2_,hinv⟩
 simp only [List.map_cons,List.map_nil,List.cons.injEq,and_true] at hu
 try rw [hu]
 try clear hu
 refine zai ?_
 refine br (fun c1=>?_) (fun c1=>?_)
 · refine zaf u31 zba h6 (by omega) fun b10 o10 h10=>?_
   refine zab zba h10 hx2_ fun v11 h11=>?_
   have hln13:=zae h11
   refine zad u25 h11 ?_
   refine zb5 ?_
   refine br (fun c2=>?_) (fun c2=>?_)
   · refine ⟨(hx1_.trans hx2_),?_⟩
     simp [znm (by omega) c2]
   refine zak (by omega) ?_
   refine ⟨m2-1,by omega,k+1,by omega,by simp,hx2_,?_⟩
   exact zmx (by omega) hinv c2
 refine ⟨(hx1_.trans hx2_),?_⟩
 simp [znn (by omega) hinv]
def ow (s:DState) (i:Int):Int:=s.owner.getD i.toNat 0
theorem zo3 {s:DState} {i:Nat} (h:i<s.owner.length):s.owner[i]=ow s i:=by unfold ow;rw [List.getD_eq_getElem?_getD,Int.toNat_natCast,List.getElem?_eq_getElem h];rfl
theorem zjZ {s:DState} {i:Int} (h0:0≤i) (h:i.toNat<s.owner.length):s.owner[i.toNat]=ow s i:=by unfold ow;rw [List.getD_eq_getElem?_getD,List.getElem?_eq_getElem h];rfl
def stk (s:DState) (t:Int):List Int:=s.stacks.getD t.toNat []
theorem zd3 {s:DState} {t:Int} (h:t.toNat<s.stacks.length):s.stacks[t.toNat]=stk s t:=by unfold stk;rw [List.getD_eq_getElem?_getD,List.getElem?_eq_getElem h];rfl
def atI (c:DCode) (s:DState) (t:Int):DIns:=zbe c (zc7 s t).toNat
theorem zd4 {s:DState} {t:Int} (h:0≤zc7 s t):0≤t∧t.toNat<s.stacks.length:=by
 unfold zc7 at h
 split at h
 · assumption
 omega
theorem zkJ {s:DState} {t:Int} (h0:0≤t) (h1:t.toNat<s.stacks.length):zc7 s t=(stk s t).getLastD (-1):=by
 unfold zc7;rw [dif_pos ⟨h0,h1⟩,zd3 h1]
theorem zmy {l:List Int} (h:l≠[]):l.getLastD (-1)=st l (l.length-1):=by
 unfold st
 rw [List.getLastD_eq_getLast?,List.getLast?_eq_getElem?,List.getD_eq_getElem?_getD]
 have:l.length-1<l.length:=by have:=List.length_pos_iff.2 h;omega
 rw [List.getElem?_eq_getElem this];rfl
theorem zli {c:DCode} {s:DState} (hs:zaB c s) (t:Int):-1≤zc7 s t∧zc7 s t<c.ins.length:=by
 by_cases h:0≤t∧t.toNat<s.stacks.length
 · rw [zkJ h.1 h.2]
   by_cases hn:stk s t=[]
   · rw [hn];simp [List.getLastD];omega
   have hl:=List.length_pos_iff.2 hn
   have hm:=hs.2.2.2.2.2 (stk s t) (by rw [←zd3 h.2];exact List.getElem_mem _)
   rw [zmy hn]
   have:=hm.2.1 ((stk s t).length-1) (by omega)
   omega
 unfold zc7;rw [dif_neg h];omega
theorem zg0 {c:DCode} (hc:CodeR c) {j:Nat} (hj:j<c.ins.length):zes c (zbe c j) (en c (zay c j).toNat) (zdo c (zay c j)+1):=hc.2.2 j hj
theorem zno {c:DCode} (hc:CodeR c) {j:Nat} (hj:j<c.ins.length) (h:(zbe c j).op=6∨(zbe c j).op=7):0≤(zbe c j).arg∧(zbe c j).arg<c.locks.length:=by
 have:=(zg0 hc hj).2.1
 unfold zbj at this
 rwa [if_neg (by omega),if_neg (by omega),if_pos h] at this
theorem NamesR.locks6 {c:DCode} (h:NamesR c):c.locks.length≤6:=by
 have h1:=h.2.1
 simp only [Bool.and_eq_true,decide_eq_true_eq] at h1
 omega
theorem NamesR.globals6 {c:DCode} (h:NamesR c):c.globals.length≤6:=by
 have h1:=h.1
 simp only [Bool.and_eq_true,decide_eq_true_eq] at h1
 omega
theorem znp {c:DCode} {s:DState} (hs:zaB c s) {i:Int} (h0:0≤i) (h:i.toNat<s.owner.length):-1≤ow s i∧ow s i<s.stacks.length:=by
 rw [←zjZ h0 h];exact hs.2.2.2.2.1 _ (List.getElem_mem _)
theorem zg1 {c:DCode} {s:DState} {t:Int} (hc:CodeR c) (hs:zaB c s) (h:0≤zc7 s t):zes c (atI c s t) (en c (zay c (zc7 s t)).toNat) (zdo c (zay c (zc7 s t))+1):=by
 have:=zli hs t
 have h1:=zg0 hc (j:=(zc7 s t).toNat) (by omega)
 rwa [Int.toNat_of_nonneg h] at h1
theorem zgp {c:DCode} {s:DState} {t:Int} (hc:CodeR c) (hs:zaB c s) (h:0≤zc7 s t) (ho:(atI c s t).op=6∨(atI c s t).op=7):0≤(atI c s t).arg∧(atI c s t).arg.toNat<s.owner.length:=by
 have:=zli hs t
 have h1:=zno hc (j:=(zc7 s t).toNat) (by omega) ho
 have h2:=hs.2.1
 unfold atI
 omega
def F138 (a0 a1:Value) (w:World) (R:VW):Prop:=
 oP (Instr.box 33 a0) w fun x2 w=>
 rB .lss 3 T0 U0 a1 (iV 0) w fun x6=>
 BR x6
 (R (iV (-1)) w)
 (rF 33 x2 1 w fun x9=>
 rL 25 x9 w fun x10=>
 rN 25 3 x10 w fun x11=>
 rB .geq 3 T0 T0 a1 x11 w fun x12=>
 BR x12
 (R (iV (-1)) w)
 (rF 33 x2 1 w fun x14=>
 rL 25 x14 w fun x15=>
 rX 25 x15 a1 w fun x17=>
 rL 3 x17 w fun x18=>
 rD (Builtin.max_ #[3,3] 3 [x18,(iV (-1))].toArray) w fun x19=>
 R x19 w))
def cfg138:Cfg:=⟨extL,[],[],[],[],[],[]⟩
theorem F138_call {a0 a1:Value} {w:World} {R:VW} (h:F138 a0 a1 w R):cL 138 [a0,a1] w R:=co (g:=cfg138) Tryz.func138 (by kernel_rfl) (by kernel_rfl) (by kernel_rfl) h
theorem zj0 {w:World} {v0:Value} {W0:World} {s:DState} {i:Int}  (h0:Is W0 v0 s) (e0:Ext W0 w) (hi0:0≤i) (hi1:i.toNat<s.owner.length) :
   CALL Tryz.prog 138 [v0,.int .i64 i] w fun r w'=>Ext w w'∧(r=.int .i64 (max (ow s i) (-1))):=by
 refine F138_call ?_
 unfold F138
 refine zan zcj rfl h0 e0 fun w1_ hx1_ hA2 hV2=>?_
 refine zai ?_
 refine br (fun c1=>?_) (fun c1=>?_)
 · refine ⟨hx1_,?_⟩
   exact absurd c1 (by omega)
 refine zaa zcR ?_
 refine zab zba (zbi hA2) (Ext.refl w1_) fun v10 h10=>?_
 have hln11:=zae h10
 refine zad u25 h10 ?_
 refine zbI ?_
 refine br (fun c2=>?_) (fun c2=>?_)
 · refine ⟨hx1_,?_⟩
   exact absurd c2 (by omega)
 refine zaa zcR ?_
 refine zab zba (zbi hA2) (Ext.refl w1_) fun v15 h15=>?_
 refine zau u25 ty3 h15 (by omega) (by omega) fun b17 o17 h17=>?_
 refine zac ty3 h17 (Ext.refl w1_) fun hI18=>?_
 refine zoV ?_
 refine ⟨hx1_,?_⟩
 rw [zjZ hi0 hi1]
def GoR (c:DCode) (s:DState) (t:Int):Prop:=0≤zc7 s t∧((atI c s t).op=6→ow s (atI c s t).arg=-1)∧((atI c s t).op=4→((stk s t).length:Int)<8)
instance (c:DCode) (s:DState) (t:Int):Decidable (GoR c s t):=by unfold GoR;infer_instance
def F136 (a0 a1 a2:Value) (w:World) (R:VW):Prop:=
 oP (Instr.box 28 a0) w fun x3 w=>
 oP (Instr.box 33 a1) w fun x4 w=>
 rL 33 x4 w fun x8=>
 cL 163 [x8,a2] w fun x10 w=>
 rB .lss 3 T0 U0 x10 (iV 0) w fun x12=>
 BR x12
 (R (Value.bool false) w)
 (rF 28 x3 4 w fun x13=>
 rL 26 x13 w fun x14=>
 rX 26 x14 x10 w fun x16=>
 rF 77 x16 0 w fun x17=>
 rL 3 x17 w fun x18=>
 rB .eql 3 T0 U0 x18 (iV 6) w fun x20=>
 BR x20
 ((fun w=>rF 33 x4 1 w fun x21=>
 rL 25 x21 w fun x22=>
 rF 28 x3 4 w fun x23=>
 rL 26 x23 w fun x24=>
 rX 26 x24 x10 w fun x26=>
 rF 77 x26 1 w fun x27=>
 rL 3 x27 w fun x28=>
 rX 25 x22 x28 w fun x29=>
 rL 3 x29 w fun x30=>
 rB .eql 3 T0 U0 x30 (iV (-1)) w fun x31=>
 R x31 w) (World.drew1 w))
 (rB .eql 3 T0 U0 x18 (iV 4) w fun x33=>
 BR x33
 (rF 33 x4 2 w fun x34=>
 rL 31 x34 w fun x35=>
 rX 31 x35 a2 w fun x37=>
 rL 25 x37 w fun x38=>
 rN 25 3 x38 w fun x39=>
 rB .lss 3 T0 U0 x39 (iV 8) w fun x40=>
 R x40 w)
 (R (Value.bool true) w)))
def cfg136:Cfg:=⟨extL,[],[],[(6,[0,1,2,3,4,5,6,7,8,9,10,11],0)],[],[],[]⟩
theorem F136_call {a0 a1 a2:Value} {w:World} {R:VW} (h:F136 a0 a1 a2 w R):cL 136 [a0,a1,a2] w R:=co (g:=cfg136) Tryz.func136 (by kernel_rfl) (by kernel_rfl) (by kernel_rfl) h
theorem znq {w:World} {v0:Value} {W0:World} {c:DCode} {v1:Value} {W1:World} {s:DState} {t:Int}  (h0:Is W0 v0 c) (e0:Ext W0 w) (h1:Is W1 v1 s) (e1:Ext W1 w) (hc:CodeR c) (hs:zaB c s) :
   CALL Tryz.prog 136 [v0,v1,.int .i64 t] w fun r w'=>Ext w w'∧(r=.bool (decide (GoR c s t))):=by
 refine F136_call ?_
 unfold F136
 have hat:=zli hs t
 refine zan zcD rfl h0 e0 fun w1_ hx1_ hA3 hV3=>?_
 refine zan zcj rfl h1 (e1.trans hx1_) fun w2_ hx2_ hA4 hV4=>?_
 refine zar hV4 (Ext.refl w2_) ?_
 refine (zjB h1 (e1.trans (hx1_.trans hx2_))).mono ?_
 rintro _ w3_ ⟨hx3_,rfl⟩
 refine zai ?_
 refine br (fun c1=>?_) (fun c1=>?_)
 · refine ⟨(hx1_.trans (hx2_.trans hx3_)),?_⟩
   have:¬GoR c s t:=fun h=>by have:=h.1;omega
   simp only [this,decide_false]
 refine zaa zbk ?_
 refine zab zdT (zat hA3) (hx2_.trans hx3_) fun v14 h14=>?_
 refine zau u26 zfp h14 (by omega) (by omega) fun b16 o16 h16=>?_
 rw [za2] at h16
 change At _ _ _ (atI c s t) at h16
 have hat0:0≤zc7 s t:=by omega
 have hth:=zd4 hat0
 refine zaa zbU ?_
 refine zac ty3 (zaH h16) (hx2_.trans hx3_) fun hI18=>?_
 refine zag ?_
 refine br (fun c2=>?_) (fun c2=>?_)
 · have hx4_:=zaj w3_
   refine zaa zcR ?_
   refine zab zba (zbi hA4) (hx3_.trans hx4_) fun v22 h22=>?_
   refine zaa zbk ?_
   refine zab zdT (zat hA3) (hx2_.trans (hx3_.trans hx4_)) fun v24 h24=>?_
   refine zau u26 zfp h24 (by omega) (by omega) fun b26 o26 h26=>?_
   rw [za2] at h26
   change At _ _ _ (atI c s t) at h26
   have hlk:=zgp hc hs hat0 (.inl c2)
   refine zaa zdl ?_
   refine zac ty3 (zbq h26) (hx2_.trans (hx3_.trans hx4_)) fun hI28=>?_
   refine zau u25 ty3 h22 (by omega) (by omega) fun b29 o29 h29=>?_
   refine zac ty3 h29 (hx3_.trans hx4_) fun hI30=>?_
   refine zag ?_
   refine ⟨(hx1_.trans (hx2_.trans (hx3_.trans hx4_))),?_⟩
   congr 1
   rw [decide_eq_decide,zjZ hlk.1 hlk.2]
   exact ⟨fun h=>⟨hat0,fun _=>h,fun h4=>by omega⟩,fun h=>h.2.1 c2⟩
 refine zag ?_
 refine br (fun c3=>?_) (fun c3=>?_)
 · refine zaa zaZ ?_
   refine zab zee (zaq hA4) hx3_ fun v35 h35=>?_
   refine zau u31 zba h35 (by omega) (by omega) fun b37 o37 h37=>?_
   refine zab zba h37 hx3_ fun v38 h38=>?_
   have hln39:=zae h38
   refine zad u25 h38 ?_
   refine zai ?_
   refine ⟨(hx1_.trans (hx2_.trans hx3_)),?_⟩
   congr 1
   rw [decide_eq_decide,zd3 hth.2]
   exact ⟨fun h=>⟨hat0,fun h6=>by omega,fun _=>h⟩,fun h=>h.2.2 c3⟩
 refine ⟨(hx1_.trans (hx2_.trans hx3_)),?_⟩
 have:GoR c s t:=⟨hat0,fun h6=>absurd h6 c2,fun h4=>absurd h4 c3⟩
 simp only [this,decide_true]
def F78 (a0 a1 a2:Value) (w:World) (R:VW):Prop:=
 oP (Instr.box 28 a0) w fun x3 w=>
 oP (Instr.box 33 a1) w fun x4 w=>
 rL 33 x4 w fun x8=>
 cL 22 [x8,a2] w fun x10 w=>
 rL 28 x3 w fun x11=>
 cL 105 [x11,x10] w fun x13 w=>
 rD (Op.unary .not x13) w fun x14=>
 BR x14
 (R (Value.bool false) w)
 (rF 28 x3 4 w fun x15=>
 rL 26 x15 w fun x16=>
 rX 26 x16 x10 w fun x18=>
 rF 77 x18 0 w fun x19=>
 rL 3 x19 w fun x20=>
 rB .eql 3 T0 U0 x20 (iV 6) w fun x22=>
 BR x22
 ((fun w=>rL 33 x4 w fun x23=>
 rF 28 x3 4 w fun x24=>
 rL 26 x24 w fun x25=>
 rX 26 x25 x10 w fun x27=>
 rF 77 x27 1 w fun x28=>
 rL 3 x28 w fun x29=>
 cL 138 [x23,x29] w fun x30 w=>
 rB .lss 3 T0 U0 x30 (iV 0) w fun x31=>
 R x31 w) (World.drew1 w))
 (rB .eql 3 T0 U0 x20 (iV 4) w fun x33=>
 BR x33
 (rF 33 x4 2 w fun x34=>
 rL 31 x34 w fun x35=>
 rX 31 x35 a2 w fun x37=>
 rL 25 x37 w fun x38=>
 rN 25 3 x38 w fun x39=>
 rB .lss 3 T0 U0 x39 (iV 8) w fun x40=>
 R x40 w)
 (R (Value.bool true) w)))
def cfg78:Cfg:=⟨extL,[],[],[(6,[0,1,2,3,4,5,6,7,8,9],0)],[],[],[]⟩
theorem F78_call {a0 a1 a2:Value} {w:World} {R:VW} (h:F78 a0 a1 a2 w R):cL 78 [a0,a1,a2] w R:=co (g:=cfg78) Tryz.func78 (by kernel_rfl) (by kernel_rfl) (by kernel_rfl) h
theorem zj1 {w:World} {v0:Value} {W0:World} {c:DCode} {v1:Value} {W1:World} {s:DState} {t:Int}  (h0:Is W0 v0 c) (e0:Ext W0 w) (h1:Is W1 v1 s) (e1:Ext W1 w) (hc:CodeR c) (hs:zaB c s) :
   CALL Tryz.prog 78 [v0,v1,.int .i64 t] w fun r w'=>Ext w w'∧(r=.bool (decide (GoR c s t))):=by
 refine F78_call ?_
 unfold F78
 have hat:=zli hs t
 refine zan zcD rfl h0 e0 fun w1_ hx1_ hA3 hV3=>?_
 refine zan zcj rfl h1 (e1.trans hx1_) fun w2_ hx2_ hA4 hV4=>?_
 refine zar hV4 (Ext.refl w2_) ?_
 refine (zez h1 (e1.trans (hx1_.trans hx2_))).mono ?_
 rintro _ w3_ ⟨hx3_,rfl⟩
 refine zar hV3 (hx2_.trans hx3_) ?_
 refine (zfR h0 (e0.trans (hx1_.trans (hx2_.trans hx3_)))).mono ?_
 rintro _ w4_ ⟨hx4_,rfl⟩
 refine zas ?_
 refine br (fun c1=>?_) (fun c1=>?_)
 · refine ⟨(hx1_.trans (hx2_.trans (hx3_.trans hx4_))),?_⟩
   have:¬GoR c s t:=fun h=>by have:=h.1;omega
   simp only [this,decide_false]
 refine zaa zbk ?_
 refine zab zdT (zat hA3) (hx2_.trans (hx3_.trans hx4_)) fun v16 h16=>?_
 refine zau u26 zfp h16 (by omega) (by omega) fun b18 o18 h18=>?_
 rw [za2] at h18
 change At _ _ _ (atI c s t) at h18
 have hat0:0≤zc7 s t:=by omega
 have hth:=zd4 hat0
 refine zaa zbU ?_
 refine zac ty3 (zaH h18) (hx2_.trans (hx3_.trans hx4_)) fun hI20=>?_
 refine zag ?_
 refine br (fun c2=>?_) (fun c2=>?_)
 · have hx5_:=zaj w4_
   refine zar hV4 (hx3_.trans (hx4_.trans hx5_)) ?_
   refine zaa zbk ?_
   refine zab zdT (zat hA3) (hx2_.trans (hx3_.trans (hx4_.trans hx5_))) fun v25 h25=>?_
   refine zau u26 zfp h25 (by omega) (by omega) fun b27 o27 h27=>?_
   rw [za2] at h27
   change At _ _ _ (atI c s t) at h27
   have hlk:=zgp hc hs hat0 (.inl c2)
   have hor:=znp hs hlk.1 hlk.2
   refine zaa zdl ?_
   refine zac ty3 (zbq h27) (hx2_.trans (hx3_.trans (hx4_.trans hx5_))) fun hI29=>?_
   refine (zj0 h1 (e1.trans (hx1_.trans (hx2_.trans (hx3_.trans (hx4_.trans hx5_))))) (by omega) (by omega)).mono ?_
   rintro _ w6_ ⟨hx6_,rfl⟩
   refine zai ?_
   refine ⟨(hx1_.trans (hx2_.trans (hx3_.trans (hx4_.trans (hx5_.trans hx6_))))),?_⟩
   congr 1
   rw [decide_eq_decide]
   exact ⟨fun h=>⟨hat0,fun _=>by omega,fun h4=>by omega⟩,fun h=>by have:=h.2.1 c2;omega⟩
 refine zag ?_
 refine br (fun c3=>?_) (fun c3=>?_)
 · refine zaa zaZ ?_
   refine zab zee (zaq hA4) (hx3_.trans hx4_) fun v35 h35=>?_
   refine zau u31 zba h35 (by omega) (by omega) fun b37 o37 h37=>?_
   refine zab zba h37 (hx3_.trans hx4_) fun v38 h38=>?_
   have hln39:=zae h38
   refine zad u25 h38 ?_
   refine zai ?_
   refine ⟨(hx1_.trans (hx2_.trans (hx3_.trans hx4_))),?_⟩
   congr 1
   rw [decide_eq_decide,zd3 hth.2]
   exact ⟨fun h=>⟨hat0,fun h6=>by omega,fun _=>h⟩,fun h=>h.2.2 c3⟩
 refine ⟨(hx1_.trans (hx2_.trans (hx3_.trans hx4_))),?_⟩
 have:GoR c s t:=⟨hat0,fun h6=>absurd h6 c2,fun h4=>absurd h4 c3⟩
 simp only [this,decide_true]
def F20 (a0 a1 a2:Value) (w:World) (R:VW):Prop:=
 oP (Instr.box 28 a0) w fun x3 w=>
 oP (Instr.box 33 a1) w fun x4 w=>
 rL 28 x3 w fun x7=>
 rL 33 x4 w fun x8=>
 cL 14 [x7,x8] w fun x9 w=>
 BR x9
 (rL 28 x3 w fun x11=>
 rL 33 x4 w fun x12=>
 cL 78 [x11,x12,a2] w fun x14 w=>
 R x14 w)
 (R (Value.bool false) w)
def cfg20:Cfg:=⟨extL,[],[],[],[],[],[]⟩
theorem F20_call {a0 a1 a2:Value} {w:World} {R:VW} (h:F20 a0 a1 a2 w R):cL 20 [a0,a1,a2] w R:=co (g:=cfg20) Tryz.func20 (by kernel_rfl) (by kernel_rfl) (by kernel_rfl) h
theorem zi7 {w:World} {v0:Value} {W0:World} {c:DCode} {v1:Value} {W1:World} {s:DState} {t:Int}  (h0:Is W0 v0 c) (e0:Ext W0 w) (h1:Is W1 v1 s) (e1:Ext W1 w)  :
   CALL Tryz.prog 20 [v0,v1,.int .i64 t] w fun r w'=>Ext w w'∧(r=.bool (decide ((CodeR c∧zaB c s)∧GoR c s t))):=by
 refine F20_call ?_
 unfold F20
 refine zan zcD rfl h0 e0 fun w1_ hx1_ hA3 hV3=>?_
 refine zan zcj rfl h1 (e1.trans hx1_) fun w2_ hx2_ hA4 hV4=>?_
 refine zar hV3 hx2_ ?_
 refine zar hV4 (Ext.refl w2_) ?_
 refine (zbX h0 (e0.trans (hx1_.trans hx2_)) h1 (e1.trans (hx1_.trans hx2_))).mono ?_
 rintro _ w3_ ⟨hx3_,rfl⟩
 refine br (fun c1=>?_) (fun c1=>?_)
 · refine zar hV3 (hx2_.trans hx3_) ?_
   refine zar hV4 hx3_ ?_
   refine (zj1 h0 (e0.trans (hx1_.trans (hx2_.trans hx3_))) h1 (e1.trans (hx1_.trans (hx2_.trans hx3_))) c1.1 c1.2).mono ?_
   rintro _ w4_ ⟨hx4_,rfl⟩
   refine ⟨(hx1_.trans (hx2_.trans (hx3_.trans hx4_))),?_⟩
   simp [c1]
 refine ⟨(hx1_.trans (hx2_.trans hx3_)),?_⟩
 simp [c1]
def zbO (c:DCode) (s:DState):Nat→List Int
 | 0=>[]
 | k+1=>if GoR c s k then zbO c s k++[(k:Int)] else zbO c s k
theorem zeJ (c:DCode) (s:DState):∀ k,(zbO c s k).length≤k
 | 0=>Nat.le_refl _
 | k+1=>by
   have:=zeJ c s k
   rw [zbO]
   split
   · simp;omega
   omega
def zc4 (c:DCode) (s:DState):List Int:=zbO c s s.stacks.length
def F75 (a0 a1:Value) (w:World) (R:VW):Prop:=
 oP (Instr.box 28 a0) w fun x2 w=>
 oP (Instr.box 33 a1) w fun x3 w=>
 oP (Instr.buildSlice 25 0 #[]) w fun x7 w=>
 LOOPI [5,6] [x7,(iV 0)] w fun u3 w next3=>
 rF 33 x3 2 w fun x9=>
 rL 31 x9 w fun x10=>
 rN 31 3 x10 w fun x11=>
 rC (u3 6) x11 w fun x12=>
 BR x12
 (rL 28 x2 w fun x15=>
 rL 33 x3 w fun x16=>
 cL 136 [x15,x16,(u3 6)] w fun x18 w=>
 BR x18
 (oP (Instr.buildSlice 25 1 #[(0,(u3 6))]) w fun x21 w=>
 oP (Builtin.append_ #[25,25] 25 [(u3 5),x21].toArray) w fun x22 w=>
 rA (u3 6) (iV 1) w fun x14=>
 next3 [x22,x14] w)
 (rA (u3 6) (iV 1) w fun x14=>
 next3 [(u3 5),x14] w))
 (R (u3 5) w)
def cfg75:Cfg:=⟨extL,[],[(3,8388448,[5,6])],[],[],[],[]⟩
theorem F75_call {a0 a1:Value} {w:World} {R:VW} (h:F75 a0 a1 w R):cL 75 [a0,a1] w R:=co (g:=cfg75) Tryz.func75 (by kernel_rfl) (by kernel_rfl) (by kernel_rfl) h
theorem zj2 {w:World} {v0:Value} {W0:World} {c:DCode} {v1:Value} {W1:World} {s:DState}  (h0:Is W0 v0 c) (e0:Ext W0 w) (h1:Is W1 v1 s) (e1:Ext W1 w) (hc:CodeR c) (hs:zaB c s) :
   CALL Tryz.prog 75 [v0,v1] w fun r w'=>Ext w w'∧(Own w.heap.size w' r (zc4 c s)):=by
 refine F75_call ?_
 unfold F75
 have hmany:=hs.2.2.1
 have hs_e0:=e0.size
 have hs_e1:=e1.size
 refine zan zcD rfl h0 e0 fun w1_ hx1_ hA2 hV2=>?_
 have hs_hx1_:=hx1_.size
 refine zan zcj rfl h1 (e1.trans hx1_) fun w2_ hx2_ hA3 hV3=>?_
 have hs_hx2_:=hx2_.size
 refine zbQ (α:=Int) u25 ty3 fun v7 w3_ hx3_ o7=>?_
 have hs_hx3_:=hx3_.size
 refine zaI (s.stacks.length) (fun k us w'=>∃ v:Value,us=[v,.int .i64 (k:Int)]∧Ext w3_ w'∧(RowI w3_.heap.size w'.heap.size 3 w' v (zbO c s k))) (0) (by omega) ⟨_,rfl,Ext.refl w3_,zdn _ _ _ _ _⟩ ?_
 rintro k m3 uu3 w4_ hk3 ⟨v5,hu,hx4_,hrow⟩
 have hs_hx4_:=hx4_.size
 obtain ⟨hu0,hu1⟩:=zjy hu
 try rw [hu0]
 try rw [hu1]
 try clear hu0 hu1
 have hrl:=zeJ c s k
 refine zaa zaZ ?_
 refine zab zee (zaq hA3) (hx3_.trans hx4_) fun v10 h10=>?_
 have hln11:=zae h10
 refine zad u31 h10 ?_
 refine zai ?_
 refine br (fun c1=>?_) (fun c1=>?_)
 · refine zar hV2 (hx2_.trans (hx3_.trans hx4_)) ?_
   refine zar hV3 (hx3_.trans hx4_) ?_
   refine (znq h0 (e0.trans (hx1_.trans (hx2_.trans (hx3_.trans hx4_)))) h1 (e1.trans (hx1_.trans (hx2_.trans (hx3_.trans hx4_)))) (by assumption) (by assumption)).mono ?_
   rintro _ w5_ ⟨hx5_,rfl⟩
   have hs_hx5_:=hx5_.size
   refine br (fun c2=>?_) (fun c2=>?_)
   · refine zeA (α:=Int) u25 ty3 z3 zc3 (by decide) (hrow.ext hx5_) (by omega) (ownI_int (lo:=w5_.heap.size) (hi:=w5_.heap.size) (by first | assumption | (unfold I64 at *;omega))) (by omega) (by omega) (by rw [zap];omega) (by omega) fun v22 w6_ hc6_ o22=>?_
     have hs_hc6_:=hc6_.size
     have o7_c6:=(o7.ext (hx4_.trans hx5_)).chg hc6_ (by omega)
     refine zak (by omega) ?_
     refine ⟨m3-1,by omega,k+1,by omega,_,rfl,(Ext.chgI (hx4_.trans hx5_) hc6_ (by omega)),?_⟩
     rw [zbO,if_pos c2];exact o22
   refine zak (by omega) ?_
   refine ⟨m3-1,by omega,k+1,by omega,_,rfl,(hx4_.trans hx5_),?_⟩
   rw [zbO,if_neg c2];exact (hrow.ext hx5_).mono (by omega) (by omega)
 refine ⟨(hx1_.trans (hx2_.trans (hx3_.trans hx4_))),?_⟩
 have:k=s.stacks.length:=by omega
 subst this
 exact hrow.own.own.mono (by omega)
def F77 (a0 a1:Value) (w:World) (R:VW):Prop:=
 oP (Instr.box 28 a0) w fun x2 w=>
 oP (Instr.box 33 a1) w fun x3 w=>
 rF 33 x3 2 w fun x7=>
 rL 31 x7 w fun x8=>
 rN 31 3 x8 w fun x9=>
 LOOPI [5,10] [(Value.slice none 0 0),(iV 0)] w fun u3 w next3=>
 rC (u3 10) x9 w fun x11=>
 BR x11
 (rL 28 x2 w fun x13=>
 rL 33 x3 w fun x14=>
 cL 78 [x13,x14,(u3 10)] w fun x16 w=>
 BR x16
 (oP (Instr.buildSlice 25 1 #[(0,(u3 10))]) w fun x19 w=>
 oP (Builtin.append_ #[25,25] 25 [(u3 5),x19].toArray) w fun x20 w=>
 rA (u3 10) (iV 1) w fun x21=>
 next3 [x20,x21] w)
 (rA (u3 10) (iV 1) w fun x21=>
 next3 [(u3 5),x21] w))
 (R (u3 5) w)
def cfg77:Cfg:=⟨extL,[],[(3,4193376,[5,10])],[],[],[],[]⟩
theorem F77_call {a0 a1:Value} {w:World} {R:VW} (h:F77 a0 a1 w R):cL 77 [a0,a1] w R:=co (g:=cfg77) Tryz.func77 (by kernel_rfl) (by kernel_rfl) (by kernel_rfl) h
theorem zhA {w:World} {v0:Value} {W0:World} {c:DCode} {v1:Value} {W1:World} {s:DState}  (h0:Is W0 v0 c) (e0:Ext W0 w) (h1:Is W1 v1 s) (e1:Ext W1 w) (hc:CodeR c) (hs:zaB c s) :
   CALL Tryz.prog 77 [v0,v1] w fun r w'=>Ext w w'∧(Own w.heap.size w' r (zc4 c s)):=by
 refine F77_call ?_
 unfold F77
 have hmany:=hs.2.2.1
 have hs_e0:=e0.size
 have hs_e1:=e1.size
 refine zan zcD rfl h0 e0 fun w1_ hx1_ hA2 hV2=>?_
 have hs_hx1_:=hx1_.size
 refine zan zcj rfl h1 (e1.trans hx1_) fun w2_ hx2_ hA3 hV3=>?_
 have hs_hx2_:=hx2_.size
 refine zaa zaZ ?_
 refine zab zee (zaq hA3) (Ext.refl w2_) fun v8 h8=>?_
 have hln9:=zae h8
 refine zad u31 h8 ?_
 refine zaI (s.stacks.length) (fun k us w'=>∃ v:Value,us=[v,.int .i64 (k:Int)]∧Ext w2_ w'∧(RowI w2_.heap.size w'.heap.size 3 w' v (zbO c s k))) (0) (by omega) ⟨_,rfl,Ext.refl w2_,ze1 _ _ _ _⟩ ?_
 rintro k m3 uu3 w3_ hk3 ⟨v5,hu,hx3_,hrow⟩
 have hs_hx3_:=hx3_.size
 obtain ⟨hu0,hu1⟩:=zjy hu
 try rw [hu0]
 try rw [hu1]
 try clear hu0 hu1
 have hrl:=zeJ c s k
 refine zai ?_
 refine br (fun c1=>?_) (fun c1=>?_)
 · refine zar hV2 (hx2_.trans hx3_) ?_
   refine zar hV3 hx3_ ?_
   refine (zj1 h0 (e0.trans (hx1_.trans (hx2_.trans hx3_))) h1 (e1.trans (hx1_.trans (hx2_.trans hx3_))) (by assumption) (by assumption)).mono ?_
   rintro _ w4_ ⟨hx4_,rfl⟩
   have hs_hx4_:=hx4_.size
   refine br (fun c2=>?_) (fun c2=>?_)
   · refine zeA (α:=Int) u25 ty3 z3 zc3 (by decide) (hrow.ext hx4_) (by omega) (ownI_int (lo:=w4_.heap.size) (hi:=w4_.heap.size) (by first | assumption | (unfold I64 at *;omega))) (by omega) (by omega) (by rw [zap];omega) (by omega) fun v20 w5_ hc5_ o20=>?_
     have hs_hc5_:=hc5_.size
     refine zak (by omega) ?_
     refine ⟨m3-1,by omega,k+1,by omega,_,rfl,(Ext.chgI (hx3_.trans hx4_) hc5_ (by omega)),?_⟩
     rw [zbO,if_pos c2];exact o20
   refine zak (by omega) ?_
   refine ⟨m3-1,by omega,k+1,by omega,_,rfl,(hx3_.trans hx4_),?_⟩
   rw [zbO,if_neg c2];exact (hrow.ext hx4_).mono (by omega) (by omega)
 refine ⟨(hx1_.trans (hx2_.trans hx3_)),?_⟩
 have:k=s.stacks.length:=by omega
 subst this
 exact hrow.own.own.mono (by omega)
def zd5 (c:DCode) (s:DState):List Int:=if CodeR c∧zaB c s then zc4 c s else []
def F13 (a0 a1:Value) (w:World) (R:VW):Prop:=
 oP (Instr.box 28 a0) w fun x2 w=>
 oP (Instr.box 33 a1) w fun x3 w=>
 rL 28 x2 w fun x5=>
 rL 33 x3 w fun x6=>
 cL 74 [x5,x6] w fun x7 w=>
 rD (Op.unary .not x7) w fun x8=>
 BR x8
 (oP (Instr.buildSlice 25 0 #[]) w fun x9 w=>
 R x9 w)
 (rL 28 x2 w fun x10=>
 rL 33 x3 w fun x11=>
 cL 75 [x10,x11] w fun x12 w=>
 R x12 w)
def cfg13:Cfg:=⟨extL,[],[],[],[],[],[]⟩
theorem F13_call {a0 a1:Value} {w:World} {R:VW} (h:F13 a0 a1 w R):cL 13 [a0,a1] w R:=co (g:=cfg13) Tryz.func13 (by kernel_rfl) (by kernel_rfl) (by kernel_rfl) h
theorem zhd {w:World} {v0:Value} {W0:World} {c:DCode} {v1:Value} {W1:World} {s:DState}  (h0:Is W0 v0 c) (e0:Ext W0 w) (h1:Is W1 v1 s) (e1:Ext W1 w)  :
   CALL Tryz.prog 13 [v0,v1] w fun r w'=>Ext w w'∧(Own w.heap.size w' r (zd5 c s)):=by
 refine F13_call ?_
 unfold F13
 have hs_e0:=e0.size
 have hs_e1:=e1.size
 refine zan zcD rfl h0 e0 fun w1_ hx1_ hA2 hV2=>?_
 have hs_hx1_:=hx1_.size
 refine zan zcj rfl h1 (e1.trans hx1_) fun w2_ hx2_ hA3 hV3=>?_
 have hs_hx2_:=hx2_.size
 refine zar hV2 hx2_ ?_
 refine zar hV3 (Ext.refl w2_) ?_
 refine (zhc h0 (e0.trans (hx1_.trans hx2_)) h1 (e1.trans (hx1_.trans hx2_))).mono ?_
 rintro _ w3_ ⟨hx3_,rfl⟩
 have hs_hx3_:=hx3_.size
 refine zas ?_
 refine br (fun c1=>?_) (fun c1=>?_)
 · refine zbQ (α:=Int) u25 ty3 fun v9 w4_ hx4_ o9=>?_
   have hs_hx4_:=hx4_.size
   refine ⟨(hx1_.trans (hx2_.trans (hx3_.trans hx4_))),?_⟩
   unfold zd5;rw [if_neg c1];exact o9.own.own.mono (by omega)
 refine zar hV2 (hx2_.trans hx3_) ?_
 refine zar hV3 hx3_ ?_
 refine (zj2 h0 (e0.trans (hx1_.trans (hx2_.trans hx3_))) h1 (e1.trans (hx1_.trans (hx2_.trans hx3_))) (Decidable.not_not.1 c1).1 (Decidable.not_not.1 c1).2).mono ?_
 rintro r12 w5_ ⟨hx5_,o12⟩
 have o12:=o12.toI
 have hs_hx5_:=hx5_.size
 refine ⟨(hx1_.trans (hx2_.trans (hx3_.trans hx5_))),?_⟩
 unfold zd5;rw [if_pos (Decidable.not_not.1 c1)];exact o12.own.mono (by omega)
def F16 (a0 a1:Value) (w:World) (R:VW):Prop:=
 oP (Instr.box 28 a0) w fun x2 w=>
 oP (Instr.box 33 a1) w fun x3 w=>
 rL 28 x2 w fun x5=>
 rL 33 x3 w fun x6=>
 cL 14 [x5,x6] w fun x7 w=>
 rD (Op.unary .not x7) w fun x8=>
 BR x8
 (R (Value.slice none 0 0) w)
 (rL 28 x2 w fun x9=>
 rL 33 x3 w fun x10=>
 cL 77 [x9,x10] w fun x11 w=>
 R x11 w)
def cfg16:Cfg:=⟨extL,[],[],[],[],[],[]⟩
theorem F16_call {a0 a1:Value} {w:World} {R:VW} (h:F16 a0 a1 w R):cL 16 [a0,a1] w R:=co (g:=cfg16) Tryz.func16 (by kernel_rfl) (by kernel_rfl) (by kernel_rfl) h
theorem zhe {w:World} {v0:Value} {W0:World} {c:DCode} {v1:Value} {W1:World} {s:DState}  (h0:Is W0 v0 c) (e0:Ext W0 w) (h1:Is W1 v1 s) (e1:Ext W1 w)  :
   CALL Tryz.prog 16 [v0,v1] w fun r w'=>Ext w w'∧(Own w.heap.size w' r (zd5 c s)):=by
 refine F16_call ?_
 unfold F16
 have hs_e0:=e0.size
 have hs_e1:=e1.size
 refine zan zcD rfl h0 e0 fun w1_ hx1_ hA2 hV2=>?_
 have hs_hx1_:=hx1_.size
 refine zan zcj rfl h1 (e1.trans hx1_) fun w2_ hx2_ hA3 hV3=>?_
 have hs_hx2_:=hx2_.size
 refine zar hV2 hx2_ ?_
 refine zar hV3 (Ext.refl w2_) ?_
 refine (zbX h0 (e0.trans (hx1_.trans hx2_)) h1 (e1.trans (hx1_.trans hx2_))).mono ?_
 rintro _ w3_ ⟨hx3_,rfl⟩
 have hs_hx3_:=hx3_.size
 refine zas ?_
 refine br (fun c1=>?_) (fun c1=>?_)
 · refine ⟨(hx1_.trans (hx2_.trans hx3_)),?_⟩
   unfold zd5;rw [if_neg c1];exact zlE rfl
 refine zar hV2 (hx2_.trans hx3_) ?_
 refine zar hV3 hx3_ ?_
 refine (zhA h0 (e0.trans (hx1_.trans (hx2_.trans hx3_))) h1 (e1.trans (hx1_.trans (hx2_.trans hx3_))) (Decidable.not_not.1 c1).1 (Decidable.not_not.1 c1).2).mono ?_
 rintro r11 w4_ ⟨hx4_,o11⟩
 have o11:=o11.toI
 have hs_hx4_:=hx4_.size
 refine ⟨(hx1_.trans (hx2_.trans (hx3_.trans hx4_))),?_⟩
 unfold zd5;rw [if_pos (Decidable.not_not.1 c1)];exact o11.own.mono (by omega)
def zdu (c:DCode) (s:DState):Prop:=(CodeR c∧zaB c s)∧¬zhz s∧zc4 c s=[]
instance (c:DCode) (s:DState):Decidable (zdu c s):=by unfold zdu;infer_instance
def F18 (a0 a1:Value) (w:World) (R:VW):Prop:=
 oP (Instr.box 28 a0) w fun x2 w=>
 oP (Instr.box 33 a1) w fun x3 w=>
 rL 28 x2 w fun x5=>
 rL 33 x3 w fun x6=>
 cL 14 [x5,x6] w fun x7 w=>
 BR x7
 (rL 28 x2 w fun x9=>
 rL 33 x3 w fun x10=>
 cL 77 [x9,x10] w fun x11 w=>
 rN 25 3 x11 w fun x12=>
 rB .eql 3 T0 U0 x12 (iV 0) w fun x13=>
 BR x13
 (rL 33 x3 w fun x16=>
 cL 17 [x16] w fun x17 w=>
 rD (Op.unary .not x17) w fun x18=>
 R x18 w)
 (R (Value.bool false) w))
 (R (Value.bool false) w)
def cfg18:Cfg:=⟨extL,[],[],[],[],[],[]⟩
theorem F18_call {a0 a1:Value} {w:World} {R:VW} (h:F18 a0 a1 w R):cL 18 [a0,a1] w R:=co (g:=cfg18) Tryz.func18 (by kernel_rfl) (by kernel_rfl) (by kernel_rfl) h
theorem zgd {w:World} {v0:Value} {W0:World} {c:DCode} {v1:Value} {W1:World} {s:DState}  (h0:Is W0 v0 c) (e0:Ext W0 w) (h1:Is W1 v1 s) (e1:Ext W1 w)  :
   CALL Tryz.prog 18 [v0,v1] w fun r w'=>Ext w w'∧(r=.bool (decide (zdu c s))):=by
 refine F18_call ?_
 unfold F18
 refine zan zcD rfl h0 e0 fun w1_ hx1_ hA2 hV2=>?_
 refine zan zcj rfl h1 (e1.trans hx1_) fun w2_ hx2_ hA3 hV3=>?_
 refine zar hV2 hx2_ ?_
 refine zar hV3 (Ext.refl w2_) ?_
 refine (zbX h0 (e0.trans (hx1_.trans hx2_)) h1 (e1.trans (hx1_.trans hx2_))).mono ?_
 rintro _ w3_ ⟨hx3_,rfl⟩
 refine br (fun c1=>?_) (fun c1=>?_)
 · refine zar hV2 (hx2_.trans hx3_) ?_
   refine zar hV3 hx3_ ?_
   refine (zhA h0 (e0.trans (hx1_.trans (hx2_.trans hx3_))) h1 (e1.trans (hx1_.trans (hx2_.trans hx3_))) c1.1 c1.2).mono ?_
   rintro r11 w4_ ⟨hx4_,o11⟩
   have hln12:=zae o11.is
   refine zad u25 o11.is ?_
   refine zag ?_
   refine br (fun c2=>?_) (fun c2=>?_)
   · refine zar hV3 (hx3_.trans hx4_) ?_
     refine (zfj h1 (e1.trans (hx1_.trans (hx2_.trans (hx3_.trans hx4_))))).mono ?_
     rintro _ w5_ ⟨hx5_,rfl⟩
     refine zas ?_
     refine ⟨(hx1_.trans (hx2_.trans (hx3_.trans (hx4_.trans hx5_)))),?_⟩
     congr 1
     rw [decide_eq_decide]
     exact ⟨fun h=>⟨c1,h,List.eq_nil_of_length_eq_zero (by omega)⟩,fun h=>h.2.1⟩
   refine ⟨(hx1_.trans (hx2_.trans (hx3_.trans hx4_))),?_⟩
   have:¬zdu c s:=fun h=>c2 (by rw [h.2.2];rfl)
   simp only [this,decide_false]
 refine ⟨(hx1_.trans (hx2_.trans hx3_)),?_⟩
 have:¬zdu c s:=fun h=>c1 h.1
 simp only [this,decide_false]
theorem zii {n:Int} (h:0≤n):n.tmod 1000=n%1000:=Int.tmod_eq_emod_of_nonneg h
theorem zkK {n:Int} (h:n<0):n.tmod 1000=-((-n)%1000):=by
 have h1:(-n).tmod 1000=(-n)%1000:=Int.tmod_eq_emod_of_nonneg (by omega)
 rw [Int.neg_tmod] at h1
 omega
theorem zon (n:Int):-1000<n.tmod 1000∧n.tmod 1000<1000:=by
 rcases Int.lt_or_le n 0 with h | h
 · rw [zkK h];omega
 rw [zii h];omega
def F209 (a0:Value) (w:World) (R:VW):Prop:=
 rB .rem 3 T0 U0 a0 (iV 1000) w fun x4=>
 rA x4 (iV 1000) w fun x5=>
 rB .rem 3 T0 U0 x5 (iV 1000) w fun x6=>
 R x6 w
def cfg209:Cfg:=⟨extL,[],[],[],[],[],[]⟩
theorem F209_call {a0:Value} {w:World} {R:VW} (h:F209 a0 w R):cL 209 [a0] w R:=co (g:=cfg209) Tryz.func209 (by kernel_rfl) (by kernel_rfl) (by kernel_rfl) h
theorem zg2 {w:World} {n:Int}   (hn:I64 n) :
   CALL Tryz.prog 209 [.int .i64 n] w fun r w'=>Ext w w'∧(r=.int .i64 (n%1000)):=by
 refine F209_call ?_
 unfold F209
 have ht:=zon n
 refine zix (by omega) ?_
 refine zb6 (by unfold I64;omega) ?_
 refine zix (by omega) ?_
 refine ⟨Ext.refl w,?_⟩
 congr 1
 rw [zii (n:=n.tmod 1000+1000) (by omega)]
 rcases Int.lt_or_le n 0 with h | h
 · rw [zkK h];omega
 rw [zii h];omega
def F210 (a0:Value) (w:World) (R:VW):Prop:=
 BR a0
 (R (iV 1) w)
 (R (iV 0) w)
def cfg210:Cfg:=⟨extL,[],[],[],[],[],[]⟩
theorem F210_call {a0:Value} {w:World} {R:VW} (h:F210 a0 w R):cL 210 [a0] w R:=co (g:=cfg210) Tryz.func210 (by kernel_rfl) (by kernel_rfl) (by kernel_rfl) h
theorem zfk {w:World} {b:Bool}    :
   CALL Tryz.prog 210 [.bool b] w fun r w'=>Ext w w'∧(r=.int .i64 (if b=true then 1 else 0)):=by
 refine F210_call ?_
 unfold F210
 refine zdM (fun c1=>?_) (fun c1=>?_)
 · refine ⟨Ext.refl w,?_⟩
   rw [if_pos c1]
 refine ⟨Ext.refl w,?_⟩
 rw [if_neg (by simp [c1])]
def zaD:DTerm:=.mk 0 0 (ByteArray.mk #[]) []
def workT (names:List ByteArray) (vals:List Int):Nat→DTerm→Int
 | n,t=>if t.kind=1 then t.num%1000 else if t.kind=2 then (if 0≤plc t.name names∧plc t.name names<vals.length then vals.getD (plc t.name names).toNat 0%1000 else 0) else
   match n with
   | 0=>0
   | m+1=>
     if t.kind=8 then (if workT names vals m (t.kids.getD 0 zaD)=0 then 1 else 0)
     else if t.kind=3 then (workT names vals m (t.kids.getD 0 zaD)+workT names vals m (t.kids.getD 1 zaD))%1000
     else if t.kind=4 then (workT names vals m (t.kids.getD 0 zaD)-workT names vals m (t.kids.getD 1 zaD))%1000
     else if t.kind=5 then (workT names vals m (t.kids.getD 0 zaD)*workT names vals m (t.kids.getD 1 zaD))%1000
     else if t.kind=6 then (if workT names vals m (t.kids.getD 0 zaD)<workT names vals m (t.kids.getD 1 zaD) then 1 else 0)
     else if t.kind=7 then (if workT names vals m (t.kids.getD 0 zaD)=workT names vals m (t.kids.getD 1 zaD) then 1 else 0)
     else (if workT names vals m (t.kids.getD 0 zaD)≠0∧workT names vals m (t.kids.getD 1 zaD)≠0 then 1 else 0)
theorem zbu (names:List ByteArray) (vals:List Int) (n:Nat) (t:DTerm):workT names vals n t=(if t.kind=1 then t.num%1000 else if t.kind=2 then (if 0≤plc t.name names∧plc t.name names<vals.length then vals.getD (plc t.name names).toNat 0%1000 else 0) else
   match n with
   | 0=>0
   | m+1=>
     if t.kind=8 then (if workT names vals m (t.kids.getD 0 zaD)=0 then 1 else 0)
     else if t.kind=3 then (workT names vals m (t.kids.getD 0 zaD)+workT names vals m (t.kids.getD 1 zaD))%1000
     else if t.kind=4 then (workT names vals m (t.kids.getD 0 zaD)-workT names vals m (t.kids.getD 1 zaD))%1000
     else if t.kind=5 then (workT names vals m (t.kids.getD 0 zaD)*workT names vals m (t.kids.getD 1 zaD))%1000
     else if t.kind=6 then (if workT names vals m (t.kids.getD 0 zaD)<workT names vals m (t.kids.getD 1 zaD) then 1 else 0)
     else if t.kind=7 then (if workT names vals m (t.kids.getD 0 zaD)=workT names vals m (t.kids.getD 1 zaD) then 1 else 0)
     else (if workT names vals m (t.kids.getD 0 zaD)≠0∧workT names vals m (t.kids.getD 1 zaD)≠0 then 1 else 0)):=workT.eq_def names vals n t
theorem zdI (names:List ByteArray) (vals:List Int) (n:Nat) (t:DTerm):0≤workT names vals n t∧workT names vals n t≤999:=by
 rw [zbu]
 cases n<;>simp only<;>(repeat' split)<;>omega
theorem zoo {n:Nat} {t:DTerm} (h:zaE n t=true) (h1:¬t.kind=1) (h2:¬t.kind=2):∃ m,n=m+1∧0<t.kids.length∧zaE m (t.kids.getD 0 zaD)=true∧(¬t.kind=8→1<t.kids.length∧zaE m (t.kids.getD 1 zaD)=true):=by
 rw [zaJ h1 h2] at h
 simp only [Bool.and_eq_true,decide_eq_true_eq] at h
 obtain ⟨⟨_,h3⟩,h4⟩:=h
 cases n with
 | zero=>simp at h4
 | succ m=>
   have hall:∀ k∈t.kids,zaE m k=true:=fun k hk=>List.all_eq_true.1 h4 k hk
   have hg:∀ i,i<t.kids.length→zaE m (t.kids.getD i zaD)=true:=fun i hi=>by
     rw [List.getD_eq_getElem?_getD,List.getElem?_eq_getElem hi];exact hall _ (List.getElem_mem hi)
   have hpos:0<t.kids.length:=by split at h3<;>omega
   exact ⟨m,rfl,hpos,hg 0 hpos,fun h8=>by rw [if_neg h8] at h3;exact ⟨by omega,hg 1 (by omega)⟩⟩
def zo4 (f:Nat) (n:Nat):Prop:=∀ {w W W1 W2:World} {v v1 v2:Value} {t:DTerm} {names:List ByteArray} {vals:List Int},Is W v t→Ext W w→Is W1 v1 names→Ext W1 w→Is W2 v2 vals→Ext W2 w→zaE n t=true →
 CALL Tryz.prog f [v,v1,v2] w fun r w'=>Ext w w'∧r=.int .i64 (workT names vals n t)
def F140 (a0 a1 a2:Value) (w:World) (R:VW):Prop:=
 oP (Instr.box 75 a0) w fun x3 w=>
 rF 75 x3 0 w fun x10=>
 rL 3 x10 w fun x11=>
 rB .eql 3 T0 U0 x11 (iV 1) w fun x13=>
 BR x13
 (rF 75 x3 1 w fun x14=>
 rL 3 x14 w fun x15=>
 cL 209 [x15] w fun x16 w=>
 R x16 w)
 (rB .eql 3 T0 U0 x11 (iV 2) w fun x18=>
 BR x18
 (rF 75 x3 2 w fun x20=>
 rL 9 x20 w fun x21=>
 cL 134 [a1,x21] w fun x22 w=>
 rB .lss 3 T0 U0 x22 (iV 0) w fun x24=>
 BR x24
 (R (iV 0) w)
 (rN 25 3 a2 w fun x28=>
 rB .geq 3 T0 T0 x22 x28 w fun x29=>
 BR x29
 (R (iV 0) w)
 (rX 25 a2 x22 w fun x33=>
 rL 3 x33 w fun x34=>
 cL 209 [x34] w fun x35 w=>
 R x35 w)))
 (rF 75 x3 3 w fun x36=>
 rL 73 x36 w fun x37=>
 rX 73 x37 (iV 0) w fun x38=>
 rL 75 x38 w fun x39=>
 cL 140 [x39,a1,a2] w fun x42 w=>
 rF 75 x3 0 w fun x43=>
 rL 3 x43 w fun x44=>
 rB .eql 3 T0 U0 x44 (iV 8) w fun x45=>
 BR x45
 (rB .eql 3 T0 U0 x42 (iV 0) w fun x47=>
 cL 210 [x47] w fun x48 w=>
 R x48 w)
 (rF 75 x3 3 w fun x49=>
 rL 73 x49 w fun x50=>
 rX 73 x50 (iV 1) w fun x51=>
 rL 75 x51 w fun x52=>
 cL 140 [x52,a1,a2] w fun x55 w=>
 rF 75 x3 0 w fun x56=>
 rL 3 x56 w fun x57=>
 rB .eql 3 T0 U0 x57 (iV 3) w fun x59=>
 BR x59
 (rB .add 3 T0 T0 x42 x55 w fun x62=>
 cL 209 [x62] w fun x63 w=>
 R x63 w)
 (rB .eql 3 T0 U0 x57 (iV 4) w fun x65=>
 BR x65
 (rB .sub 3 T0 T0 x42 x55 w fun x68=>
 cL 209 [x68] w fun x69 w=>
 R x69 w)
 (rB .eql 3 T0 U0 x57 (iV 5) w fun x71=>
 BR x71
 (rB .mul 3 T0 T0 x42 x55 w fun x74=>
 cL 209 [x74] w fun x75 w=>
 R x75 w)
 (rB .eql 3 T0 U0 x57 (iV 6) w fun x77=>
 BR x77
 (rC x42 x55 w fun x80=>
 cL 210 [x80] w fun x81 w=>
 R x81 w)
 (rB .eql 3 T0 U0 x57 (iV 7) w fun x83=>
 BR x83
 (rB .eql 3 T0 T0 x42 x55 w fun x86=>
 cL 210 [x86] w fun x87 w=>
 R x87 w)
 (rB .neq 3 T0 U0 x42 (iV 0) w fun x89=>
 BR x89
 (rB .neq 3 T0 U0 x55 (iV 0) w fun x92=>
 cL 210 [x92] w fun x94 w=>
 R x94 w)
 (cL 210 [(Value.bool false)] w fun x94 w=>
 R x94 w)))))))))
def cfg140:Cfg:=⟨extL,[],[],[],[],[],[]⟩
theorem F140_call {a0 a1 a2:Value} {w:World} {R:VW} (h:F140 a0 a1 a2 w R):cL 140 [a0,a1,a2] w R:=co (g:=cfg140) Tryz.func140 (by kernel_rfl) (by kernel_rfl) (by kernel_rfl) h
theorem zf6 {w:World} {v0:Value} {W0:World} {t:DTerm} {v1:Value} {W1:World} {names:(List ByteArray)} {v2:Value} {W2:World} {vals:(List Int)} {n:Nat} (h0:Is W0 v0 t) (e0:Ext W0 w) (h1:Is W1 v1 names) (e1:Ext W1 w) (h2:Is W2 v2 vals) (e2:Ext W2 w) (ih:∀ m,n=m+1→zo4 140 m) (hok:zaE n t=true) :
   CALL Tryz.prog 140 [v0,v1,v2] w fun r w'=>Ext w w'∧(r=.int .i64 (workT names vals n t)):=by
 refine F140_call ?_
 unfold F140
 refine zan zb3 rfl h0 e0 fun w1_ hx1_ hA3 hV3=>?_
 refine zaa zdk ?_
 refine zac ty3 (za5 hA3) (Ext.refl w1_) fun hI11=>?_
 refine zag ?_
 refine br (fun c1=>?_) (fun c1=>?_)
 · refine zaa zdK ?_
   refine zac ty3 (zbf hA3) (Ext.refl w1_) fun hI15=>?_
   refine (zg2 (by first | assumption | (unfold I64 at *;omega))).mono ?_
   rintro _ w2_ ⟨hx2_,rfl⟩
   refine ⟨(hx1_.trans hx2_),?_⟩
   rw [zbu names vals n t,if_pos c1]
 refine zag ?_
 refine br (fun c2=>?_) (fun c2=>?_)
 · refine zaa zc0 ?_
   refine zam ty9 (zaY hA3) (Ext.refl w1_) fun hS21=>?_
   refine (zeB h1 (e1.trans hx1_)).mono ?_
   rintro _ w3_ ⟨hx3_,rfl⟩
   refine zai ?_
   refine br (fun c3=>?_) (fun c3=>?_)
   · refine ⟨(hx1_.trans hx3_),?_⟩
     rw [zbu,if_neg c1,if_pos c2,if_neg (by omega)]
   have hln28:=zae h2
   refine zad u25 h2 ?_
   refine zbI ?_
   refine br (fun c4=>?_) (fun c4=>?_)
   · refine ⟨(hx1_.trans hx3_),?_⟩
     rw [zbu,if_neg c1,if_pos c2,if_neg (by omega)]
   refine zau u25 ty3 h2 (by omega) (by omega) fun b33 o33 h33=>?_
   refine zac ty3 h33 (e2.trans (hx1_.trans hx3_)) fun hI34=>?_
   refine (zg2 (by first | assumption | (unfold I64 at *;omega))).mono ?_
   rintro _ w4_ ⟨hx4_,rfl⟩
   refine ⟨(hx1_.trans (hx3_.trans hx4_)),?_⟩
   rw [zbu,if_neg c1,if_pos c2,if_pos (by omega)]
   congr 1
   rw [List.getD_eq_getElem?_getD,List.getElem?_eq_getElem (by omega)];rfl
 refine zaa zbl ?_
 refine zab zfo (zax hA3) (Ext.refl w1_) fun v37 h37=>?_
 obtain ⟨m,hn1,hk0,hok0,hk1⟩:=zoo hok c1 c2
 have hw0:=zdI names vals m (t.kids.getD 0 zaD)
 have hw1:=zdI names vals m (t.kids.getD 1 zaD)
 refine zau u73 zb3 h37 (by omega) (by omega) fun b38 o38 h38=>?_
 have hgd:t.kids[(0:Int).toNat]'(by simpa using hk0)=t.kids.getD 0 zaD:=by rw [List.getD_eq_getElem?_getD,List.getElem?_eq_getElem hk0];rfl
 rw [hgd] at h38
 refine zab zb3 h38 (Ext.refl w1_) fun v39 h39=>?_
 refine (ih m hn1 h39 (Ext.refl w1_) h1 (e1.trans hx1_) h2 (e2.trans hx1_) (by assumption)).mono ?_
 rintro _ w5_ ⟨hx5_,rfl⟩
 refine zaa zdk ?_
 refine zac ty3 (za5 hA3) hx5_ fun hI44=>?_
 refine zag ?_
 refine br (fun c5=>?_) (fun c5=>?_)
 · refine zag ?_
   refine (zfk ).mono ?_
   rintro _ w6_ ⟨hx6_,rfl⟩
   refine ⟨(hx1_.trans (hx5_.trans hx6_)),?_⟩
   rw [zbu names vals n t,if_neg c1,if_neg c2,hn1]
   simp only [c5,if_true,decide_eq_true_eq]
 refine zaa zbl ?_
 refine zab zfo (zax hA3) hx5_ fun v50 h50=>?_
 obtain ⟨hk2,hok1⟩:=hk1 c5
 refine zau u73 zb3 h50 (by omega) (by omega) fun b51 o51 h51=>?_
 have hgd1:t.kids[(1:Int).toNat]'(by simpa using hk2)=t.kids.getD 1 zaD:=by rw [List.getD_eq_getElem?_getD,List.getElem?_eq_getElem hk2];rfl
 rw [hgd1] at h51
 refine zab zb3 h51 hx5_ fun v52 h52=>?_
 refine (ih m hn1 h52 hx5_ h1 (e1.trans (hx1_.trans hx5_)) h2 (e2.trans (hx1_.trans hx5_)) (by assumption)).mono ?_
 rintro _ w7_ ⟨hx7_,rfl⟩
 refine zaa zdk ?_
 refine zac ty3 (za5 hA3) (hx5_.trans hx7_) fun hI57=>?_
 refine zag ?_
 refine br (fun c6=>?_) (fun c6=>?_)
 · refine zb6 (by unfold I64;omega) ?_
   refine (zg2 (by first | assumption | (unfold I64 at *;omega))).mono ?_
   rintro _ w8_ ⟨hx8_,rfl⟩
   refine ⟨(hx1_.trans (hx5_.trans (hx7_.trans hx8_))),?_⟩
   rw [zbu names vals n t,if_neg c1,if_neg c2,hn1]
   dsimp only
   generalize workT names vals m (t.kids.getD 0 zaD)=a at *
   generalize workT names vals m (t.kids.getD 1 zaD)=b at *
   simp_all
 refine zag ?_
 refine br (fun c7=>?_) (fun c7=>?_)
 · refine zaX (by unfold I64;omega) ?_
   refine (zg2 (by first | assumption | (unfold I64 at *;omega))).mono ?_
   rintro _ w9_ ⟨hx9_,rfl⟩
   refine ⟨(hx1_.trans (hx5_.trans (hx7_.trans hx9_))),?_⟩
   rw [zbu names vals n t,if_neg c1,if_neg c2,hn1]
   dsimp only
   generalize workT names vals m (t.kids.getD 0 zaD)=a at *
   generalize workT names vals m (t.kids.getD 1 zaD)=b at *
   simp_all
 refine zag ?_
 refine br (fun c8=>?_) (fun c8=>?_)
 · refine ziw (by unfold I64;have h1:=Int.mul_nonneg hw0.1 hw1.1;have h2:=Int.mul_le_mul hw0.2 hw1.2 hw1.1 (by omega:(0:Int)≤999);omega) ?_
   have hmul:=Int.mul_nonneg hw0.1 hw1.1;have hmul2:=Int.mul_le_mul hw0.2 hw1.2 hw1.1 (by omega:(0:Int)≤999)
   refine (zg2 (by first | assumption | (unfold I64 at *;omega))).mono ?_
   rintro _ w10_ ⟨hx10_,rfl⟩
   refine ⟨(hx1_.trans (hx5_.trans (hx7_.trans hx10_))),?_⟩
   rw [zbu names vals n t,if_neg c1,if_neg c2,hn1]
   dsimp only
   generalize workT names vals m (t.kids.getD 0 zaD)=a at *
   generalize workT names vals m (t.kids.getD 1 zaD)=b at *
   simp_all
 refine zag ?_
 refine br (fun c9=>?_) (fun c9=>?_)
 · refine zai ?_
   refine (zfk ).mono ?_
   rintro _ w11_ ⟨hx11_,rfl⟩
   refine ⟨(hx1_.trans (hx5_.trans (hx7_.trans hx11_))),?_⟩
   rw [zbu names vals n t,if_neg c1,if_neg c2,hn1]
   dsimp only
   generalize workT names vals m (t.kids.getD 0 zaD)=a at *
   generalize workT names vals m (t.kids.getD 1 zaD)=b at *
   simp_all
 refine zag ?_
 refine br (fun c10=>?_) (fun c10=>?_)
 · refine zag ?_
   refine (zfk ).mono ?_
   rintro _ w12_ ⟨hx12_,rfl⟩
   refine ⟨(hx1_.trans (hx5_.trans (hx7_.trans hx12_))),?_⟩
   rw [zbu names vals n t,if_neg c1,if_neg c2,hn1]
   dsimp only
   generalize workT names vals m (t.kids.getD 0 zaD)=a at *
   generalize workT names vals m (t.kids.getD 1 zaD)=b at *
   simp_all
 refine zaQ ?_
 refine br (fun c11=>?_) (fun c11=>?_)
 · refine zaQ ?_
   refine (zfk ).mono ?_
   rintro _ w13_ ⟨hx13_,rfl⟩
   refine ⟨(hx1_.trans (hx5_.trans (hx7_.trans hx13_))),?_⟩
   rw [zbu names vals n t,if_neg c1,if_neg c2,hn1]
   dsimp only
   generalize workT names vals m (t.kids.getD 0 zaD)=a at *
   generalize workT names vals m (t.kids.getD 1 zaD)=b at *
   simp_all
 refine (zfk ).mono ?_
 rintro _ w14_ ⟨hx14_,rfl⟩
 refine ⟨(hx1_.trans (hx5_.trans (hx7_.trans hx14_))),?_⟩
 rw [zbu names vals n t,if_neg c1,if_neg c2,hn1]
 dsimp only
 generalize workT names vals m (t.kids.getD 0 zaD)=a at *
 generalize workT names vals m (t.kids.getD 1 zaD)=b at *
 simp_all
theorem zhB (n:Nat):zo4 140 n:=by
 induction n with
 | zero=>intro w W W1 W2 v v1 v2 t names vals h e h1 e1 h2 e2 hok;exact zf6 h e h1 e1 h2 e2 (fun m hm=>by omega) hok
 | succ n ih=>intro w W W1 W2 v v1 v2 t names vals h e h1 e1 h2 e2 hok;exact zf6 h e h1 e1 h2 e2 (fun m hm=>Nat.succ.inj hm▸ih) hok
def F80 (a0 a1 a2:Value) (w:World) (R:VW):Prop:=
 oP (Instr.box 28 a0) w fun x3 w=>
 oP (Instr.box 33 a1) w fun x4 w=>
 oP (Instr.alloc 33 true (.tuple #[])) w fun x6 w=>
 rL 33 x4 w fun x12=>
 cL 79 [x12] w fun x13 w=>
 oP (Instr.alloc 33 true (.tuple #[])) w fun x7 w=>
 oS 33 x7 x13 w fun w=>
 rF 33 x7 2 w fun x14=>
 rL 31 x14 w fun x15=>
 rX 31 x15 a2 w fun x17=>
 rL 25 x17 w fun x18=>
 rN 25 3 x18 w fun x20=>
 rB .sub 3 T0 U0 x20 (iV 1) w fun x21=>
 (fun w=>rF 28 x3 4 w fun x22=>
 rL 26 x22 w fun x23=>
 rX 25 x18 x21 w fun x26=>
 rL 3 x26 w fun x27=>
 rX 26 x23 x27 w fun x28=>
 rL 77 x28 w fun x29=>
 (fun w_=>oP (Instr.alloc 77 true (.tuple #[])) w_ fun x10 w=>
 Ext w_ w ∧
 (oS 77 x10 x29 w fun w=>
 rX 25 x18 x21 w fun x32=>
 rL 3 x32 w fun x33=>
 rA x33 (iV 1) w fun x34=>
 JOIN [11] (fun J30=>
 rF 77 x10 0 w fun x35=>
 rL 3 x35 w fun x36=>
 rB .eql 3 T0 U0 x36 (iV 1) w fun x38=>
 BR x38
 ((fun w=>rF 33 x7 0 w fun x39=>
 rL 25 x39 w fun x40=>
 rF 77 x10 1 w fun x41=>
 rL 3 x41 w fun x42=>
 rF 77 x10 2 w fun x43=>
 rL 75 x43 w fun x44=>
 rF 28 x3 0 w fun x45=>
 rL 24 x45 w fun x46=>
 rF 33 x4 0 w fun x47=>
 rL 25 x47 w fun x48=>
 (fun w_=>cL 140 [x44,x46,x48] w_ fun x49 w=>
 Ext w_ w ∧
 rX 25 x40 x42 w fun x50=>
 oS 3 x50 x49 w fun w=>
 J30 [x34] w) w) (World.drew1 w))
 (rB .eql 3 T0 U0 x36 (iV 2) w fun x52=>
 BR x52
 (rF 77 x10 2 w fun x53=>
 rL 75 x53 w fun x54=>
 rF 28 x3 0 w fun x55=>
 rL 24 x55 w fun x56=>
 rF 33 x4 0 w fun x57=>
 rL 25 x57 w fun x58=>
 cL 140 [x54,x56,x58] w fun x59 w=>
 rB .eql 3 T0 U0 x59 (iV 0) w fun x60=>
 BR x60
 (rF 77 x10 3 w fun x61=>
 rL 3 x61 w fun x62=>
 J30 [x62] w)
 (J30 [x34] w))
 (rB .eql 3 T0 U0 x36 (iV 3) w fun x64=>
 BR x64
 (rF 77 x10 3 w fun x65=>
 rL 3 x65 w fun x66=>
 J30 [x66] w)
 (rB .eql 3 T0 U0 x36 (iV 4) w fun x68=>
 BR x68
 ((fun w=>XR fun X=>RDX tp X (Instr.fieldAt 33 x7 2) w fun x69=>
 RDX tp X (Instr.loadAt 31 x69) w fun x70=>
 RDX tp X (Instr.fieldAt 28 x3 3) w fun x73=>
 RDX tp X (Instr.loadAt 25 x73) w fun x74=>
 RDX tp X (Instr.fieldAt 77 x10 1) w fun x75=>
 RDX tp X (Instr.loadAt 3 x75) w fun x76=>
 RDX tp X (Instr.indexAt 25 x74 x76) w fun x77=>
 RDX tp X (Instr.loadAt 3 x77) w fun x78=>
 (fun w_=>oP (Instr.buildSlice 25 1 #[(0,x78)]) w_ fun x79 w=>
 ExtX X w_ w ∧
 ((fun w_=>oP (Builtin.append_ #[25,25] 25 [x18,x79].toArray) w_ fun x80 w=>
 ExtX X w_ w ∧
 (RDX tp X (Instr.indexAt 31 x70 a2) w fun x81=>
 oS 25 x81 x80 w fun w=>
 rL 33 x7 w fun x82=>
 oS 33 x6 x82 w fun w=>
 rD (zaz 33 x6) w fun r6=>R r6 w)) w)) w) (World.drew1 w))
 (rB .eql 3 T0 U0 x36 (iV 5) w fun x84=>
 BR x84
 (rF 33 x7 2 w fun x85=>
 rL 31 x85 w fun x86=>
 rN 31 3 x86 w fun x87=>
 rB .lss 3 T0 U0 x87 (iV 6) w fun x88=>
 BR x88
 ((fun w=>rF 33 x7 2 w fun x89=>
 rL 31 x89 w fun x90=>
 rF 28 x3 3 w fun x91=>
 rL 25 x91 w fun x92=>
 rF 77 x10 1 w fun x93=>
 rL 3 x93 w fun x94=>
 rX 25 x92 x94 w fun x95=>
 rL 3 x95 w fun x96=>
 (fun w_=>oP (Instr.buildSlice 25 1 #[(0,x96)]) w_ fun x97 w=>
 Ext w_ w ∧
 ((fun w_=>oP (Instr.buildSlice 31 1 #[(0,x97)]) w_ fun x98 w=>
 Ext w_ w ∧
 (oP (Builtin.append_ #[31,31] 31 [x90,x98].toArray) w fun x99 w=>
 rF 33 x7 2 w fun x100=>
 oS 31 x100 x99 w fun w=>
 J30 [x34] w)) w)) w) (World.drew1 w))
 (J30 [x34] w))
 (rB .eql 3 T0 U0 x36 (iV 6) w fun x102=>
 BR x102
 (rF 33 x7 1 w fun x103=>
 rL 25 x103 w fun x104=>
 rF 77 x10 1 w fun x105=>
 rL 3 x105 w fun x106=>
 rX 25 x104 x106 w fun x108=>
 oS 3 x108 a2 w fun w=>
 J30 [x34] w)
 (rB .eql 3 T0 U0 x36 (iV 7) w fun x110=>
 BR x110
 (rF 33 x7 1 w fun x111=>
 rL 25 x111 w fun x112=>
 rF 77 x10 1 w fun x113=>
 rL 3 x113 w fun x114=>
 rX 25 x112 x114 w fun x115=>
 rL 3 x115 w fun x116=>
 rB .eql 3 T0 T0 x116 a2 w fun x118=>
 BR x118
 (rF 33 x7 1 w fun x119=>
 rL 25 x119 w fun x120=>
 rF 77 x10 1 w fun x121=>
 rL 3 x121 w fun x122=>
 rX 25 x120 x122 w fun x123=>
 oS 3 x123 (iV (-1)) w fun w=>
 J30 [x34] w)
 (J30 [x34] w))
 (rB .eql 3 T0 U0 x36 (iV 9) w fun x125=>
 BR x125
 ((fun w=>rF 33 x7 2 w fun x126=>
 rL 31 x126 w fun x127=>
 rD (Instr.sliceAt 25 x18 none (some x21) (some x21)) w fun x132=>
 rX 31 x127 a2 w fun x133=>
 oS 25 x133 x132 w fun w=>
 rB .gtr 3 T0 U0 x21 (iV 0) w fun x135=>
 BR x135
 (rB .sub 3 T0 U0 x21 (iV 1) w fun x138=>
 rX 25 x18 x138 w fun x139=>
 rL 3 x139 w fun x140=>
 rA x140 (iV 1) w fun x141=>
 rX 25 x18 x138 w fun x142=>
 oS 3 x142 x141 w fun w=>
 rL 33 x7 w fun x143=>
 oS 33 x6 x143 w fun w=>
 rD (zaz 33 x6) w fun r6=>R r6 w)
 (rL 33 x7 w fun x143=>
 oS 33 x6 x143 w fun w=>
 rD (zaz 33 x6) w fun r6=>R r6 w)) (World.drew1 w))
 (J30 [x34] w))))))))) (fun u30 w=>
 rX 25 x18 x21 w fun x147=>
 oS 3 x147 (u30 11) w fun w=>
 rL 33 x7 w fun x148=>
 oS 33 x6 x148 w fun w=>
 rD (zaz 33 x6) w fun r6=>R r6 w))) w) (World.drew1 w)
def cfg80:Cfg:={ ext:=extL,joins:=[(30,22300745198530623141535718272648327146244096,[11])],loops:=[],draws:=[(4,[0,1,2,3,4,5,6,7,8,9],256),(8,[0,1,2,3,4,5,6,7,8,9,10,11,12],1024),(15,[0,1,2,3,4,5,6,7,8,9,10,11,12,13],3072),(19,[0,1,2,3,4,5,6,7,8,9,10,11,12],768),(26,[0,1,2,3,4,5,6,7,8],0)],pars:=[],xs:=[15] }
theorem F80_call {a0 a1 a2:Value} {w:World} {R:VW} (h:F80 a0 a1 a2 w R):cL 80 [a0,a1,a2] w R:=co (g:=cfg80) Tryz.func80 (by kernel_rfl) (by kernel_rfl) (by kernel_rfl) h
def zdv (c:DCode) (s:DState) (t:Int):Int:=
 if (atI c s t).op=2 then (if workT c.globals s.vars 6 (atI c s t).term=0 then (atI c s t).to else zc7 s t+1) else if (atI c s t).op=3 then (atI c s t).to else zc7 s t+1
def zbc (c:DCode) (s:DState) (t:Int):DState:=
 if (atI c s t).op=1 then ⟨s.vars.set (atI c s t).arg.toNat (workT c.globals s.vars 6 (atI c s t).term),s.owner,s.stacks⟩
 else if (atI c s t).op=5 then (if s.stacks.length<6 then ⟨s.vars,s.owner,s.stacks++[[en c (atI c s t).arg.toNat]]⟩ else s)
 else if (atI c s t).op=6 then ⟨s.vars,s.owner.set (atI c s t).arg.toNat t,s.stacks⟩
 else if (atI c s t).op=7 then (if ow s (atI c s t).arg=t then ⟨s.vars,s.owner.set (atI c s t).arg.toNat (-1),s.stacks⟩ else s)
 else s
def zi8 (l:List Int):List Int:=if l.length-1=0 then [] else (l.take (l.length-1)).set (l.length-2) (st l (l.length-2)+1)
def zdw (c:DCode) (s:DState) (t:Int):DState:=
 if (atI c s t).op=4 then ⟨s.vars,s.owner,s.stacks.set t.toNat (stk s t++[en c (atI c s t).arg.toNat])⟩
 else if (atI c s t).op=9 then ⟨s.vars,s.owner,s.stacks.set t.toNat (zi8 (stk s t))⟩
 else ⟨(zbc c s t).vars,(zbc c s t).owner,(zbc c s t).stacks.set t.toNat ((stk s t).set ((stk s t).length-1) (zdv c s t))⟩
theorem zop {lo hi:Nat} {w:World} {v:Value} {z:DStV} (h:OwnI lo hi w v z):OwnI lo hi w v z.er:=by
 obtain ⟨F,⟨⟨cs,hr,hv⟩,hn,hw⟩,hF⟩:=h
 obtain ⟨F0,c0,F1,c1,F2,c2,rfl,rfl,h0,h1,h2⟩:=zkG hr
 exact ⟨_,⟨⟨_,zhl (x:=z.er) h0 h1 (znH h2),hv⟩,hn,hw⟩,hF⟩
theorem zkL {c:DCode} {s:DState} {t:Int} (hs:zaB c s) (hg:0≤zc7 s t):∃ tn:Nat,t=tn∧tn<s.stacks.length∧stk s t≠[]∧(stk s t).length≤8∧zc7 s t=st (stk s t) ((stk s t).length-1):=by
 obtain ⟨h0,h1⟩:=zd4 hg
 have h2:=zkJ h0 h1
 have hne:stk s t≠[]:=fun e=>by rw [h2,e] at hg;simp [List.getLastD] at hg
 have hm:=hs.2.2.2.2.2 (stk s t) (by rw [←zd3 h1];exact List.getElem_mem _)
 exact ⟨t.toNat,by omega,h1,hne,hm.1,by rw [h2,zmy hne]⟩
theorem zmz {c:DCode} {s:DState} (hc:CodeR c) (hs:zaB c s):zpc s:=by
 have h1:=hc.1.globals6
 have h2:=hc.1.locks6
 have h3:=hs.1
 have h4:=hs.2.1
 have h5:=hs.2.2.1
 exact ⟨by omega,by omega,by omega,fun x hx=>by have:=(hs.2.2.2.2.2 x hx).1;omega⟩
theorem zeK {P:Program} {w:World} {t e:TypeId} {b a n cap sz by_ k:Nat} {ag:Bool} {u:Value} {K:Value→Prop} (ht:P.underlying t=some (.slice e)) (he:tyI P e=some (sz,by_,ag)) (hu:u=.slice (some ⟨b,a,none⟩) n cap) (hk:k<n) (kk:K (.pointer (some ⟨b,a+k*sz,none⟩))) :
   RD P (Instr.indexAt t u (.int .i64 (k:Int))) w K:=by
 subst hu
 exact zaU (fun w' _=>by rw [zbw ht he (by omega) (by omega)];simp) kk
theorem zi9 {lo hi g k:Nat} {w:World} {z:DStV} (h:VarI lo hi w g z) (hg:lo≤g∧g<hi) (hk:k<z.owner.length):∃ u b a cap,w.rangeAt g (0+1) [u]∧Is w u z.owner∧u=.slice (some ⟨b,a,none⟩) z.owner.length cap ∧
   ∀ w1,Ext w w1→∀ (val:Int),I64 val→∀ K:World→Prop,(∀ w2,ChgI lo hi w1 w2→VarI lo hi w2 g (⟨z.vars,z.owner.set k val,z.stacks⟩:DStV)→K w2)→OPU Tryz.prog (Instr.storeAt 3 (.pointer (some ⟨b,a+k*1,none⟩)) (.int .i64 val)) w1 K:=by
 obtain ⟨F,hO,hF⟩:=h
 obtain ⟨G1,hL1⟩:=zjT (Lens.var hO)
 obtain ⟨u,b,a,cap,G2,hr,hIs,hu,hL2⟩:=hL1.elem hk
 exact ⟨u,b,a,cap,hr,hIs,hu,fun w1 hx val hI K kk=>zgl ty3 (hL2.ext hx) hF hg (zcp hI) kk⟩
theorem znr {lo hi g k:Nat} {w:World} {z:DStV} (h:VarI lo hi w g z) (hg:lo≤g∧g<hi) (hk:k<z.vars.length):∃ u b a cap,w.rangeAt g (0+0) [u]∧Is w u z.vars∧u=.slice (some ⟨b,a,none⟩) z.vars.length cap ∧
   ∀ w1,Ext w w1→∀ (val:Int),I64 val→∀ K:World→Prop,(∀ w2,ChgI lo hi w1 w2→VarI lo hi w2 g (⟨z.vars.set k val,z.owner,z.stacks⟩:DStV)→K w2)→OPU Tryz.prog (Instr.storeAt 3 (.pointer (some ⟨b,a+k*1,none⟩)) (.int .i64 val)) w1 K:=by
 obtain ⟨F,hO,hF⟩:=h
 obtain ⟨G1,hL1⟩:=zjS (Lens.var hO)
 obtain ⟨u,b,a,cap,G2,hr,hIs,hu,hL2⟩:=hL1.elem hk
 exact ⟨u,b,a,cap,hr,hIs,hu,fun w1 hx val hI K kk=>zgl ty3 (hL2.ext hx) hF hg (zcp hI) kk⟩
theorem zdJ {w:World} {b o:Nat} {u u':Value} (h:w.rangeAt b o [u]) (h':w.rangeAt b o [u']):u=u':=by
 have h1:=h 0 u rfl
 have h2:=h' 0 u' rfl
 rw [h1] at h2
 exact Option.some.inj h2
theorem znN {w:World} {F:List Nat} {g:Nat} {z:DStV} (h:OAt F w g 0 z):OAt F w g 0 z.er:=by
 obtain ⟨cs,hr,rest⟩:=h
 obtain ⟨F0,c0,F1,c1,F2,c2,rfl,rfl,h0,h1,h2⟩:=zkG hr
 exact ⟨_,zhl (x:=z.er) h0 h1 (znH h2),rest⟩
theorem zo5 {P:Program} {w:World} {t e:TypeId} {by_:Nat} {u:Value} {l:List Int} {G:List Nat} {k:Nat} {K:Value→Prop} (ht:P.underlying t=some (.slice e)) (he:tyI P e=some (1,by_,false)) (hm:Mine G w u l) (hk:k≤l.length) (hne:l≠[])
   (kk:∀ b a cap v G',u=.slice (some ⟨b,a,none⟩) l.length cap→Mine G' w v (l.take k)→(∀ c∈G',c∈G)→(0<k→v=.slice (some ⟨b,a,none⟩) k k)→K v):RD P (Instr.sliceAt t u none (some (.int .i64 (k:Int))) (some (.int .i64 (k:Int)))) w K:=by
 obtain ⟨⟨cs,⟨a,cap,Fi,xs,rfl,h1,h2,hc,h4⟩,rfl⟩,hn,hw⟩:=hm
 rcases h4 with ⟨h4,_⟩ | ⟨b,o,rfl,rfl,hr,hb⟩
 · exact absurd h4 hne
 have hFi:=Cells.flat (xs:=xs) hc
 subst hFi
 have hbd:∀ w',(Instr.sliceBounds true l.length cap none (some (.int .i64 (k:Int))) (some (.int .i64 (k:Int)))).run P w'=.ok (0,k,k) w':=fun w'=>by
   have h5:(k:Int)≤(cap:Int):=by omega
   simp [Instr.sliceBounds,Instr.sliceBound,asIntOf,h5]
 have e0:l=l.take k++l.drop k:=by simp
 have hc':=hc
 rw [e0] at hc'
 obtain ⟨F1,F2,x1,x2,hFF,rfl,c1,c2⟩:=Cells.split hc'
 obtain ⟨rfl,rfl⟩:=List.append_eq_nil_iff.1 hFF.symm
 have hlk:(l.take k).length=k:=by simp;omega
 have hval:∃ v:Value,(∀ w',(Instr.sliceAt t (.slice (some ⟨b,o,none⟩) l.length cap) none (some (.int .i64 (k:Int))) (some (.int .i64 (k:Int)))).run P w'=.ok v w')∧v=.slice (some ⟨b,o,none⟩) k k:=by
   refine ⟨_,fun w'=>?_,rfl⟩
   simp only [Instr.sliceAt,Instr.slice,Sem.run_bind,run_underlying ht,Result.andThen_ok,hbd,zaC he]
   simp [Addr.add_mid]
 obtain ⟨v,hrun,rfl⟩:=hval
 refine zaU (fun w' _=>hrun w') ?_
 by_cases h0:k=0
 · subst h0
   refine kk b o cap _ [] rfl ?_ (by simp) (fun h=>by omega)
   have:l.take 0=[]:=by simp
   rw [this]
   exact ⟨⟨_,⟨some ⟨b,o,none⟩,0,[],[],rfl,Nat.le_refl _,Nat.zero_le _,⟨rfl,rfl⟩,.inl ⟨rfl,rfl⟩⟩,rfl⟩,List.nodup_nil,Wr.nil w⟩
 refine kk b o cap _ [b] rfl ?_ (by simp) (fun _=>rfl)
 refine ⟨⟨_,⟨some ⟨b,o,none⟩,k,[],x1,rfl,by rw [hlk];exact Nat.le_refl _,by omega,c1,.inr ⟨b,o,rfl,rfl,(zav hr).1,hb⟩⟩,by rw [hlk];rfl⟩,by simp,hw.sub (by simp)⟩
theorem zmA {lo hi g:Nat} {w:World} {z:DStV} (h:VarI lo hi w g z):VarI lo hi w g z.er:=by
 obtain ⟨F,h,hF⟩:=h;exact ⟨F,znN h,hF⟩
theorem zpu {lo hi:Nat} {w:World} {v:Value} {z:DState} (h:OwnI lo hi w v z):∃ a b c,v=.agg #[a,b,c]:=by
 obtain ⟨F,⟨⟨cs,hr,rfl⟩,_⟩,_⟩:=h
 obtain ⟨F0,c0,F1,c1,F2,c2,rfl,rfl,⟨_,_,_,_,rfl,_⟩,⟨_,_,_,_,rfl,_⟩,⟨_,_,_,_,rfl,_⟩⟩:=zhm hr
 exact ⟨_,_,_,rfl⟩
theorem zoq {c:DCode} {s:DState} {t:Int} (hc:CodeR c) (hs:zaB c s) (h:0≤zc7 s t) (ho:(atI c s t).op=1):0≤(atI c s t).arg∧(atI c s t).arg.toNat<s.vars.length:=by
 have h1:=(zg1 hc hs h).2.1
 have h2:=hs.1
 unfold zbj at h1
 rw [if_pos ho] at h1
 omega
theorem zgq {c:DCode} {s:DState} {t:Int} (hc:CodeR c) (hs:zaB c s) (h:0≤zc7 s t) (ho:(atI c s t).op=4∨(atI c s t).op=5):0≤(atI c s t).arg∧(atI c s t).arg.toNat<c.entry.length:=by
 have h1:=(zg1 hc hs h).2.1
 have h2:=hc.2.1.1
 unfold zbj at h1
 rw [if_neg (by omega),if_pos ho] at h1
 omega
theorem zlj {w W0 W1:World} {v0 v1:Value} {c:DCode} {s:DState} {t:Int} (h0:Is W0 v0 c) (e0:Ext W0 w) (h1:Is W1 v1 s) (e1:Ext W1 w) (hc:CodeR c) (hs:zaB c s) (hgo:GoR c s t) :
   CALL Tryz.prog 80 [v0,v1,.int .i64 t] w fun r w'=>Ext w w'∧Own w.heap.size w' r (zdw c s t):=by
 obtain ⟨tn,rfl,htn,hne,hl8,hat⟩:=zkL hs hgo.1
 have hatlt:=zli hs tn
 have hat0:0≤zc7 s tn:=hgo.1
 have hpos:=List.length_pos_iff.2 hne
 refine F80_call ?_
 unfold F80
 refine zdf h0 e0 fun w1 hx1 hA1=>?_
 refine zdf h1 (e1.trans hx1) fun w2 hx2 hA2=>?_
 refine zbm zoj fun w3 hx3 hB3=>?_
 have hg3:=hB3.lt
 have hs1:=hx1.size
 have hs2:=hx2.size
 refine zab zcj hA2 hx3 fun v12 h12=>?_
 refine (zf4 h12 hx3 (zmz hc hs)).mono ?_
 rintro r13 w4 ⟨hx4,z,o13,hz⟩
 have hs4:=hx4.size
 refine zeu (α:=DStV) zoj fun w5 hx5 hv5=>?_
 have hs5:=hx5.size
 have hg5:=hv5.lt
 refine zaT zcj hv5 (o13.ext hx5) (by omega) fun w6 hc6 hv6=>?_
 have hs6:=hc6.size
 have hx36:Ext w3 w6:=Ext.chgI (hx4.trans hx5) hc6 (by omega)
 have hzl:z.stacks.l.map RV.l=s.stacks:=congrArg DState.stacks hz
 have hzn:tn<z.stacks.l.length:=by have:=congrArg List.length hzl;simp at this;omega
 refine zaa zaZ ?_
 refine zab (α:=RIntss) zee (zgX hv6.at) (Ext.refl w6) fun v15 k15=>?_
 obtain ⟨rfl,h15⟩:=zjP k15
 refine zaf (α:=RInts) u31 zba h15 hzn fun b17 o17 hA17=>?_
 refine zab (α:=RInts) zba hA17 (Ext.refl w6) fun v18 k18=>?_
 obtain ⟨rfl,h18⟩:=zjP k18
 obtain ⟨x,hx⟩:∃ x,x=z.stacks.l[tn]:=⟨_,rfl⟩
 have hxl:x.l=stk s tn:=by
   have e1:(z.stacks.l.map RV.l)[tn]?=s.stacks[tn]?:=by rw [hzl]
   rw [List.getElem?_map,List.getElem?_eq_getElem hzn,List.getElem?_eq_getElem htn] at e1
   have e2:=Option.some.inj e1
   rw [hx,e2]
   exact zd3 (t:=(tn:Int)) (by simpa using htn)
 rw [←hx] at h18 ⊢
 refine zad u25 h18 ?_
 refine zaX (by unfold I64;rw [hxl];omega) ?_
 obtain ⟨top,htop⟩:∃ top:Nat,(x.l.length:Int)-1=top:=⟨x.l.length-1,by rw [hxl];omega⟩
 have htl:top<x.l.length:=by omega
 rw [htop]
 have hx7:=zaj w6
 have hs7:=hx7.size
 have hx16:Ext w1 w6:=hx2.trans (hx3.trans hx36)
 have hx26:Ext w2 w6:=hx3.trans hx36
 refine zaa zbk ?_
 refine zab zdT (zat hA1) (hx16.trans hx7) fun v23 h23=>?_
 refine zaf u25 ty3 h18 htl fun b26 o26 hA26=>?_
 have hget:x.l[top]=zc7 s tn:=by
   rw [zd2,hat,hxl]
   congr 1
   rw [hxl] at htop;omega
 rw [hget] at hA26
 refine zac ty3 hA26 hx7 fun hI27=>?_
 refine zau u26 zfp h23 hgo.1 (by omega) fun b28 o28 hA28=>?_
 rw [za2] at hA28
 refine zab zfp hA28 (hx16.trans hx7) fun v29 h29=>?_
 refine zlF zoQ rfl zfp rfl h29 (hx16.trans hx7) fun w8 hx8 hA10 hV10=>?_
 have hs8:=hx8.size
 refine zaf u25 ty3 h18 htl fun b32 o32 hA32=>?_
 rw [hget] at hA32
 refine zac ty3 hA32 (hx7.trans hx8) fun hI33=>?_
 have hins:=hc.f.ins
 refine zb6 (by unfold I64;omega) ?_
 have hR:=zg1 hc hs hgo.1
 obtain ⟨I,hI⟩:∃ I,I=atI c s tn:=⟨_,rfl⟩
 have hA10:At w8 (World.drew1 w6).heap.size 0 I:=by rw [hI];exact hA10
 have hx68:=hx7.trans hx8
 have hv8:VarI w3.heap.size w8.heap.size w8 w4.heap.size z:=(hv6.ext hx68).mono (Nat.le_refl _) (by omega)
 have hx38:Ext w3 w8:=hx36.trans hx68
 have hres:∀ (zz:DState) (w9:World),Ext w3 w9→VarI w3.heap.size w9.heap.size w9 w4.heap.size zz→zz=zdw c s tn →
     RD Tryz.prog (Instr.loadAt 33 (.pointer (some ⟨w4.heap.size,0,none⟩))) w9 fun x148=>OPU Tryz.prog (Instr.storeAt 33 (.pointer (some ⟨w2.heap.size,0,none⟩)) x148) w9 fun w'=>
       RD Tryz.prog (zaz 33 (.pointer (some ⟨w2.heap.size,0,none⟩))) w' fun r6=>Ext w w'∧Own w.heap.size w' r6 (zdw c s tn):=by
   intro zz w9 hx9 hv9 he
   have hs9:=hx9.size
   refine zb2 zcj hv9 (Ext.refl w9) fun v148 o148=>?_
   obtain ⟨a,b,c',rfl⟩:=zpu o148
   refine zbo (α:=DState) zcj rfl (hB3.ext hx9) rfl o148 fun w10 hc10 hB10=>?_
   refine zdb hB10 zcj ?_
   refine ⟨Ext.chgI (hx1.trans (hx2.trans (hx3.trans hx9))) hc10 (by omega),?_⟩
   have:=o148.chg hc10 (by omega)
   rw [he] at this
   exact this.own.mono (by omega)
 refine JOIN.mk (fun us w'=>us=[.int .i64 (zdv c s tn)]∧Ext w3 w'∧∃ z':DStV,VarI w3.heap.size w'.heap.size w' w4.heap.size z'∧z'.vars=(zbc c s tn).vars∧z'.owner=(zbc c s tn).owner∧z'.stacks.l.map RV.l=(zbc c s tn).stacks∧z'.stacks.l[tn]?=some x∧(I.op≠4∧I.op≠9)) ?_ ?_
 · refine zaa zbU ?_
   refine zac ty3 (zaH hA10) (Ext.refl w8) fun _=>?_
   have hzv:z.vars=s.vars:=congrArg DState.vars hz
   have hzo:z.owner=s.owner:=congrArg DState.owner hz
   have hzx:z.stacks.l[tn]?=some x:=by rw [List.getElem?_eq_getElem hzn,hx]
   have same:∀ w9,Ext w8 w9→(I.op≠1∧I.op≠4∧I.op≠5∧I.op≠6∧I.op≠7∧I.op≠9)→∃ z':DStV,VarI w3.heap.size w9.heap.size w9 w4.heap.size z'∧z'.vars=(zbc c s tn).vars∧z'.owner=(zbc c s tn).owner∧z'.stacks.l.map RV.l=(zbc c s tn).stacks∧z'.stacks.l[tn]?=some x∧(I.op≠4∧I.op≠9):=by
     rintro w9 hx9 ⟨q1,q4,q5,q6,q7,q9⟩
     have he:zbc c s tn=s:=by unfold zbc;rw [←hI,if_neg q1,if_neg q5,if_neg q6,if_neg q7]
     rw [he]
     exact ⟨z,(hv8.ext hx9).mono (Nat.le_refl _) hx9.size,hzv,hzo,hzl,hzx,q4,q9⟩
   have hnext:I.op≠2→I.op≠3→zdv c s tn=zc7 s tn+1:=fun q2 q3=>by unfold zdv;rw [←hI,if_neg q2,if_neg q3]
   refine zag ?_
   refine br (fun q1=>?_) (fun q1=>?_)
   · have hx9:=zaj w8
     have hs9:=hx9.size
     have hg8:=hv8.lt
     obtain ⟨har0,har1⟩:=zoq hc hs hat0 (hI▸q1)
     rw [←hI] at har0 har1
     obtain ⟨ar,har⟩:∃ ar:Nat,I.arg=ar:=⟨I.arg.toNat,by omega⟩
     have har2:ar<z.vars.length:=by rw [hzv];omega
     obtain ⟨u,b,a,cap,hr,hIs,hu,hst⟩:=znr (hv8.ext hx9) (by omega) har2
     refine zaa zeY ?_
     refine zdc zba hr ?_
     refine zaa zdl ?_
     refine zac ty3 (zbq hA10) hx9 fun _=>?_
     refine zaa zdL ?_
     refine zab zb3 (zbC hA10) hx9 fun v54 h54=>?_
     refine zaa zcP ?_
     refine zab zcv (zaS hA1) (hx16.trans (hx68.trans hx9)) fun v56 h56=>?_
     refine zaa zeY ?_
     refine zab zba (zbJ hA2) (hx26.trans (hx68.trans hx9)) fun v58 h58=>?_
     have hok:zaE 6 I.term=true:=by
       have:=hR.2.2.1
       rw [←hI,if_pos (.inl q1)] at this
       exact this.1
     refine (zhB 6 h54 hx9 h56 (hx16.trans (hx68.trans hx9)) h58 (hx26.trans (hx68.trans hx9)) hok).mono ?_
     rintro _ w10 ⟨hx10,rfl⟩
     refine ⟨hx10,?_⟩
     have hs10:=hx10.size
     rw [har]
     refine zeK u25 ty3 hu har2 ?_
     have hwr:=zdI c.globals s.vars 6 I.term
     refine hst w10 hx10 _ (by unfold I64;omega) _ fun w11 hc11 hv11=>?_
     have hs11:=hc11.size
     have hrest:zbc c s tn=⟨s.vars.set I.arg.toNat (workT c.globals s.vars 6 I.term),s.owner,s.stacks⟩:=by unfold zbc;rw [←hI,if_pos q1]
     refine ⟨by rw [hnext (by omega) (by omega)],Ext.chgI ((hx38.trans hx9).trans hx10) hc11 (by omega),_,hv11.mono (Nat.le_refl _) (by omega),?_,?_,?_,hzx,by omega,by omega⟩
     · rw [hrest,hzv,har];rfl
     · rw [hrest];exact hzo
     rw [hrest];exact hzl
   refine zag ?_
   refine br (fun q2=>?_) (fun q2=>?_)
   · refine zaa zdL ?_
     refine zab zb3 (zbC hA10) (Ext.refl w8) fun v54 h54=>?_
     refine zaa zcP ?_
     refine zab zcv (zaS hA1) (hx16.trans hx68) fun v56 h56=>?_
     refine zaa zeY ?_
     refine zab zba (zbJ hA2) (hx26.trans hx68) fun v58 h58=>?_
     have hok:zaE 6 I.term=true:=by
       have:=hR.2.2.1
       rw [←hI,if_pos (.inr q2)] at this
       exact this.1
     refine (zhB 6 h54 (Ext.refl w8) h56 (hx16.trans hx68) h58 (hx26.trans hx68) hok).mono ?_
     rintro _ w9 ⟨hx9,rfl⟩
     refine zag ?_
     refine br (fun q=>?_) (fun q=>?_)
     · refine zaa zep ?_
       refine zac ty3 (zcd hA10) hx9 fun _=>?_
       exact ⟨by unfold zdv;rw [←hI,if_pos q2,if_pos q],hx38.trans hx9,same w9 hx9 (by omega)⟩
     exact ⟨by unfold zdv;rw [←hI,if_pos q2,if_neg q],hx38.trans hx9,same w9 hx9 (by omega)⟩
   refine zag ?_
   refine br (fun q3=>?_) (fun q3=>?_)
   · refine zaa zep ?_
     refine zac ty3 (zcd hA10) (Ext.refl w8) fun _=>?_
     exact ⟨by unfold zdv;rw [←hI,if_neg q2,if_pos q3],hx38,same w8 (Ext.refl w8) (by omega)⟩
   have hn:=hnext q2 q3
   refine zag ?_
   refine br (fun q4=>?_) (fun q4=>?_)
   · have hx9:=zaj w8
     have hs9:=hx9.size
     have hg8:=hv8.lt
     obtain ⟨har0,har1⟩:=zgq hc hs hat0 (.inl (hI▸q4))
     rw [←hI] at har0 har1
     obtain ⟨ar,har⟩:∃ ar:Nat,I.arg=ar:=⟨I.arg.toNat,by omega⟩
     obtain ⟨F,hO,hF⟩:=hv6.ext (hx68.trans hx9)
     have hlt:=hO.lts
     obtain ⟨G1,hL1⟩:=zdG (Lens.var hO)
     obtain ⟨b2,a2,cap2,G2,hv2,hG21,hL2⟩:=hL1.elemV hzn
     rw [←hx] at hL2
     obtain ⟨cs1,⟨rfl,_⟩,hr1,_,_,hg1,_⟩:=hL1.here
     obtain ⟨cs,⟨rfl,hrow⟩,_,hnG,_,hb2,_⟩:=hL2.here
     have hG2F:∀ c∈G2,c∈F:=fun c hcm=>by
       rcases List.mem_cons.1 (hL2.sub c (by simp [hcm])) with rfl | h
       · exact absurd (hG21 _ (by simp [hcm])) hg1
       exact h
     have hGb:∀ c∈G2,w3.heap.size≤c∧c<w4.heap.size:=fun c hcm=>hF c (hG2F c hcm)
     have hX3:∀ c,c∈G2→w3.heap.size≤c:=fun c hcm=>(hGb c hcm).1
     have hx39:=hx38.trans hx9
     refine XR.mk (fun c=>c∈G2) ?_
     refine zeH zaZ ?_
     refine zgm zee hr1 (fun h=>by have:=hGb _ h;omega) ?_
     refine zeH za1 ?_
     refine zfa (w0:=w3) hX3 hx39 ?_
     refine zab zba (zao hA1) (hx2.trans hx3) fun v74 h74=>?_
     refine zeH zdl ?_
     refine zgm ty3 (zby (zod (zbq hA10)) hx9) (fun h=>by have:=hGb _ h;omega) ?_
     rw [har]
     refine zfa (w0:=w3) hX3 hx39 ?_
     refine zaf u25 ty3 h74 (by omega) fun b77 o77 hA77=>?_
     rw [zbx] at hA77
     refine zfa (w0:=w3) hX3 hx39 ?_
     refine zac ty3 hA77 (hx2.trans hx3) fun hI78=>?_
     refine ze9 (β:=Int) (G:=G2) u25 ty3 z3 zc3 (by decide) hrow hnG (zcp hI78) (by simp) (by rw [zap,hxl];omega) (by rw [hxl];omega) (fun w10 v80 w11 G' hx10 hc11 hR11 hN11 hs11=>?_) fun sv w10 hx10 hop=>⟨hx10.toX,hop⟩
     refine ⟨hc11.toX (fun c h=>h),?_⟩
     have hs10:=hx10.size
     have hs11':=hc11.size
     have hc911:Chg G2 (World.drew1 w8) w11:=(hx10.chg G2).trans hc11
     have hx311:Ext w3 w11:=Ext.chgI hx39 (hc911.toI (lo:=w3.heap.size) (hi:=w4.heap.size) hGb) (Nat.le_refl _)
     refine zfa (w0:=w3) hX3 hx311 ?_
     refine zeK u31 zba hv2 hzn ?_
     refine zhv zba hL2 hlt hc911 hR11 hN11 (fun c hcm=>?_) fun w12 hc12 ⟨F',hO',hF'⟩=>?_
     · rcases hs11 c hcm with h | h | h
       · exact .inl h
       · simp at h
       exact .inr h
     have hs12:=hc12.size
     have hcI:ChgI w3.heap.size w8.heap.size (World.drew1 w8) w12:=hc12.toI fun c hcm=>by
       have:=hL2.sub c hcm
       rcases List.mem_cons.1 this with rfl | h
       · exact ⟨by omega,hg8⟩
       have:=hF c h;omega
     refine hres _ w12 (Ext.chgI hx39 hcI (Nat.le_refl _)) (zmA ⟨F',hO',fun c hcm=>?_⟩) ?_
     · have h1:=hO'.lts c (by simp [hcm])
       rcases hF' c hcm with h | h
       · rcases List.mem_cons.1 h with rfl | h
         · obtain ⟨_,_,_,_,_,hnn,_⟩:=hO';exact absurd hcm hnn
         have:=hF c h;omega
       omega
     unfold zdw DStV.er
     have e1:((tn:Int)).toNat=tn:=by omega
     rw [←hI,if_pos q4]
     simp only [DState.mk.injEq,hzv,hzo,true_and]
     rw [List.map_set,hzl,hxl,e1,har,Int.toNat_natCast]
   refine zag ?_
   refine br (fun q5=>?_) (fun q5=>?_)
   · have hg8:=hv8.lt
     obtain ⟨har0,har1⟩:=zgq hc hs hat0 (.inr (hI▸q5))
     rw [←hI] at har0 har1
     obtain ⟨ar,har⟩:∃ ar:Nat,I.arg=ar:=⟨I.arg.toNat,by omega⟩
     have hzlen:z.stacks.l.length=s.stacks.length:=by have:=congrArg List.length hzl;simpa using this
     refine zaa zaZ ?_
     refine zab (α:=RIntss) zee (zgX hv8.at) (Ext.refl w8) fun v86 k86=>?_
     obtain ⟨rfl,h86⟩:=zjP k86
     refine zad u31 h86 ?_
     rw [hzlen]
     refine zai ?_
     refine br (fun qq=>?_) (fun qq=>?_)
     · have hx9:=zaj w8
       have hs9:=hx9.size
       obtain ⟨F,hO,hF⟩:=hv8.ext hx9
       have hlt:=hO.lts
       obtain ⟨G1,hL1⟩:=zdG (Lens.var hO)
       refine zaa zaZ ?_
       refine zne zee (zgX hv8.at) hx9 ?_
       refine zaa za1 ?_
       refine zab zba (zao hA1) (hx16.trans (hx68.trans hx9)) fun v92 h92=>?_
       refine zaa zdl ?_
       refine zac ty3 (zbq hA10) hx9 fun _=>?_
       rw [har]
       refine zaf u25 ty3 h92 (by omega) fun b95 o95 hA95=>?_
       rw [zbx] at hA95
       refine zac ty3 hA95 (hx16.trans (hx68.trans hx9)) fun hI96=>?_
       refine zfL (β:=Int) u25 ty3 z3 (by decide) (zcp hI96) fun v97 w10 hx10 r97=>?_
       refine ⟨hx10,?_⟩
       have hs10:=hx10.size
       obtain ⟨GX,hMX,hGX⟩:=zjO r97
       obtain ⟨cs,⟨rfl,hrow⟩,_,hnG,_⟩:=hL1.here
       have hGlt:∀ c∈G1,c<(World.drew1 w8).heap.size:=fun c hcm=>hlt c (hL1.sub c (by simp [hcm]))
       refine ze9 (β:=RInts) (G:=G1) (w:=w10) u31 zba z25 zpw (by decide) (hrow.keep fun c hcm=>hx10.heap (hGlt c hcm)) hnG hMX (fun c hcm hg=>by have:=hGX c hcm;have:=hGlt c hg;omega) (by rw [zap,hzlen];omega) (by rw [hzlen];omega) (fun w11 v99 w12 G' hx11 hc12' hR12 hN12 hs12=>?_) fun sv w11 hx11 hop=>⟨hx11,hop⟩
       have hc12:Chg G1 w10 w12:=(hx11.chg G1).trans hc12'
       refine zaa zaZ ?_
       refine zhv zee hL1 hlt ((hx10.chg G1).trans hc12) hR12 hN12 (fun c hcm=>?_) fun w13 hc13 ⟨F',hO',hF'⟩=>?_
       · rcases hs12 c hcm with h | h | h
         · exact .inl h
         · exact .inr (hGX c h).1
         exact .inr (by omega)
       have hs13:=hc13.size
       have hcI:ChgI w3.heap.size w8.heap.size (World.drew1 w8) w13:=hc13.toI fun c hcm=>by
         have:=hL1.sub c hcm
         rcases List.mem_cons.1 this with rfl | h
         · exact ⟨by omega,hg8⟩
         exact hF c h
       have hrest:zbc c s tn=⟨s.vars,s.owner,s.stacks++[[en c I.arg.toNat]]⟩:=by unfold zbc;rw [←hI,if_neg q1,if_pos q5,if_pos (by omega)]
       refine ⟨by rw [hn],Ext.chgI (hx38.trans hx9) hcI (Nat.le_refl _),_,⟨F',hO',fun c hcm=>?_⟩,?_,?_,?_,?_,by omega,by omega⟩
       · have h1:=hO'.lts c (by simp [hcm])
         rcases hF' c hcm with h | h
         · rcases List.mem_cons.1 h with rfl | h
           · obtain ⟨_,_,_,_,_,hnn,_⟩:=hO';exact absurd hcm hnn
           have:=hF c h;omega
         omega
       · rw [hrest];exact hzv
       · rw [hrest];exact hzo
       · rw [hrest]
         simp only [List.map_append,List.map_cons,List.map_nil,hzl,har,Int.toNat_natCast]
       show (z.stacks.l++_)[tn]?=some x
       rw [List.getElem?_append_left hzn];exact hzx
     have hrest:zbc c s tn=s:=by unfold zbc;rw [←hI,if_neg q1,if_pos q5,if_neg (by omega)]
     refine ⟨by rw [hn],hx38,z,hv8,?_,?_,?_,hzx,by omega,by omega⟩
     · rw [hrest];exact hzv
     · rw [hrest];exact hzo
     rw [hrest];exact hzl
   refine zag ?_
   refine br (fun q6=>?_) (fun q6=>?_)
   · have hg8:=hv8.lt
     obtain ⟨har0,har1⟩:=zgp hc hs hat0 (.inl (hI▸q6))
     rw [←hI] at har0 har1
     obtain ⟨ar,har⟩:∃ ar:Nat,I.arg=ar:=⟨I.arg.toNat,by omega⟩
     have har2:ar<z.owner.length:=by rw [hzo];omega
     obtain ⟨u,b,a,cap,hr,hIs,hu,hst⟩:=zi9 hv8 (by omega) har2
     refine zaa zcR ?_
     refine zdc zba hr ?_
     refine zaa zdl ?_
     refine zac ty3 (zbq hA10) (Ext.refl w8) fun _=>?_
     rw [har]
     refine zeK u25 ty3 hu har2 ?_
     have hmany:=hs.2.2.1
     refine hst w8 (Ext.refl w8) _ (by unfold I64;omega) _ fun w11 hc11 hv11=>?_
     have hs11:=hc11.size
     have hrest:zbc c s tn=⟨s.vars,s.owner.set I.arg.toNat tn,s.stacks⟩:=by unfold zbc;rw [←hI,if_neg q1,if_neg q5,if_pos q6]
     refine ⟨by rw [hn],Ext.chgI hx38 hc11 (by omega),_,hv11.mono (Nat.le_refl _) (by omega),?_,?_,?_,hzx,by omega,by omega⟩
     · rw [hrest];exact hzv
     · rw [hrest,hzo,har];rfl
     rw [hrest];exact hzl
   refine zag ?_
   refine br (fun q7=>?_) (fun q7=>?_)
   · have hg8:=hv8.lt
     obtain ⟨har0,har1⟩:=zgp hc hs hat0 (.inr (hI▸q7))
     rw [←hI] at har0 har1
     obtain ⟨ar,har⟩:∃ ar:Nat,I.arg=ar:=⟨I.arg.toNat,by omega⟩
     have har2:ar<z.owner.length:=by rw [hzo];omega
     obtain ⟨u,b,a,cap,hr,hIs,hu,hst⟩:=zi9 hv8 (by omega) har2
     refine zaa zcR ?_
     refine zdc zba hr ?_
     refine zaa zdl ?_
     refine zac ty3 (zbq hA10) (Ext.refl w8) fun _=>?_
     rw [har]
     refine zaf u25 ty3 hIs har2 fun b115 o115 hA115=>?_
     refine zac ty3 hA115 (Ext.refl w8) fun _=>?_
     have how:z.owner[ar]=ow s I.arg:=by
       have:ar<s.owner.length:=by rw [←hzo];exact har2
       rw [har,←zo3 this]
       congr 1
     rw [how]
     refine zag ?_
     refine br (fun qq=>?_) (fun qq=>?_)
     · refine zaa zcR ?_
       refine zdc zba hr ?_
       refine zaa zdl ?_
       refine zac ty3 (zbq hA10) (Ext.refl w8) fun _=>?_
       rw [har]
       refine zeK u25 ty3 hu har2 ?_
       refine hst w8 (Ext.refl w8) _ (by unfold I64;omega) _ fun w11 hc11 hv11=>?_
       have hs11:=hc11.size
       have hrest:zbc c s tn=⟨s.vars,s.owner.set I.arg.toNat (-1),s.stacks⟩:=by unfold zbc;rw [←hI,if_neg q1,if_neg q5,if_neg q6,if_pos q7,if_pos qq]
       refine ⟨by rw [hn],Ext.chgI hx38 hc11 (by omega),_,hv11.mono (Nat.le_refl _) (by omega),?_,?_,?_,hzx,by omega,by omega⟩
       · rw [hrest];exact hzv
       · rw [hrest,hzo,har];rfl
       rw [hrest];exact hzl
     have hrest:zbc c s tn=s:=by unfold zbc;rw [←hI,if_neg q1,if_neg q5,if_neg q6,if_pos q7,if_neg qq]
     refine ⟨by rw [hn],hx38,z,hv8,?_,?_,?_,hzx,by omega,by omega⟩
     · rw [hrest];exact hzv
     · rw [hrest];exact hzo
     rw [hrest];exact hzl
   refine zag ?_
   refine br (fun q9=>?_) (fun q9=>?_)
   · have hx9:=zaj w8
     have hs9:=hx9.size
     have hg8:=hv8.lt
     have hx39:=hx38.trans hx9
     obtain ⟨F,hO,hF⟩:=hv6.ext (hx68.trans hx9)
     have hlt:=hO.lts
     obtain ⟨G1v,hL1v⟩:=zdG (Lens.var hO)
     obtain ⟨b2v,a2v,cap2v,G2v,hv2v,hG21v,hL2v⟩:=hL1v.elemV hzn
     rw [←hx] at hL2v
     obtain ⟨cs1,⟨rfl,_⟩,hr1v,_,_,hg1v,_⟩:=hL1v.here
     obtain ⟨cs2,⟨rfl,hrow2⟩,hr2v,_,_,_,hwb2⟩:=hL2v.here
     have hOs:OAt F (World.drew1 w8) w4.heap.size 0 s:=by have:=znN hO;rwa [hz] at this
     obtain ⟨G1,hL1⟩:=zeV (Lens.var hOs)
     obtain ⟨_,_,_,_,_,hgG1,_⟩:=hL1.here
     obtain ⟨u1,b2,a2,cap2,G2,hr1,hIs1,hu1,hL2⟩:=hL1.elem htn
     have hu:u1=z.stacks.v:=zdJ hr1 hr1v
     refine zaa zaZ ?_
     refine zdc zee hr1 ?_
     have hbb:b2=b2v∧a2=a2v:=by
       rw [hu,hv2v] at hu1
       simp only [Value.slice.injEq,Option.some.injEq,Addr.mk.injEq] at hu1
       exact ⟨hu1.1.1.symm,hu1.1.2.1.symm⟩
     obtain ⟨rfl,rfl⟩:=hbb
     obtain ⟨ux,hMx,hrx,hGx,_⟩:=hL2.row
     obtain ⟨_,_,_,_,_,hb2G2,_⟩:=hL2.here
     have hux:ux=x.v:=zdJ hrx hr2v
     have hsl:s.stacks[tn]=x.l:=by rw [hxl];exact zd3 (t:=(tn:Int)) (by simpa using htn)
     rw [hux,hsl] at hMx
     refine zo5 u25 ty3 hMx (by omega) (by rw [hxl];exact hne) fun bx ax capx v132 G' hxv hM' hG' hv'=>?_
     refine zeK u31 zba hu1 htn ?_
     have hb2G':b2∉G':=fun h=>hb2G2 (hG' _ h)
     have hb2g:b2≠w4.heap.size:=fun e=>hg1v (e▸hG21v b2 (by simp))
     have hrep':=za0 rfl hM'.own
     have hone':v132.oneCell'=true:=Rep.one hrep' v132 (by simp)
     refine zib zba hwb2 hr2v hrow2.one hone' fun w10 hch hr10=>?_
     have hkeep':∀ c∈G',w10.heap[c]?=(World.drew1 w8).heap[c]?:=fun c hcm=>hch.chg.block c (hM'.lt c hcm) (by simp;exact fun e=>hb2G' (e▸hcm))
     obtain ⟨cb,eb,hcb⟩:=hwb2
     obtain ⟨cb',hcb',_⟩:=hch.cell cb eb hcb
     have hOy:OAt G' w10 b2 (a2+tn*Rep.size (List Int)) (x.l.take top):=⟨[v132],Rep.keep hrep' hkeep',hr10,hM'.nodup,hM'.wr.keep hkeep',hb2G',cb',eb,hcb'⟩
     have hg10:w10.heap[w4.heap.size]?=(World.drew1 w8).heap[w4.heap.size]?:=hch.chg.block _ (hlt _ (by simp)) (by simp;exact fun e=>hb2g e.symm)
     obtain ⟨F',hO',hF'⟩:=hL2.back w10 G' (x.l.take top) (hch.mono (Nat.le_refl _) (Nat.le_refl _) (by simp)) hOy (fun c hcm=>.inl (hG' c hcm))
     have hs10:=hch.chg.size
     have hFb:∀ c∈F',w3.heap.size≤c∧c<w4.heap.size:=fun c hcm=>by
       have hin:c∈w4.heap.size :: F:=by
         rcases hF' c hcm with h | h
         · exact h
         exact hGx c (hG' c h)
       rcases List.mem_cons.1 hin with rfl | h
       · obtain ⟨_,_,_,_,_,hnn,_⟩:=hO';exact absurd hcm hnn
       exact hF c h
     have hb2F:b2∈w4.heap.size :: F:=hL2.sub b2 (by simp)
     have hcI:ChgI w3.heap.size w8.heap.size (World.drew1 w8) w10:=hch.chg.toI fun c hcm=>by
       simp only [List.mem_cons,List.not_mem_nil,or_false] at hcm
       subst hcm
       rcases List.mem_cons.1 hb2F with h | h
       · rw [h];exact ⟨by omega,hg8⟩
       have:=hF _ h;omega
     have hx310:Ext w3 w10:=Ext.chgI hx39 hcI (Nat.le_refl _)
     have e1:((tn:Int)).toNat=tn:=by omega
     have hlen:x.l.length=top+1:=by omega
     have htop8:top<8:=by have h:=htl;rw [hxl] at h;omega
     refine zb5 ?_
     refine br (fun hp=>?_) (fun hp=>?_)
     · refine zaX (by unfold I64;omega) ?_
       obtain ⟨tp,htp⟩:∃ tp:Nat,(top:Int)-1=tp:=⟨top-1,by omega⟩
       rw [htp]
       obtain ⟨G1',hL1'⟩:=zeV (Lens.var hO')
       have hk':tn<(s.stacks.set tn (x.l.take top)).length:=by simpa using htn
       obtain ⟨u1',b2',a2',cap2',G2',hr1',_,hu1',hL2'⟩:=hL1'.elem hk'
       have hu':u1'=u1:=zdJ hr1' (zaN hr1 hg10)
       have hbb':b2'=b2∧a2'=a2:=by
         rw [hu',hu1] at hu1'
         simp only [Value.slice.injEq,Option.some.injEq,Addr.mk.injEq] at hu1'
         exact ⟨hu1'.1.1.symm,hu1'.1.2.1.symm⟩
       obtain ⟨rfl,rfl⟩:=hbb'
       have hel:(s.stacks.set tn (x.l.take top))[tn]'hk'=x.l.take top:=List.getElem_set_self ..
       simp only [hel] at hL2'
       obtain ⟨uy,by',ay',capy',G3',hry,hIsy,huy,hL3'⟩:=hL2'.elem (k:=tp) (by simp;omega)
       have huy':uy=v132:=zdJ hry hr10
       have hv132:=hv' (by omega)
       have hbx:by'=bx∧ay'=ax:=by
         rw [huy',hv132] at huy
         simp only [Value.slice.injEq,Option.some.injEq,Addr.mk.injEq] at huy
         exact ⟨huy.1.1.symm,huy.1.2.1.symm⟩
       obtain ⟨rfl,rfl⟩:=hbx
       refine zeK u25 ty3 hxv (k:=tp) (by omega) ?_
       have hval:(x.l.take top)[tp]'(by simp;omega)=st x.l tp:=by
         rw [List.getElem_take,zd2]
       refine zac ty3 hL3'.here.at (Ext.refl w10) fun hI140=>?_
       rw [hval]
       have hstr:0≤st x.l tp∧st x.l tp<c.ins.length:=by
         have hmem:=hs.2.2.2.2.2 x.l (by rw [←hsl];exact List.getElem_mem _)
         exact hmem.2.1 tp (by omega)
       refine zb6 (by unfold I64;omega) ?_
       refine zeK u25 ty3 hxv (k:=tp) (by omega) ?_
       have hg10':w4.heap.size<w10.heap.size:=by omega
       refine zgl (α:=DState) (lo:=w3.heap.size) (hi:=w10.heap.size) ty3 hL3' (fun c hcm=>by have:=hFb c hcm;omega) (by omega) (zcp (x:=st x.l tp+1) (by unfold I64;omega)) fun w11 hc11 hv11=>?_
       have hs11:=hc11.size
       refine hres _ w11 (Ext.chgI hx310 hc11 (Nat.le_refl _)) (hv11.mono (Nat.le_refl _) (by omega)) ?_
       unfold zdw
       rw [←hI,if_neg q4,if_pos q9]
       simp only [DState.mk.injEq,true_and,e1,List.set_set]
       congr 1
       unfold zi8
       rw [←hxl,hlen,if_neg (by omega),show top+1-1=top by omega,show top+1-2=tp by omega]
     refine hres _ w10 hx310 ⟨F',hO',fun c hcm=>by have:=hFb c hcm;omega⟩ ?_
     unfold zdw
     rw [←hI,if_neg q4,if_pos q9]
     simp only [DState.mk.injEq,true_and,e1]
     congr 1
     unfold zi8
     have ht0:top=0:=by omega
     subst ht0
     rw [←hxl,hlen]
     simp
   exact ⟨by rw [hn],hx38,same w8 (Ext.refl w8) (by omega)⟩
 rintro uj w9 ⟨hu,hx9,z',hv9,hz1,hz2,hz3,hz4,ho4,ho9⟩
 simp only [List.map_cons,List.map_nil,List.cons.injEq,and_true] at hu
 rw [hu]
 have hs9:=hx9.size
 obtain ⟨hk',hxk⟩:=List.getElem?_eq_some_iff.1 hz4
 have hg9:=hv9.lt
 obtain ⟨F,hO,hF⟩:=hv9
 obtain ⟨G1,hL1⟩:=zdG (Lens.var hO)
 obtain ⟨b2,a2,cap2,G2,hv2,_,hL2⟩:=hL1.elemV hk'
 rw [hxk] at hL2
 refine znf (e:=3) u25 ty3 hL2 htl fun b3 o3 G3 hL3=>?_
 have hI64:I64 (zdv c s tn):=by
   have hto:I.op=2∨I.op=3→I64 I.to:=fun h=>by
     have:=hR.2.2.2
     rw [←hI,if_pos h] at this
     obtain ⟨i,hi,_,_,hpr⟩:=hc.f.find hc.1.procs8.2 hat0 hatlt.2
     have h1:=hc.f.nonneg hi
     have h2:=(hc.f.lt i hi).2
     rw [hpr,zcF,Int.toNat_natCast] at this
     unfold I64;omega
   unfold zdv
   rw [←hI]
   split
   · split
     · exact hto (.inl (by assumption))
     unfold I64;omega
   split
   · exact hto (.inr (by assumption))
   unfold I64;omega
 refine zgl ty3 hL3 hF (by omega) (zcp hI64) fun w10 hc10 hv10=>?_
 have hs10:=hc10.size
 refine hres _ w10 (Ext.chgI hx9 hc10 (Nat.le_refl _)) (zmA (hv10.mono (Nat.le_refl _) (by omega))) ?_
 unfold zdw DStV.er
 rw [←hI,if_neg ho4,if_neg ho9]
 simp only [DState.mk.injEq,hz1,hz2,true_and]
 have e1:((tn:Int)).toNat=tn:=by omega
 have e2:(stk s tn).length-1=top:=by rw [←hxl];omega
 rw [List.map_set,hz3,hxl,e1,e2]
def F73 (a0:Value) (w:World) (R:VW):Prop:=
 oP (Instr.box 28 a0) w fun x1 w=>
 oP (Instr.alloc 33 true (.tuple #[])) w fun x2 w=>
 (fun w0=>PAR w0 [[(0,5)],[(1,6),(0,5)],[(2,7),(1,6)],[(3,8),(2,7),(2,7)],[(4,9)],[(5,10),(4,9)],[(6,11),(5,10)],[(7,12),(6,11),(6,11)],[(8,13),(3,8),(7,12)],[(9,3)]] (fun Q=>
 (∀ (u1:Env) (T:Nat→Nat×Nat) (w:World),Ext w0 w→zbv [] w0.heap.size w.heap.size T→(True)→(fun w1=>rF 28 x1 0 w fun x5=>
 Ext w1 w∧Q 0 (upd u1 5 x5) (zcy T 0 (w1.heap.size,w.heap.size)) w) w) ∧
 (∀ (u1:Env) (T:Nat→Nat×Nat) (w:World),Ext w0 w→zbv [0] w0.heap.size w.heap.size T→(Q 0 u1 T w∧True)→(fun w1=>rL 24 (u1 5) w fun x6=>
 Ext w1 w∧Q 1 (upd u1 6 x6) (zcy T 1 (w1.heap.size,w.heap.size)) w) w) ∧
 (∀ (u1:Env) (T:Nat→Nat×Nat) (w:World),Ext w0 w→zbv [1] w0.heap.size w.heap.size T→(Q 1 u1 T w∧True)→(fun w1=>rN 24 3 (u1 6) w fun x7=>
 Ext w1 w∧Q 2 (upd u1 7 x7) (zcy T 2 (w1.heap.size,w.heap.size)) w) w) ∧
 (∀ (u1:Env) (T:Nat→Nat×Nat) (w:World),Ext w0 w→zbv [2,2] w0.heap.size w.heap.size T→(Q 2 u1 T w∧Q 2 u1 T w∧True)→(fun w1=>oP (Instr.makeSlice 25 (u1 7) (u1 7)) w fun x8 w=>
 Ext w1 w∧Q 3 (upd u1 8 x8) (zcy T 3 (w1.heap.size,w.heap.size)) w) w) ∧
 (∀ (u1:Env) (T:Nat→Nat×Nat) (w:World),Ext w0 w→zbv [] w0.heap.size w.heap.size T→(True)→(fun w1=>rF 28 x1 1 w fun x9=>
 Ext w1 w∧Q 4 (upd u1 9 x9) (zcy T 4 (w1.heap.size,w.heap.size)) w) w) ∧
 (∀ (u1:Env) (T:Nat→Nat×Nat) (w:World),Ext w0 w→zbv [4] w0.heap.size w.heap.size T→(Q 4 u1 T w∧True)→(fun w1=>rL 24 (u1 9) w fun x10=>
 Ext w1 w∧Q 5 (upd u1 10 x10) (zcy T 5 (w1.heap.size,w.heap.size)) w) w) ∧
 (∀ (u1:Env) (T:Nat→Nat×Nat) (w:World),Ext w0 w→zbv [5] w0.heap.size w.heap.size T→(Q 5 u1 T w∧True)→(fun w1=>rN 24 3 (u1 10) w fun x11=>
 Ext w1 w∧Q 6 (upd u1 11 x11) (zcy T 6 (w1.heap.size,w.heap.size)) w) w) ∧
 (∀ (u1:Env) (T:Nat→Nat×Nat) (w:World),Ext w0 w→zbv [6,6] w0.heap.size w.heap.size T→(Q 6 u1 T w∧Q 6 u1 T w∧True)→(fun w1=>oP (Instr.makeSlice 25 (u1 11) (u1 11)) w fun x12 w=>
 Ext w1 w∧Q 7 (upd u1 12 x12) (zcy T 7 (w1.heap.size,w.heap.size)) w) w) ∧
 (∀ (u1:Env) (T:Nat→Nat×Nat) (w:World),Ext w0 w→zbv [3,7] w0.heap.size w.heap.size T→(Q 3 u1 T w∧Q 7 u1 T w∧True)→(fun w1=>rD (Instr.build 33 #[(0,(u1 8)),(1,(u1 12))]) w fun x13=>
 Ext w1 w∧Q 8 (upd u1 13 x13) (zcy T 8 (w1.heap.size,w.heap.size)) w) w) ∧
 (∀ (u1:Env) (T:Nat→Nat×Nat) (w:World),Ext w0 w→zbv [] w0.heap.size w.heap.size T→(True)→(fun w1=>oP (Instr.alloc 33 true (.tuple #[])) w fun x3 w=>
 Ext w1 w∧Q 9 (upd u1 3 x3) (zcy T 9 (w1.heap.size,w.heap.size)) w) w) ∧
 True)
 (fun Q=>∀ (u1:Env) (T:Nat→Nat×Nat) (w:World),Ext w0 w→zbv [0,1,2,3,4,5,6,7,8,9] w0.heap.size w.heap.size T→(Q 0 u1 T w∧Q 1 u1 T w∧Q 2 u1 T w∧Q 3 u1 T w∧Q 4 u1 T w∧Q 5 u1 T w∧Q 6 u1 T w∧Q 7 u1 T w∧Q 8 u1 T w∧Q 9 u1 T w∧True) →
 oS 33 (u1 3) (u1 13) w fun w=>
 rF 33 (u1 3) 1 w fun x14=>
 rL 25 x14 w fun x15=>
 rN 25 3 x15 w fun x16=>
 LOOPI [17] [(iV 0)] w fun u3 w next3=>
 rC (u3 17) x16 w fun x18=>
 BR x18
 (rF 33 (u1 3) 1 w fun x20=>
 rL 25 x20 w fun x21=>
 rX 25 x21 (u3 17) w fun x23=>
 oS 3 x23 (iV (-1)) w fun w=>
 rA (u3 17) (iV 1) w fun x24=>
 next3 [x24] w)
 ((fun w=>rF 28 x1 3 w fun x25=>
 rL 25 x25 w fun x26=>
 rF 28 x1 2 w fun x27=>
 rL 24 x27 w fun x28=>
 (fun w_=>cL 134 [x28,(Value.string (ByteArray.mk #[109,97,105,110]))] w_ fun x29 w=>
 Ext w_ w ∧
 rX 25 x26 x29 w fun x30=>
 rL 3 x30 w fun x31=>
 oP (Instr.buildSlice 25 1 #[(0,x31)]) w fun x32 w=>
 oP (Instr.buildSlice 31 1 #[(0,x32)]) w fun x33 w=>
 rF 33 (u1 3) 2 w fun x34=>
 oS 31 x34 x33 w fun w=>
 rL 33 (u1 3) w fun x35=>
 oS 33 x2 x35 w fun w=>
 rD (zaz 33 x2) w fun r2=>R r2 w) w) (World.drew1 w)))) (World.drew1 w)
def cfg73:Cfg:=⟨extL,[],[(3,33423376,[17])],[(7,[0,1,2,3,4,5,6,7,8,9,10],16)],[(1,16360,10)],[],[]⟩
theorem F73_call {a0:Value} {w:World} {R:VW} (h:F73 a0 w R):cL 73 [a0] w R:=co (g:=cfg73) Tryz.func73 (by kernel_rfl) (by kernel_rfl) (by kernel_rfl) h
def F12 (a0:Value) (w:World) (R:VW):Prop:=
 oP (Instr.box 28 a0) w fun x1 w=>
 oP (Instr.alloc 33 true (.tuple #[])) w fun x2 w=>
 rL 28 x1 w fun x3=>
 cL 72 [x3] w fun x4 w=>
 rD (Op.unary .not x4) w fun x5=>
 BR x5
 (rD (Instr.build 33 #[]) w fun x6=>
 oS 33 x2 x6 w fun w=>
 rD (zaz 33 x2) w fun r2=>R r2 w)
 (rL 28 x1 w fun x7=>
 cL 73 [x7] w fun x8 w=>
 oS 33 x2 x8 w fun w=>
 rD (zaz 33 x2) w fun r2=>R r2 w)
def cfg12:Cfg:=⟨extL,[],[],[],[],[],[]⟩
theorem F12_call {a0:Value} {w:World} {R:VW} (h:F12 a0 w R):cL 12 [a0] w R:=co (g:=cfg12) Tryz.func12 (by kernel_rfl) (by kernel_rfl) (by kernel_rfl) h
def zd6 (c:DCode):DState:=⟨List.replicate c.globals.length 0,List.replicate c.locks.length (-1),[[en c (plc zgb c.procs).toNat]]⟩
def zg3 (c:DCode):DState:=if CodeR c then zd6 c else ⟨[],[],[]⟩
theorem zlI:zcC Tryz.prog 3=some [.int .i64 0]:=by kernel_rfl
theorem zmB {c:DCode} (hc:CodeR c):0≤plc zgb c.procs∧(plc zgb c.procs).toNat<c.entry.length:=by
 have h1:=zc8.2 hc.1.2.2.2.2.2.2
 have h2:=zgE (s:=zgb) (l:=c.procs)
 have h3:=hc.2.1.1
 omega
theorem zkM {lo hi:Nat} {w:World}:OwnI lo hi w (.agg #[.slice none 0 0,.slice none 0 0,.slice none 0 0]) (⟨[],[],[]⟩:DState):=
 (zeh (s:=⟨[],[],[]⟩) (lo:=lo) (hi:=lo) (l0:=lo) (h0:=lo) (l1:=lo) (h1:=lo) (l2:=lo) (h2:=lo) (zcS none) (zcS none) (zcS none) (by omega) (by omega) (by omega) (by omega) (by omega) (by omega)).elim fun F h=>⟨F,h.1,fun b hb=>by have:=h.2 b hb;omega⟩
def stQ (c:DCode) (g1:Nat) (w0:World):ParQ:=fun i u T w=>match i with
 | 0=>u 5=.pointer (some ⟨g1,0+0,none⟩)
 | 1=>Is w0 (u 6) c.globals
 | 2=>u 7=.int .i64 (c.globals.length:Int)
 | 3=>∃ a cap,u 8=.slice a c.globals.length cap∧RowI (T 3).1 (T 3).2 3 w (u 8) (List.replicate c.globals.length (0:Int))
 | 4=>u 9=.pointer (some ⟨g1,0+1,none⟩)
 | 5=>Is w0 (u 10) c.locks
 | 6=>u 11=.int .i64 (c.locks.length:Int)
 | 7=>∃ a cap,u 12=.slice a c.locks.length cap∧RowI (T 7).1 (T 7).2 3 w (u 12) (List.replicate c.locks.length (0:Int))
 | 8=>u 13=.agg #[u 8,u 12,.slice none 0 0]
 | 9=>∃ g,u 3=.pointer (some ⟨g,0,none⟩)∧(T 9).1≤g∧g<(T 9).2∧Blk g 33 w [.slice none 0 0,.slice none 0 0,.slice none 0 0]
 | _=>True
theorem zlk {w W:World} {v:Value} {c:DCode} (h:Is W v c) (e:Ext W w) (hw:zl3 c≤1048576) (hc:CodeR c) :
   CALL Tryz.prog 73 [v] w fun r w'=>Ext w w'∧Own w.heap.size w' r (zd6 c):=by
 have hsz:c.globals.length≤1048576∧c.locks.length≤1048576:=by unfold zl3 zmM at hw;omega
 refine F73_call ?_
 unfold F73
 refine zdf h e fun w1 hx1 hA=>?_
 refine zbm zoj fun w2 hx2 hB2=>?_
 have hg2:=hB2.lt
 have hs1:=hx1.size
 have hx3:=zaj w2
 have hs3:=hx3.size
 refine PAR.mk (stQ c w.heap.size (World.drew1 w2)) ?_ ?_ ?_
 · intro i u u' T T' wa wb hxa hxb hd hq
   match i,hd,hq with
   | 0,hd,hq=>exact (hd (0,5) (by decide)).1.trans hq
   | 1,hd,hq=>have:=(hd (1,6) (by decide)).1;show Is _ (u' 6) _;simp only [this];exact hq
   | 2,hd,hq=>exact (hd (2,7) (by decide)).1.trans hq
   | 3,hd,⟨a,cap,q1,q2⟩=>
     obtain ⟨e1,e2⟩:=hd (3,8) (by decide)
     simp only at e1 e2
     refine ⟨a,cap,e1.trans q1,?_⟩
     simp only [e1,e2];exact q2.ext hxb
   | 4,hd,hq=>exact (hd (4,9) (by decide)).1.trans hq
   | 5,hd,hq=>have:=(hd (5,10) (by decide)).1;show Is _ (u' 10) _;simp only [this];exact hq
   | 6,hd,hq=>exact (hd (6,11) (by decide)).1.trans hq
   | 7,hd,⟨a,cap,q1,q2⟩=>
     obtain ⟨e1,e2⟩:=hd (7,12) (by decide)
     simp only at e1 e2
     refine ⟨a,cap,e1.trans q1,?_⟩
     simp only [e1,e2];exact q2.ext hxb
   | 8,hd,hq=>
     have e1:=(hd (8,13) (by decide)).1
     have e2:=(hd (3,8) (by decide)).1
     have e3:=(hd (7,12) (by decide)).1
     simp only at e1 e2 e3
     show u' 13=.agg #[u' 8,u' 12,.slice none 0 0]
     rw [e1,e2,e3];exact hq
   | 9,hd,⟨g,q1,q2,q3,q4⟩=>
     obtain ⟨e1,e2⟩:=hd (9,3) (by decide)
     simp only at e1 e2
     exact ⟨g,e1.trans q1,by rw [e2];exact q2,by rw [e2];exact q3,q4.ext hxb⟩
   | n+10,_,_=>trivial
 · refine ⟨fun u T w' hx _ _=>?_,fun u T w' hx _ hp=>?_,fun u T w' hx _ hp=>?_,fun u T w' hx _ hp=>?_,fun u T w' hx _ _=>?_,fun u T w' hx _ hp=>?_,fun u T w' hx _ hp=>?_,fun u T w' hx _ hp=>?_,fun u T w' hx _ hp=>?_,fun u T w' hx _ _=>?_,trivial⟩
   · exact zaa zcP ⟨Ext.refl _,rfl⟩
   · have q0:u 5=_:=hp.1
     rw [q0]
     exact zab zcv (zaS hA) (hx2.trans (hx3.trans hx)) fun v6 h6=>⟨Ext.refl _,(h6.ext (hx2.trans hx3))⟩
   · have q1:Is _ (u 6) c.globals:=hp.1
     exact zad u24 q1 ⟨Ext.refl _,rfl⟩
   · have q2:u 7=_:=hp.1
     rw [q2]
     exact zkB (α:=Int) u25 ty3 rfl rfl zlI (by omega) (by omega) fun w4 hx4 r=>⟨hx4,_,_,rfl,r⟩
   · exact zaa zdU ⟨Ext.refl _,rfl⟩
   · have q0:u 9=_:=hp.1
     rw [q0]
     exact zab zcv (zbr hA) (hx2.trans (hx3.trans hx)) fun v6 h6=>⟨Ext.refl _,(h6.ext (hx2.trans hx3))⟩
   · have q1:Is _ (u 10) c.locks:=hp.1
     exact zad u24 q1 ⟨Ext.refl _,rfl⟩
   · have q2:u 11=_:=hp.1
     rw [q2]
     exact zkB (α:=Int) u25 ty3 rfl rfl zlI (by omega) (by omega) fun w4 hx4 r=>⟨hx4,_,_,rfl,r⟩
   · obtain ⟨a,cap,q1,_⟩:∃ a cap,u 8=.slice a c.globals.length cap∧_:=hp.1
     obtain ⟨a',cap',q1',_⟩:∃ a cap,u 12=.slice a c.locks.length cap∧_:=hp.2.1
     rw [q1,q1']
     refine zaP (cells:=#[.slice a c.globals.length cap,.slice a' c.locks.length cap',.slice none 0 0]) (by kernel_rfl) ⟨Ext.refl _,?_⟩
     show _=Value.agg #[u 8,u 12,.slice none 0 0]
     rw [q1,q1'];rfl
   exact zbm zoj fun w4 hx4 hB=>⟨hx4,w'.heap.size,rfl,Nat.le_refl _,hB.lt,hB⟩
 rintro u T w4 hx4 hap ⟨-,-,-,⟨a,cap,-,r8⟩,-,-,-,⟨a',cap',-,r12⟩,q13,⟨g,q3,hg0,hg1,hB3⟩,-⟩
 have q13:u 13=.agg #[u 8,u 12,.slice none 0 0]:=q13
 have t3:=hap.1 3 (by decide)
 have t7:=hap.1 7 (by decide)
 have t9:=hap.1 9 (by decide)
 have d37:=hap.2 3 (by decide) 7 (by decide) (by decide)
 have d39:=hap.2 3 (by decide) 9 (by decide) (by decide)
 have d79:=hap.2 7 (by decide) 9 (by decide) (by decide)
 generalize u 8=v8 at *
 generalize u 12=v12 at *
 have hs4:=hx4.size
 rw [q13,q3]
 refine zbo (x:=(⟨List.replicate c.globals.length 0,List.replicate c.locks.length 0,[]⟩:DState)) (lo:=0) (hi:=w4.heap.size) zcj rfl hB3 rfl
   (zeh (l2:=0) (h2:=0) r8.own r12.own (zcS none) (by omega) (by omega) (by omega) (by omega) (by omega) (by omega)) fun w5 hc5 hB5=>?_
 have hs5:=hc5.size
 have hx15:Ext w1 w5:=Ext.chgI (hx2.trans (hx3.trans hx4)) hc5 (by omega)
 have o8:=r8.own.chg hc5 (by omega)
 have o12:=r12.own.chg hc5 (by omega)
 have hB25:=((hB2.ext hx3).ext hx4).chgI hc5 (by omega)
 refine zaa zcR ?_
 refine zci zba hB5 rfl ?_
 refine zad u25 o12.is ?_
 rw [List.length_replicate]
 refine zaI c.locks.length (fun k us w'=>us=[.int .i64 (k:Int)]∧w5.heap.size≤w'.heap.size∧Ext w1 w'∧Blk g 33 w' [v8,v12,.slice none 0 0]∧OwnI (T 3).1 (T 3).2 w' v8 (List.replicate c.globals.length (0:Int)) ∧
   OwnI (T 7).1 (T 7).2 w' v12 (List.replicate k (-1)++List.replicate (c.locks.length-k) (0:Int))∧Blk w1.heap.size 33 w' [.slice none 0 0,.slice none 0 0,.slice none 0 0]) 0 (Nat.zero_le _)
   ⟨rfl,Nat.le_refl _,hx15,hB5,o8,by simpa using o12,hB25⟩ ?_
 rintro k m uu w7 hkm ⟨hu,hs7,hx7,hB7,o8,⟨F,hM,hF⟩,hB27⟩
 simp only [List.map_cons,List.map_nil,List.cons.injEq,and_true] at hu
 rw [hu]
 refine zai ?_
 refine br (fun hlt=>?_) (fun hge=>?_)
 · refine zaa zcR ?_
   refine zci zba hB7 rfl ?_
   refine zmW (α:=Int) u25 ty3 hM (by simp;omega) (zcp (w:=w7) (x:=-1) (by unfold I64;omega)).own fun w8 hc8 hM8=>?_
   have hcI:=hc8.toI hF
   have hs8:=hc8.size
   refine zak (by omega) ?_
   refine ⟨m-1,by omega,k+1,by omega,rfl,by omega,Ext.chgI hx7 hcI (by omega),hB7.chgI hcI (by omega),o8.chg hcI (by omega),⟨F,?_,hF⟩,hB27.chgI hcI (by omega)⟩
   have:(List.replicate k (-1)++List.replicate (c.locks.length-k) (0:Int)).set k (-1)=List.replicate (k+1) (-1)++List.replicate (c.locks.length-(k+1)) 0:=by
     rw [show c.locks.length-k=(c.locks.length-(k+1))+1 by omega,List.replicate_succ (n:=c.locks.length-(k+1)),List.set_append_right _ _ (by simp),List.length_replicate,Nat.sub_self,List.set_cons_zero,List.replicate_succ' (n:=k)]
     simp
   rw [←this];exact hM8
 have hk:k=c.locks.length:=by omega
 subst hk
 have o12:OwnI (T 7).1 (T 7).2 w7 v12 (List.replicate c.locks.length (-1)):=⟨F,by simpa using hM,hF⟩
 clear hM
 have hx8:=zaj w7
 have hs8:=hx8.size
 refine zaa za1 ?_
 refine zab zba (zao hA) (hx7.trans hx8) fun v26 h26=>?_
 refine zaa zcQ ?_
 refine zab zcv (za6 hA) (hx7.trans hx8) fun v28 h28=>?_
 refine (zeB h28 (hx7.trans hx8)).mono ?_
 rintro _ w9 ⟨hx9,rfl⟩
 have hs9:=hx9.size
 refine ⟨hx9,?_⟩
 obtain ⟨hp0,hp1⟩:0≤plc (ByteArray.mk #[109,97,105,110]) c.procs∧(plc (ByteArray.mk #[109,97,105,110]) c.procs).toNat<c.entry.length:=zmB hc
 refine zau u25 ty3 h26 hp0 hp1 fun b o hA2=>?_
 refine zac ty3 hA2 (hx7.trans (hx8.trans hx9)) fun hI=>?_
 refine zef (α:=Int) (lo:=w9.heap.size) (hi:=w9.heap.size) u25 ty3 z3 (by decide) (ownI_int hI) (by omega) fun v32 w10 hx10 o32=>?_
 have hs10:=hx10.size
 refine zef (α:=List Int) u31 zba z25 (by decide) o32 (by omega) fun v33 w11 hx11 o33=>?_
 have hs11:=hx11.size
 have hx711:=hx8.trans (hx9.trans (hx10.trans hx11))
 refine zaa zaZ ?_
 refine zcI (α:=List (List Int)) zee rfl rfl (hB7.ext hx711) (by simp) o33 fun w12 hc12 hB12=>?_
 have hs12:=hc12.size
 refine zfG hB12 zcj ?_
 have ost:OwnI w2.heap.size w11.heap.size w12 (.agg #[v8,v12,v33]) (zd6 c):=by
   refine zeh (l2:=w9.heap.size) (h2:=w11.heap.size) ((o8.ext hx711).chg hc12 (by omega)) ((o12.ext hx711).chg hc12 (by omega)) ?_ (by omega) (by omega) (by omega) (by omega) (by omega) (by omega)
   have:=(o33.chg hc12 (by omega))
   rw [zbx] at this
   exact this
 refine zbo zcj rfl ((hB27.ext hx711).chgI hc12 (by omega)) rfl ost fun w13 hc13 hB13=>?_
 have hs13:=hc13.size
 refine zdb hB13 zcj ?_
 refine ⟨Ext.chgI (Ext.chgI (hx1.trans (hx7.trans hx711)) hc12 (by omega)) hc13 (by omega),?_⟩
 exact (ost.chg hc13 (by omega)).own.mono (by omega)
theorem zhf {w W:World} {v:Value} {c:DCode} (h:Is W v c) (e:Ext W w) (hw:zl3 c≤1048576) :
   CALL Tryz.prog 12 [v] w fun r w'=>Ext w w'∧Own w.heap.size w' r (zg3 c):=by
 refine F12_call ?_
 unfold F12
 refine zdf h e fun w1 hx1 hA=>?_
 refine zbm zoj fun w2 hx2 hB2=>?_
 have hg2:=hB2.lt
 have hs1:=hx1.size
 refine zab zcD hA hx2 fun v5 h5=>?_
 refine (ze6 h5 hx2).mono ?_
 rintro _ w3 ⟨hx3,rfl⟩
 have hs3:=hx3.size
 refine zas ?_
 refine br (fun hn=>?_) (fun hc=>?_)
 · refine zaP (cells:=#[.slice none 0 0,.slice none 0 0,.slice none 0 0]) (by kernel_rfl) ?_
   refine zbo (lo:=w3.heap.size) (hi:=w3.heap.size) zcj rfl (hB2.ext hx3) rfl zkM fun w4 hc4 hB4=>?_
   refine zdb hB4 zcj ?_
   refine ⟨Ext.chgI (hx1.trans (hx2.trans hx3)) hc4 (by omega),?_⟩
   unfold zg3
   rw [if_neg hn]
   exact (zkM (lo:=w4.heap.size) (hi:=w4.heap.size)).own.mono (by have:=hc4.size;omega)
 have hc:=Decidable.not_not.1 hc
 refine zab zcD hA (hx2.trans hx3) fun v7 h7=>?_
 refine (zlk h7 (hx2.trans hx3) hw hc).mono ?_
 rintro r8 w4 ⟨hx4,o8⟩
 have o8:=o8.toI
 have hs4:=hx4.size
 obtain ⟨a0,a1,a2,F0,F1,F2,rfl⟩:∃ (a0 a1 a2:Value) (F0 F1 F2:List Nat),r8=.agg #[a0,a1,a2]:=by
   obtain ⟨F,hM,_⟩:=o8
   obtain ⟨⟨cs,hr,rfl⟩,_⟩:=hM
   obtain ⟨F0,c0,F1,c1,F2,c2,rfl,rfl,⟨_,_,_,_,rfl,_⟩,⟨_,_,_,_,rfl,_⟩,⟨_,_,_,_,rfl,_⟩⟩:=zhm hr
   exact ⟨_,_,_,[],[],[],rfl⟩
 refine zbo zcj rfl ((hB2.ext hx3).ext hx4) rfl o8 fun w5 hc5 hB5=>?_
 have hs5:=hc5.size
 refine zdb hB5 zcj ?_
 refine ⟨Ext.chgI (hx1.trans (hx2.trans (hx3.trans hx4))) hc5 (by omega),?_⟩
 unfold zg3
 rw [if_pos hc]
 exact (o8.chg hc5 (by omega)).own.mono (by omega)
theorem zij {α:Type} {l:List α} {i:Nat} {x y:α} (h:y∈l.set i x):y=x∨y∈l:=by
 rcases List.mem_or_eq_of_mem_set h with h | h
 · exact .inr h
 exact .inl h
theorem zj3 {c:DCode} (hc:CodeR c):zaB c (zd6 c):=by
 obtain ⟨hp0,hp1⟩:=zmB hc
 have hl:=hc.f.lt _ hp1
 have h0:=hc.f.nonneg hp1
 refine ⟨by simp [zd6],by simp [zd6],by simp [zd6],fun v hv=>?_,fun o ho=>?_,fun l hl'=>?_⟩
 · have:=List.eq_of_mem_replicate hv;omega
 · have:=List.eq_of_mem_replicate ho;simp only [zd6,List.length_cons,List.length_nil];omega
 simp only [zd6,List.mem_cons,List.not_mem_nil,or_false] at hl'
 subst hl'
 refine ⟨by simp,fun i hi=>?_,fun i hi=>by simp at hi⟩
 have:i=0:=by simp at hi;omega
 subst this
 simp only [st,List.getD_cons_zero]
 omega
theorem zo6 {l:List Int} {i j:Nat} {x:Int} (hi:i<l.length):st (l.set i x) j=if i=j then x else st l j:=by
 unfold st
 rw [List.getD_eq_getElem?_getD,List.getD_eq_getElem?_getD,List.getElem?_set]
 by_cases h:i=j
 · subst h;simp [hi]
 simp [h]
theorem zik {l:List Int} {k j:Nat} (hj:j<k):st (l.take k) j=st l j:=by
 unfold st
 rw [List.getD_eq_getElem?_getD,List.getD_eq_getElem?_getD,List.getElem?_take,if_pos hj]
theorem zj4 {l:List Int} {j:Nat} {x:Int}:st (l++[x]) j=if j=l.length then x else st l j:=by
 unfold st
 rw [List.getD_eq_getElem?_getD,List.getD_eq_getElem?_getD,List.getElem?_append]
 by_cases h:j<l.length
 · rw [if_pos h,if_neg (by omega)]
 by_cases h2:j=l.length
 · subst h2;simp
 rw [if_neg h,if_neg h2,List.getElem?_eq_none (by simp;omega),List.getElem?_eq_none (by omega)]
theorem zja {c:DCode} (hc:CodeR c) {a:Int} (h0:0≤a) (h1:a<c.ins.length) (ho:(zbe c a.toNat).op≠9):a+1<c.ins.length∧zay c (a+1)=zay c a:=by
 obtain ⟨i,hi,h2,h3,h4⟩:=hc.f.find hc.1.procs8.2 h0 h1
 have h5:=(hc.2.1.2.2.2 a.toNat (by omega))
 rw [Int.toNat_of_nonneg h0,h4,zcF] at h5
 have h6:zcB c i-1≠a:=fun e=>ho (h5.2 e)
 have h7:=(hc.f.lt i hi).2
 exact ⟨by omega,by rw [h4];exact hc.f.proc hi (by omega) (by omega)⟩
theorem zmC {c:DCode} (hc:CodeR c) {a:Int} (h0:0≤a) (h1:a<c.ins.length) (ho:(zbe c a.toNat).op=2∨(zbe c a.toNat).op=3) :
   0≤(zbe c a.toNat).to∧(zbe c a.toNat).to<c.ins.length∧zay c (zbe c a.toNat).to=zay c a:=by
 obtain ⟨i,hi,h2,h3,h4⟩:=hc.f.find hc.1.procs8.2 h0 h1
 have h5:=(zg0 hc (j:=a.toNat) (by omega)).2.2.2
 rw [if_pos ho,Int.toNat_of_nonneg h0,h4,zcF,Int.toNat_natCast] at h5
 have h6:=hc.f.nonneg hi
 have h7:=(hc.f.lt i hi).2
 exact ⟨by omega,by omega,by rw [h4];exact hc.f.proc hi h5.1 (by omega)⟩
theorem zmD {c:DCode} (hc:CodeR c) {i:Nat} (hi:i<c.entry.length):0≤en c i∧en c i<c.ins.length∧zay c (en c i)=i:=by
 have h6:=hc.f.nonneg hi
 have h7:=hc.f.lt i hi
 exact ⟨h6,by omega,hc.f.proc hi (Int.le_refl _) h7.1⟩
theorem zll (c:DCode):zbb c []:=⟨by simp,fun i hi=>by simp at hi,fun i hi=>by simp at hi⟩
theorem zlm {c:DCode} {n:Int} (h0:0≤n) (h1:n<c.ins.length):zbb c [n]:=by
 refine ⟨by simp,fun i hi=>?_,fun i hi=>by simp at hi⟩
 have:i=0:=by simp at hi;omega
 subst this
 exact ⟨h0,h1⟩
theorem zhC {c:DCode} {l:List Int} {n:Int} (h:zbb c l) (hl:0<l.length) (h0:0≤n) (h1:n<c.ins.length) (hp:zay c n=zay c (st l (l.length-1))):zbb c (l.set (l.length-1) n):=by
 have hs:∀ j,st (l.set (l.length-1) n) j=if l.length-1=j then n else st l j:=fun j=>zo6 (by omega)
 refine ⟨by rw [List.length_set];exact h.1,fun i hi=>?_,fun i hi=>?_⟩
 · rw [List.length_set] at hi
   rw [hs]
   split
   · exact ⟨h0,h1⟩
   exact h.2.1 i hi
 rw [List.length_set] at hi
 have h2:=h.2.2 i hi
 rw [hs i,if_neg (by omega)]
 refine ⟨h2.1,?_⟩
 rw [hs (i+1)]
 split
 · rename_i he
   rw [hp,he];exact h2.2
 exact h2.2
theorem zj5 {c:DCode} {l:List Int} {n:Int} (h:zbb c l) (hl:l.length<8) (h0:0≤n) (h1:n<c.ins.length) (hp:0<l.length→(zbe c (st l (l.length-1)).toNat).op=4∧zay c n=(zbe c (st l (l.length-1)).toNat).arg):zbb c (l++[n]):=by
 refine ⟨by simp;omega,fun i hi=>?_,fun i hi=>?_⟩
 · rw [zj4]
   split
   · exact ⟨h0,h1⟩
   exact h.2.1 i (by simp at hi;omega)
 simp only [List.length_append,List.length_cons,List.length_nil] at hi
 rw [zj4,zj4,if_neg (by omega)]
 by_cases e:i+1=l.length
 · rw [if_pos e]
   have:i=l.length-1:=by omega
   subst this
   exact hp (by omega)
 rw [if_neg e]
 exact h.2.2 i (by omega)
theorem zj6 {c:DCode} {l:List Int} (h:zbb c l) (k:Nat):zbb c (l.take k):=by
 refine ⟨by rw [List.length_take];have:=h.1;omega,fun i hi=>?_,fun i hi=>?_⟩
 · rw [List.length_take] at hi
   rw [zik (by omega)]
   exact h.2.1 i (by omega)
 rw [List.length_take] at hi
 rw [zik (by omega),zik (by omega)]
 exact h.2.2 i (by omega)
theorem zln {c:DCode} (hc:CodeR c) {l:List Int} (h:zbb c l) (hl:0<l.length):zbb c (zi8 l):=by
 unfold zi8
 split
 · exact zll c
 rename_i h1
 have h2:=h.2.2 (l.length-2) (by omega)
 have h3:=h.2.1 (l.length-2) (by omega)
 obtain ⟨h4,h5⟩:=zja hc h3.1 h3.2 (by omega)
 have h6:=zhC (n:=st l (l.length-2)+1) (zj6 h (l.length-1)) (by rw [List.length_take];omega) (by omega) h4 (by
   rw [List.length_take,zik (by omega),h5]
   congr 2
   omega)
 rw [List.length_take] at h6
 rw [show min (l.length-1) l.length-1=l.length-2 by omega] at h6
 exact h6
theorem zfT {c:DCode} {s:DState} (hs:zaB c s) {k:Nat} {l:List Int} (hl:zbb c l):zaB c ⟨s.vars,s.owner,s.stacks.set k l⟩:=by
 refine ⟨hs.1,hs.2.1,by simp only [List.length_set];exact hs.2.2.1,hs.2.2.2.1,by simp only [List.length_set];exact hs.2.2.2.2.1,fun x hx=>?_⟩
 rcases zij hx with rfl | hx
 · exact hl
 exact hs.2.2.2.2.2 x hx
theorem zjb {c:DCode} {s:DState} {t:Int} (hc:CodeR c) (hs:zaB c s) (hgo:GoR c s t):zaB c (zbc c s t):=by
 have hth:=zd4 hgo.1
 unfold zbc
 split
 · refine ⟨by simp only [List.length_set];exact hs.1,hs.2.1,hs.2.2.1,fun v hv=>?_,hs.2.2.2.2.1,hs.2.2.2.2.2⟩
   rcases zij hv with rfl | hv
   · exact zdI _ _ _ _
   exact hs.2.2.2.1 v hv
 split
 · split
   · rename_i h1 h5 h6
     have hp:=zgq hc hs hgo.1 (.inr h5)
     refine ⟨hs.1,hs.2.1,by simp only [List.length_append,List.length_cons,List.length_nil];omega,hs.2.2.2.1,fun o ho=>?_,fun x hx=>?_⟩
     · have:=hs.2.2.2.2.1 o ho
       simp only [List.length_append,List.length_cons,List.length_nil];omega
     rcases List.mem_append.1 hx with hx | hx
     · exact hs.2.2.2.2.2 x hx
     simp only [List.mem_cons,List.not_mem_nil,or_false] at hx
     subst hx
     obtain ⟨h7,h8,_⟩:=zmD hc hp.2
     exact zlm h7 h8
   exact hs
 split
 · refine ⟨hs.1,by simp only [List.length_set];exact hs.2.1,hs.2.2.1,hs.2.2.2.1,fun o ho=>?_,hs.2.2.2.2.2⟩
   rcases zij ho with rfl | ho
   · simp only;omega
   exact hs.2.2.2.2.1 o ho
 split
 · split
   · refine ⟨hs.1,by simp only [List.length_set];exact hs.2.1,hs.2.2.1,hs.2.2.2.1,fun o ho=>?_,hs.2.2.2.2.2⟩
     rcases zij ho with rfl | ho
     · simp only;omega
     exact hs.2.2.2.2.1 o ho
   exact hs
 exact hs
theorem zlo {c:DCode} {s:DState} {t:Int} (hc:CodeR c) (hs:zaB c s) (hgo:GoR c s t):zaB c (zdw c s t):=by
 have hth:=zd4 hgo.1
 obtain ⟨tn,rfl,htn,hne,hl8,hat⟩:=zkL hs hgo.1
 have hpos:=List.length_pos_iff.2 hne
 have hk:=hs.2.2.2.2.2 (stk s tn) (by rw [←zd3 (by omega)];exact List.getElem_mem _)
 have hlt:=zli hs tn
 unfold zdw
 split
 · rename_i h4
   have hp:=zgq hc hs hgo.1 (.inl h4)
   obtain ⟨h7,h8,h9⟩:=zmD hc hp.2
   have h10:=hgo.2.2 h4
   refine zfT hs (zj5 hk (by omega) h7 h8 fun _=>?_)
   rw [←hat]
   refine ⟨h4,?_⟩
   rw [h9]
   have:=hp.1
   unfold atI at this ⊢
   omega
 split
 · exact zfT hs (zln hc hk hpos)
 rename_i h4 h9
 have hn:=zja hc hgo.1 hlt.2 h9
 have key:0≤zdv c s tn∧zdv c s tn<c.ins.length∧zay c (zdv c s tn)=zay c (zc7 s tn):=by
   unfold zdv
   have hnx:0≤zc7 s tn+1∧zc7 s tn+1<c.ins.length∧zay c (zc7 s tn+1)=zay c (zc7 s tn):=⟨by have:=hgo.1;omega,hn.1,hn.2⟩
   split
   · rename_i h2
     split
     · exact zmC hc hgo.1 hlt.2 (.inl h2)
     exact hnx
   split
   · rename_i h3
     exact zmC hc hgo.1 hlt.2 (.inr h3)
   exact hnx
 refine zfT (zjb hc hs hgo) (zhC hk hpos key.1 key.2.1 ?_)
 rw [key.2.2,hat]
end Go.Proofs.YtbnjpfjjmhodnaaGreat
namespace Go.Sh
def zpA (l:List Nat):List Int:=l.map fun x:Nat=>(x:Int)
section
variable {nx:Nat→List Nat} {n a k x q:Nat} {M0 ms:List Bool} {td td':List Nat}
end
section
variable {n:Nat} {p q:Nat→Prop}
end
end Go.Sh
namespace Go.Proofs.YtbnjpfjjmhodnaaGreat
open Go Go.Sh Go.Proofs
open Rep (rep)
section
variable {P:Program} {w w':World}
end
section
variable {w1 w w':World} {m n lo hi:Nat} {tv:Value} {L:List Nat} {ms:List Bool}
end
theorem ownI_int {w:World} {x:Int} (lo hi:Nat) (h:I64 x):OwnI lo hi w (.int .i64 x) x:=⟨[],zcp h,by simp⟩
section
variable {P:Program} {w:World} {α:Type} [Rep α] [Flat α] {lo hi e:Nat} {v:Value} {l:List α}
end
abbrev Tab:=List (Nat×Nat)
structure DEffect where
 keep:Int
 gen:Int
theorem DEffect.ext_iff {x y:DEffect}:x=y↔(x.keep=y.keep∧x.gen=y.gen):=⟨fun h=>by rw [h];exact ⟨rfl,rfl⟩,fun h=>by obtain ⟨h0,h1⟩:=h;cases x;cases y;simp only at h0 h1;simp only [h0,h1]⟩
instance:DecidableEq DEffect:=fun x y=>decidable_of_iff (x.keep=y.keep∧x.gen=y.gen) DEffect.ext_iff.symm
instance:Rep DEffect:=Rep.via fun x=>(x.keep,x.gen)
instance:RepZ DEffect:=⟨⟨(RepZ.zv:Int),(RepZ.zv:Int)⟩,RepZ.zc (Int×Int),fun w=>RepZ.zr (α:=Int×Int) w⟩
instance:Flat DEffect:=⟨fun h=>Flat.flat (α:=Int×Int) h⟩
end Go.Proofs.YtbnjpfjjmhodnaaGreat
namespace Go.Sh
open Rep (rep)
theorem ChgI.one {w w':World} {g:Nat} (h:ChgI g (g+1) w w'):Chg [g] w w':=⟨h.os,h.tape,h.output,h.size,fun b hb hn=>h.block b hb (by simp at hn;omega)⟩
end Go.Sh
namespace Go.Proofs.YtbnjpfjjmhodnaaGreat
open Go Go.Sh Go.Proofs
open Rep (rep)
theorem zil {w:World} {lo hi:Nat} {u:Value} (h:u.oneCell'=true):OwnI lo hi w u (⟨u⟩:Raw):=⟨[],⟨⟨[u],⟨rfl,rfl,h⟩,rfl⟩,List.nodup_nil,Wr.nil _⟩,by simp⟩
section
variable {w1 w w':World} {gv g ga n:Nat} {ms:List Bool} {ag:Bool}
end
end Go.Proofs.YtbnjpfjjmhodnaaGreat
