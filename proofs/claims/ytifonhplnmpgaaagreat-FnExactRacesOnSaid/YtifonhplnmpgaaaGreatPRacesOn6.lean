/-
  Parts of the proof, put together by program.
-/
import Derived.Test.YtifonhplnmpgaaaGreatPRacesOn5
set_option linter.unusedVariables false
set_option linter.unusedSimpArgs false
set_option linter.unusedSectionVars false
namespace Go.Proofs.YtifonhplnmpgaaaGreat
open Go Go.Sh Go.Proofs
open Rep (rep)
def F139 (a0:Value) (w:World) (R:VW):Prop:=
 NIL a0 <|
 rF 114 a0 0 w fun x5=>
 rF 32 x5 2 w fun x6=>
 rL 22 x6 w fun x7=>
 cL 186 [x7,(Value.string (ByteArray.mk #[109,97,105,110]))] w fun x8 w=>
 R x8 w
def cfg139:Cfg:=⟨extL,[],[],[],[],[],[]⟩
theorem F139_call {a0:Value} {w:World} {R:VW} (h:F139 a0 w R):cL 139 [a0] w R:=co (g:=cfg139) Tryz.func139 (by kernel_rfl) (by kernel_rfl) (by kernel_rfl) h
def F80 (a0:Value) (w:World) (R:VW):Prop:=
 cL 139 [a0] w fun x6 w=>
 rD (convert 3 121 x6) w fun x7=>
 rB .shl 3 U0 T0 (iV 1) x7 w fun x8=>
 LOOPI [2,3] [x8,(Value.bool true)] w fun u2 w next2=>
 BR (u2 3)
 (NIL a0 <|
 rF 114 a0 4 w fun x13=>
 rL 23 x13 w fun x14=>
 cL 138 [x14,(u2 2)] w fun x16 w=>
 NIL a0 <|
 rF 114 a0 6 w fun x18=>
 oS 3 x18 x16 w fun w=>
 (fun w=>NIL a0 <|
 rF 114 a0 3 w fun x22=>
 rL 23 x22 w fun x23=>
 NIL a0 <|
 rF 114 a0 6 w fun x26=>
 rL 3 x26 w fun x27=>
 (fun w_=>cL 138 [x23,x27] w_ fun x28 w=>
 Ext w_ w ∧
 rB .or 3 T0 T0 (u2 2) x28 w fun x29=>
 rB .neq 3 T0 T0 x29 (u2 2) w fun x32=>
 next2 [x29,x32] w) w) (World.drew1 w))
 (NIL a0 <|
 rF 114 a0 5 w fun x37=>
 oS 3 x37 (u2 2) w fun w=>
 R (Value.tuple #[]) w)
def cfg80:Cfg:=⟨extL,[],[(2,17179868700,[2,3])],[(4,[0,1,2,3,4,5,6,7,8,9,10,11],512)],[],[],[]⟩
theorem F80_call {a0:Value} {w:World} {R:VW} (h:F80 a0 w R):cL 80 [a0] w R:=co (g:=cfg80) Tryz.func80 (by kernel_rfl) (by kernel_rfl) (by kernel_rfl) h
def F42 (a0:Value) (w:World) (R:VW):Prop:=
 oP (Instr.box 32 a0) w fun x1 w=>
 rL 32 x1 w fun x7=>
 cL 77 [x7] w fun x8 w=>
 rD (Op.unary .not x8) w fun x9=>
 BR x9
 (R (Value.tuple #[(Value.pointer none),(Value.bool false)]) w)
 ((fun w=>rL 32 x1 w fun x10=>
 rF 32 x1 4 w fun x11=>
 rL 30 x11 w fun x12=>
 rN 30 3 x12 w fun x13=>
 (fun w_=>oP (Instr.makeSlice 101 x13 x13) w_ fun x14 w=>
 Ext w_ w ∧
 (rD (Instr.build 114 #[(0,x10),(1,x14)]) w fun x15=>
 oP (Instr.box 114 x15) w fun x16 w=>
 rF 32 x1 3 w fun x17=>
 rL 23 x17 w fun x18=>
 rN 23 3 x18 w fun x19=>
 LOOPI [20] [(iV 0)] w fun u5 w next5=>
 rC (u5 20) x19 w fun x21=>
 BR x21
 (rX 23 x18 (u5 20) w fun x22=>
 rL 3 x22 w fun x23=>
 NIL x16 <|
 rF 114 x16 1 w fun x26=>
 rL 101 x26 w fun x27=>
 rX 101 x27 x23 w fun x29=>
 oS 4 x29 (Value.bool true) w fun w=>
 NIL x16 <|
 rF 114 x16 1 w fun x33=>
 rL 101 x33 w fun x34=>
 cL 78 [x16,x34,x23] w fun x36 w=>
 rA (u5 20) (iV 1) w fun x37=>
 next5 [x37] w)
 (cL 79 [x16] w fun x39 w=>
 cL 80 [x16] w fun x41 w=>
 R (Value.tuple #[x16,(Value.bool true)]) w))) w) (World.drew1 w))
def cfg42:Cfg:=⟨extL,[],[(5,274876858432,[20])],[(3,[0,1,2,3,4,5,6,7],16)],[],[],[]⟩
theorem F42_call {a0:Value} {w:World} {R:VW} (h:F42 a0 w R):cL 42 [a0] w R:=co (g:=cfg42) Tryz.func42 (by kernel_rfl) (by kernel_rfl) (by kernel_rfl) h
open Rep (rep)
theorem zpJ {w:World} {g e o:Nat} {cs:List Value} {x:Int} (hB:Blk g e w cs) (ho:cs[o]?=some (.int .i64 x)) (hx:I64 x):At w g o x:=by
 refine ⟨[],[.int .i64 x],⟨rfl,rfl,hx⟩,fun i u hi=>?_⟩
 have:i=0:=by
   cases i with
   | zero=>rfl
   | succ i=>simp at hi
 subst this
 simp only [List.getElem?_cons_zero,Option.some.injEq] at hi
 subst hi
 have:=hB.range o _ ho
 rw [Nat.zero_add] at this
 exact this
section
variable {W0 w w':World} {b e m g6 g7 g8:Nat} {c:DCode} {kc:List Value} {c6 c7 c8:List Nat} {x9 x10 y9 y10:Value}
theorem FC.cells (h:FC W0 w b e c kc m g6 g7 g8 c6 c7 c8 x9 x10) (hc:ChgI b (b+1) w w') (hB:Blk b e w' (kc++[.slice (some ⟨m,0,none⟩) c.ins.length c.ins.length,sl g6 c.procs.length,sl g7 c.procs.length,sl g8 c.procs.length,y9,y10])):FC W0 w' b e c kc m g6 g7 g8 c6 c7 c8 y9 y10:=
 ⟨h.wb.cells hc hB,zc7 h.m6 hc.one (by simp [h.n6]),zc7 h.m7 hc.one (by simp [h.n7]),zc7 h.m8 hc.one (by simp [h.n8]),h.n6,h.n7,h.n8,h.d67,h.d68,h.d78⟩
theorem FC.store9 {x:Nat} {K:World→Prop} (h:FC W0 w b e c kc m g6 g7 g8 c6 c7 c8 x9 x10) (k:∀ w',FC W0 w' b e c kc m g6 g7 g8 c6 c7 c8 (.int .i64 (x:Int)) x10→K w'):OPU Tryz.prog (Instr.storeAt 3 (.pointer (some ⟨b,0+9,none⟩)) (.int .i64 (x:Int))) w K:=by
 have hl:9<(kc++[Value.slice (some ⟨m,0,none⟩) c.ins.length c.ins.length,sl g6 c.procs.length,sl g7 c.procs.length,sl g8 c.procs.length,x9,x10]).length:=by rw [List.length_append,h.wb.k5];simp
 refine zc1 (α:=Raw) (lo:=0) (hi:=0) ty3 rfl rfl h.wb.blk hl (zc6 rfl) fun w2 hc2 hB2=>?_
 have:=h.wb.set 4 (.int .i64 (x:Int))
 rw [show 5+4=0+9 by omega] at this
 rw [this] at hB2
 exact k w2 (h.cells hc2 hB2)
theorem FC.store10 {x:Nat} {K:World→Prop} (h:FC W0 w b e c kc m g6 g7 g8 c6 c7 c8 x9 x10) (k:∀ w',FC W0 w' b e c kc m g6 g7 g8 c6 c7 c8 x9 (.int .i64 (x:Int))→K w'):OPU Tryz.prog (Instr.storeAt 3 (.pointer (some ⟨b,0+10,none⟩)) (.int .i64 (x:Int))) w K:=by
 have hl:10<(kc++[Value.slice (some ⟨m,0,none⟩) c.ins.length c.ins.length,sl g6 c.procs.length,sl g7 c.procs.length,sl g8 c.procs.length,x9,x10]).length:=by rw [List.length_append,h.wb.k5];simp
 refine zc1 (α:=Raw) (lo:=0) (hi:=0) ty3 rfl rfl h.wb.blk hl (zc6 rfl) fun w2 hc2 hB2=>?_
 have:=h.wb.set 5 (.int .i64 (x:Int))
 rw [show 5+5=0+10 by omega] at this
 rw [this] at hB2
 exact k w2 (h.cells hc2 hB2)
end
theorem zfs {w:World} {b:Nat} {c:DCode} (hA:At w b 0 c) (hc:CodeR c) :
   CALL Tryz.prog 139 [.pointer (some ⟨b,0,none⟩)] w fun r w'=>Ext w w'∧r=.int .i64 (zbL c:Nat):=by
 refine F139_call ?_
 unfold F139
 refine NIL.mk rfl ?_
 refine zaa zaY ?_
 refine zaa za1 ?_
 refine zab zbN (zap hA) (Ext.refl _) fun v15 h15=>?_
 refine (zhg h15 (Ext.refl _)).mono ?_
 rintro _ w2 ⟨hx2,rfl⟩
 have:=(zc5 hc).1
 unfold zhM at this
 rw [this]
 exact ⟨hx2,rfl⟩
structure RM (c:DCode) (r:Nat):Prop where
 lt:r<2^c.procs.length
 self:r.testBit (zbL c)=true
 snd:∀ q,r.testBit q=true→RootP c q
noncomputable def usR (c:DCode) (r:Nat):Nat:=orL (frs c) (zbS r)
theorem zkP {c:DCode} {q r:Nat} (hq:q<c.procs.length):(zau (frs c) q).testBit r=true↔r<c.procs.length∧FromP c q r:=by rw [zlI hq,zbU]
theorem zi1 {c:DCode} (h8:c.procs.length≤8) {r p:Nat} (h:RM c r):(usR c r).testBit p=true↔∃ q,q<c.procs.length∧r.testBit q=true∧p<c.procs.length∧FromP c q p:=by
 unfold usR
 rw [zfW h.lt (by omega)]
 exact ⟨fun ⟨i,h1,h2,h3⟩=>⟨i,h1,h2,(zkP h1).1 h3⟩,fun ⟨i,h1,h2,h3⟩=>⟨i,h1,h2,(zkP h1).2 h3⟩⟩
theorem zpK {c:DCode} (h8:c.procs.length≤8) {r:Nat} (h:RM c r):usR c r<2^c.procs.length:=zkO fun p hp=>by
 obtain ⟨_,_,_,h3,_⟩:=(zi1 h8 h).1 hp;exact h3
theorem RM.start {c:DCode} (hc:CodeR c):RM c (2^zbL c):=⟨Nat.pow_lt_pow_right (by omega) (zc5 hc).2,by simp [Nat.testBit_two_pow],fun q hq=>by simp [Nat.testBit_two_pow] at hq;exact hq▸.main⟩
theorem RM.more_bit {c:DCode} (h8:c.procs.length≤8) {r q:Nat} (h:RM c r):(orL (cls c 5) (zbS (usR c r))).testBit q=true↔∃ p,p<c.procs.length∧(usR c r).testBit p=true∧q<c.procs.length∧zgM c p 5 q:=by
 rw [zfW (zpK h8 h) (by omega)]
 exact ⟨fun ⟨i,h1,h2,h3⟩=>⟨i,h1,h2,(zgn h1).1 h3⟩,fun ⟨i,h1,h2,h3⟩=>⟨i,h1,h2,(zgn h1).2 h3⟩⟩
theorem RM.more {c:DCode} (h8:c.procs.length≤8) {r:Nat} (h:RM c r):RM c (r ||| orL (cls c 5) (zbS (usR c r))):=by
 refine ⟨Nat.or_lt_two_pow h.lt (zkO fun q hq=>by obtain ⟨_,_,_,h3,_⟩:=(h.more_bit h8).1 hq;exact h3),by rw [Nat.testBit_or,h.self];rfl,fun q hq=>?_⟩
 rw [Nat.testBit_or,Bool.or_eq_true] at hq
 rcases hq with hq | hq
 · exact h.snd q hq
 obtain ⟨p,h1,h2,h3,h4⟩:=(h.more_bit h8).1 hq
 obtain ⟨s,h5,h6,_,h7⟩:=(zi1 h8 h).1 h2
 exact .spawn (h.snd s h6) h7 h4 h3
theorem RM.fin {c:DCode} (hc:CodeR c) (h8:c.procs.length≤8) {r:Nat} (h:RM c r) (he:r ||| orL (cls c 5) (zbS (usR c r))=r):r=zbV c∧usR c r=zcS c:=by
 have hall:∀ q,RootP c q→r.testBit q=true:=fun q hq=>by
   induction hq with
   | main=>exact h.self
   | @spawn s p q h0 h1 h2 hq ih=>
     have hs:=h0.lt hc
     rw [←he,Nat.testBit_or,(h.more_bit h8).2 ⟨p,h1.lt hs,(zi1 h8 h).2 ⟨s,hs,ih,h1.lt hs,h1⟩,hq,h2⟩]
     simp
 refine ⟨zec fun q=>⟨fun hq=>⟨(h.snd q hq).lt hc,h.snd q hq⟩,fun hq=>hall q hq.2⟩,zec fun p=>?_⟩
 rw [zi1 h8 h]
 constructor
 · rintro ⟨q,h1,h2,h3,h4⟩
   exact ⟨h3,q,h.snd q h2,h4⟩
 rintro ⟨h3,q,h1,h2⟩
 exact ⟨q,h1.lt hc,hall q h1,h3,h2⟩
theorem zjV {w W0:World} {b e m g6 g7 g8:Nat} {c:DCode} {kc:List Value} {x9 x10:Value} (H:FC W0 w b e c kc m g6 g7 g8 (cls c 4) (cls c 5) (frs c) x9 x10) (hc:CodeR c) :
   CALL Tryz.prog 80 [.pointer (some ⟨b,0,none⟩)] w fun r w'=>r=.tuple #[]∧FC W0 w' b e c kc m g6 g7 g8 (cls c 4) (cls c 5) (frs c) (.int .i64 (zbV c:Nat)) (.int .i64 (zcS c:Nat)):=by
 refine F80_call ?_
 unfold F80
 have h8:=hc.1.procs8
 have hml:=(zc5 hc).2
 refine (zfs H.wb.code_at hc).mono ?_
 rintro _ w1 ⟨hx1,rfl⟩
 have H1:=H.step hx1
 refine zcP (by kernel_rfl) zmD (by omega) ?_
 refine zdA (by omega) ?_
 have hR:=RM.start hc
 have h8':2^c.procs.length≤256:=Nat.pow_le_pow_right (n:=2) (by omega) h8.1
 refine LOOPI.mk (fun mm us w'=>∃ (s:Nat) (ag:Bool) (y:Value),us=[.int .i64 (s:Int),.bool ag]∧mm=(256-s)+(if ag then 1 else 0)∧FC W0 w' b e c kc m g6 g7 g8 (cls c 4) (cls c 5) (frs c) x9 y∧RM c s∧(ag=false→s=zbV c∧y=.int .i64 (zcS c:Nat))) (256-2^zbL c+1) ⟨2^zbL c,true,x10,rfl,rfl,H1,hR,fun e=>by cases e⟩ ?_
 rintro mm u2 w2 ⟨s,ag,y,hu,hm,H2,hR2,hend⟩
 obtain ⟨hu1,hu2⟩:=zb9 hu
 rw [hu1,hu2]
 have hs256:s<256:=Nat.lt_of_lt_of_le hR2.lt h8'
 refine zbI (fun hag=>?_) (fun hag=>?_)
 · rw [hag,if_pos rfl] at hm
   refine NIL.mk rfl ?_
   refine zaa zg1 ?_
   refine zaC zb6 H2.wb.blk (H2.wb.cell 3) ?_
   refine (zeZ H2.m8.is (Ext.refl _) (zq8 h8.1) (by rw [zgm];exact h8.1) (m:=s) (by rw [zgm];exact hR2.lt)).mono ?_
   rintro _ w3 ⟨hx3,rfl⟩
   have H3:=H2.step hx3
   have hul:=zpK h8.1 hR2
   have hu256:usR c s<256:=Nat.lt_of_lt_of_le hul h8'
   have hue:orL (frs c) (zbS s)=usR c s:=rfl
   rw [hue]
   refine NIL.mk rfl ?_
   refine zaa zff ?_
   refine H3.store10 fun w4 H4=>?_
   have hxd:=zan w4
   have H5:=H4.step hxd
   generalize World.drew1 w4=w5 at *
   refine NIL.mk rfl ?_
   refine zaa zko ?_
   refine zaC zb6 H5.wb.blk (H5.wb.cell 2) ?_
   refine NIL.mk rfl ?_
   refine zaa zff ?_
   refine zaC ty3 H5.wb.blk (H5.wb.cell 5) ?_
   refine (zeZ H5.m7.is (Ext.refl _) (zlP h8.1 5) (by rw [zeO];exact h8.1) (m:=usR c s) (by rw [zeO];exact hul)).mono ?_
   rintro _ w6 ⟨hx6,rfl⟩
   have H6:=H5.step hx6
   have hor:=zlC (zlP h8.1 5) (zbS (usR c s))
   have hR6:=hR2.more h8.1
   have hfin:=hR2.fin hc h8.1
   have hgt:=fun h=>zoY (m:=orL (cls c 5) (zbS (usR c s))) (n:=s) h
   refine ⟨hx6,?_⟩
   refine zfd (m:=s) (n:=orL (cls c 5) (zbS (usR c s))) (by omega) (by omega) ?_
   have hor2:s ||| orL (cls c 5) (zbS (usR c s))<256:=Nat.or_lt_two_pow (n:=8) hs256 hor
   generalize s ||| orL (cls c 5) (zbS (usR c s))=t at *
   refine zaz ?_
   by_cases hts:t=s
   · refine ⟨256-t,by omega,t,_,_,rfl,?_,H6,hR6,fun _=>?_⟩
     · rw [hts];simp
     rw [(hfin hts).2]
     exact ⟨by rw [hts];exact (hfin hts).1,rfl⟩
   have hd:decide ((t:Int)≠(s:Int))=true:=decide_eq_true fun h=>hts (Int.ofNat_inj.1 h)
   have:=hgt hts
   rw [hd]
   exact ⟨256-t+1,by omega,t,true,_,rfl,rfl,H6,hR6,fun e=>by cases e⟩
 obtain ⟨hse,hye⟩:=hend hag
 rw [hye] at H2
 refine NIL.mk rfl ?_
 refine zaa zfe ?_
 refine H2.store9 fun w3 H3=>?_
 rw [hse] at H3
 exact ⟨rfl,H3⟩
theorem FC.wat {W0 w:World} {b e m g6 g7 g8:Nat} {c:DCode} {kc:List Value} (H:FC W0 w b e c kc m g6 g7 g8 (cls c 4) (cls c 5) (frs c) (.int .i64 (zbV c:Nat)) (.int .i64 (zcS c:Nat))) (h8:c.procs.length≤8):WAt w b c:=by
 have h1:zbV c<256:=zaU h8
 have h2:zcS c<256:=zaU h8
 exact ⟨H.wb.wl,zdV H.wb.blk (H.wb.cell 1) H.m6.is,zdV H.wb.blk (H.wb.cell 2) H.m7.is,zdV H.wb.blk (H.wb.cell 3) H.m8.is,zpJ H.wb.blk (H.wb.cell 4) (by unfold I64;omega),zpJ H.wb.blk (H.wb.cell 5) (by unfold I64;omega)⟩
theorem zmo {w W0:World} {v0:Value} {c:DCode} (h0:Is W0 v0 c) (e0:Ext W0 w) :
   CALL Tryz.prog 42 [v0] w fun r w'=>Ext w w'∧((¬CodeR c∧r=.tuple #[.pointer none,.bool false])∨(CodeR c∧∃ b,r=.tuple #[.pointer (some ⟨b,0,none⟩),.bool true]∧WAt w' b c)):=by
 refine F42_call ?_
 unfold F42
 refine zbq h0 e0 fun w1 hx1 hA=>?_
 refine zab zbu hA (Ext.refl _) fun v7 h7=>?_
 refine (ziJ h7 (Ext.refl _)).mono ?_
 rintro _ w2 ⟨hx2,rfl⟩
 refine zaA ?_
 refine br (fun hn=>?_) (fun hy=>?_)
 · exact ⟨hx1.trans hx2,.inl ⟨hn,rfl⟩⟩
 have hc:CodeR c:=Decidable.not_not.1 hy
 have h8:=hc.1.procs8
 have hil:=hc.f.ins
 have hz0:=(zdw hc h8.2).2.2
 have hxd:=zan w2
 have hx3:=hx2.trans hxd
 generalize World.drew1 w2=w3 at *
 refine zab zbu hA hx3 fun v10 h10=>?_
 refine zaa zaD ?_
 refine zab zco (zai hA) hx3 fun v12 h12=>?_
 refine zaf u30 h12 ?_
 refine zc2 (by omega) (by omega) fun w4 hx4 hM4=>?_
 have hs4:=hx4.size
 have hm4:=hM4.lt _ (List.mem_singleton.2 rfl)
 generalize hm:w3.heap.size=m at *
 have h10':=h10.ext hx3
 have hcells:=zh5 h10'
 obtain ⟨F,kc,hr,hkc⟩:=h10'
 obtain ⟨a0,a1,a2,a3,a4,n0,n1,n2,n3,n4,k0,k1,k2,k3,k4,hcv⟩:=hcells
 have hkce:kc=[.slice a0 n0 k0,.slice a1 n1 k1,.slice a2 n2 k2,.slice a3 n3 k3,.slice a4 n4 k4]:=by
   rw [hkc] at hcv
   have:(Value.agg kc.toArray)=.agg #[.slice a0 n0 k0,.slice a1 n1 k1,.slice a2 n2 k2,.slice a3 n3 k3,.slice a4 n4 k4]:=hcv
   simpa using this
 rw [hcv]
 refine ⟨hx4,?_⟩
 refine zcB (cells:=#[.slice a0 n0 k0,.slice a1 n1 k1,.slice a2 n2 k2,.slice a3 n3 k3,.slice a4 n4 k4,sl m c.ins.length,.slice none 0 0,.slice none 0 0,.slice none 0 0,.int .i64 0,.int .i64 0]) (by kernel_rfl) ?_
 refine zky fun w5 hx5 hB5=>?_
 have hB5':Blk w4.heap.size 114 w5 (kc++[sl m c.ins.length,.slice none 0 0,.slice none 0 0,.slice none 0 0,.int .i64 0,.int .i64 0]):=by rw [hkce];exact hB5
 have hk5:kc.length=5:=Rep.len hr
 clear hB5 hcv hkc
 have hM5:=hM4.ext hx5
 have hx35:Ext w3 w5:=hx4.trans hx5
 generalize hb:w4.heap.size=b at *
 refine zaa zaT ?_
 refine zab zb6 (zam hA) (hx3.trans hx35) fun v18 h18=>?_
 have h18:=h18.ext hx3
 refine zaf u23 h18 ?_
 have hel:c.entry.length=c.procs.length:=hc.2.1.1
 rw [hel]
 have hrep0:List.replicate c.ins.length false=zbE c.ins.length (fun i=>∃ p,p<0∧zay c p i):=zcC _ fun i ⟨p,h,_⟩=>by omega
 rw [hrep0] at hM5
 have hcell0:∀ {x1 x2 x3 x4 x5:Value},(kc++[sl m c.ins.length,x1,x2,x3,x4,x5])[0+5]?=some (sl m c.ins.length):=by intros;rw [List.getElem?_append_right (by rw [hk5];omega),hk5];rfl
 refine zas c.procs.length (fun k us w'=>us=[.int .i64 (k:Int)]∧k≤c.procs.length∧Ext w3 w'∧Blk b 114 w' (kc++[sl m c.ins.length,.slice none 0 0,.slice none 0 0,.slice none 0 0,.int .i64 0,.int .i64 0])∧Mine [m] w' (sl m c.ins.length) (zbE c.ins.length fun i=>∃ p,p<k∧zay c p i)) 0 (Nat.zero_le _) ⟨rfl,Nat.zero_le _,hx35,hB5',hM5⟩ ?_
 rintro k mk u w6 hkm ⟨hu,hkl,hx6,hB6,hM6⟩
 simp only [List.map_cons,List.map_nil,List.cons.injEq,and_true] at hu
 rw [hu]
 refine zah ?_
 refine br (fun hlt=>?_) (fun hge=>?_)
 · have hk:k<c.procs.length:=by omega
   have hke:k<c.entry.length:=by omega
   obtain ⟨he1,he2,he3⟩:=zep hc hke
   refine zad u23 ty3 (i:=k) h18 hke fun b5 o5 hA5=>?_
   rw [za8 hke,he1] at hA5
   refine zac ty3 hA5 hx6 fun _=>?_
   refine NIL.mk rfl ?_
   refine zaa zir ?_
   refine zaC zcq hB6 hcell0 ?_
   refine zbk (α:=Bool) rfl zcm ty4 he2 ?_
   refine zaW (α:=Bool) rfl ty4 hM6 zak he2 zbb fun w7 hc7 hm7=>?_
   have hB7:=hB6.chgF hc7 (by simp;omega)
   have hx7:Ext w3 w7:=hx6.chgF hc7 (by simp [hm])
   have hmk7:∀ i,mkd ((zbE c.ins.length fun i=>∃ p,p<k∧zay c p i).set (eN c k) true) i↔(i<c.ins.length∧∃ p,p<k∧zay c p i)∨i=eN c k:=fun i=>by
     rw [zbY (by rw [zak];exact he2),zaI]
   have hl7:((zbE c.ins.length fun i=>∃ p,p<k∧zay c p i).set (eN c k) true).length=c.ins.length:=by rw [List.length_set,zak]
   generalize (zbE c.ins.length fun i=>∃ p,p<k∧zay c p i).set (eN c k) true=ms7 at *
   refine NIL.mk rfl ?_
   refine zaa zir ?_
   refine zaC zcq hB7 hcell0 ?_
   have hK7:KAt w3 w7 b c:=⟨F,kc,hr,zlO hB7,hB7.lt⟩
   refine (zjR hK7 hx7 hc rfl he2 hm7 hl7 (by omega) (by omega) ?_).mono ?_
   · intro i hi hne j hj
     rcases (hmk7 i).1 hi with ⟨h1,p,h2,h3⟩ | h
     · have hil:=zb2 hc h1 hj
       exact (hmk7 j).2 (.inl ⟨hil.1,p,h2,znv h3 hj⟩)
     exact absurd h hne
   rintro _ w8 ⟨rfl,hc8,hM8⟩
   have hset:(zbE c.ins.length fun i=>mkd ms7 i∨RP (zav c) (eN c k) i)=zbE c.ins.length fun i=>∃ p,p<k+1∧zay c p i:=zbo fun i hi=>by
     rw [hmk7]
     constructor
     · rintro ((⟨_,p,h2,h3⟩ | h) | h)
       · exact ⟨p,by omega,h3⟩
       · exact ⟨k,by omega,.inl h⟩
       exact ⟨k,by omega,.inr h⟩
     rintro ⟨p,h2,h3⟩
     by_cases e:p=k
     · subst e
       rcases h3 with h3 | h3
       · exact .inl (.inr h3)
       exact .inr h3
     exact .inl (.inl ⟨hi,p,by omega,h3⟩)
   rw [hset] at hM8
   refine zag (by omega) ?_
   exact ⟨mk-1,by omega,k+1,by omega,rfl,by omega,hx7.chgI hc8 (by omega),hB7.chgI hc8 (by omega),hM8⟩
 have hke:k=c.procs.length:=by omega
 have hal:(zbE c.ins.length fun i=>∃ p,p<k∧zay c p i)=zbE c.ins.length (zdE c):=by rw [hke];rfl
 rw [hal] at hM6
 have HW:WB w3 w6 b 114 c kc m (.slice none 0 0) (.slice none 0 0) (.slice none 0 0) (.int .i64 0) (.int .i64 0):=⟨hx6,hB6,⟨F,hr⟩,hM6,by omega,by omega,by omega⟩
 refine (zjU HW hc).mono ?_
 rintro _ w7 ⟨rfl,g6,g7,g8,H7⟩
 refine (zjV H7 hc).mono ?_
 rintro _ w8 ⟨rfl,H8⟩
 exact ⟨hx1.trans (hx3.trans H8.wb.ext),.inr ⟨hc,b,rfl,H8.wat h8.1⟩⟩
end Go.Proofs.YtifonhplnmpgaaaGreat
namespace Go.Proofs.YtifonhplnmpgaaaGreat
open Go.Shelf
def Tryz.sortRace_ren:Go.Shelf.Ren:=⟨fun | 6=>164 | 15=>142 | 14=>219 | 28=>195 | 29=>196 | 20=>242 | 21=>243 | 22=>244 | 23=>245 | 24=>246 | 25=>247 | 26=>248 | 27=>249 | 46=>259 | 47=>225 | 48=>226 | 49=>260 | 50=>261 | 57=>262 | n=>n,fun | 22=>43 | 24=>79 | 25=>178 | 3=>3 | 39=>121 | 0=>0 | 53=>196 | 55=>120 | 4=>4 | 46=>189 | 45=>188 | 50=>193 | 5=>5 | 9=>9 | 66=>215 | 70=>219 | 76=>237 | 77=>238 | n=>n,fun | n=>n⟩
theorem Tryz.sortRace:SlLaysF0.n6 Tryz.prog Tryz.sortRace_ren:={
 mixed:=by kernel_rfl,
 f6:=⟨Tryz.f164.name,by kernel_rfl,Tryz.func164.trans (congrArg some (by kernel_rfl))⟩,
 f14:=⟨Tryz.f219.name,by kernel_rfl,Tryz.func219.trans (congrArg some (by kernel_rfl))⟩,
 f15:=Tryz.func142.trans (congrArg some (by kernel_rfl)),
 f20:=⟨Tryz.f242.name,by kernel_rfl,Tryz.func242.trans (congrArg some (by kernel_rfl))⟩,
 f21:=⟨Tryz.f243.name,by kernel_rfl,Tryz.func243.trans (congrArg some (by kernel_rfl))⟩,
 f22:=⟨Tryz.f244.name,by kernel_rfl,Tryz.func244.trans (congrArg some (by kernel_rfl))⟩,
 f23:=⟨Tryz.f245.name,by kernel_rfl,Tryz.func245.trans (congrArg some (by kernel_rfl))⟩,
 f24:=⟨Tryz.f246.name,by kernel_rfl,Tryz.func246.trans (congrArg some (by kernel_rfl))⟩,
 f25:=⟨Tryz.f247.name,by kernel_rfl,Tryz.func247.trans (congrArg some (by kernel_rfl))⟩,
 f26:=⟨Tryz.f248.name,by kernel_rfl,Tryz.func248.trans (congrArg some (by kernel_rfl))⟩,
 f27:=⟨Tryz.f249.name,by kernel_rfl,Tryz.func249.trans (congrArg some (by kernel_rfl))⟩,
 f28:=Tryz.func195.trans (congrArg some (by kernel_rfl)),
 f29:=Tryz.func196.trans (congrArg some (by kernel_rfl)),
 f46:=⟨Tryz.f259.name,by kernel_rfl,Tryz.func259.trans (congrArg some (by kernel_rfl))⟩,
 f47:=Tryz.func225.trans (congrArg some (by kernel_rfl)),
 f48:=Tryz.func226.trans (congrArg some (by kernel_rfl)),
 f49:=⟨Tryz.f260.name,by kernel_rfl,Tryz.func260.trans (congrArg some (by kernel_rfl))⟩,
 f50:=⟨Tryz.f261.name,by kernel_rfl,Tryz.func261.trans (congrArg some (by kernel_rfl))⟩,
 f57:=⟨Tryz.f262.name,by kernel_rfl,Tryz.func262.trans (congrArg some (by kernel_rfl))⟩,
 t0:=Tryz.underlying0,
 a0:=Tryz.isAgg0,
 z0:=Tryz.sizeOf0,
 v0:=Tryz.zeroValue0,
 t3:=Tryz.underlying3,
 a3:=Tryz.isAgg3,
 z3:=Tryz.sizeOf3,
 v3:=Tryz.zeroValue3,
 t4:=Tryz.underlying4,
 a4:=Tryz.isAgg4,
 z4:=Tryz.sizeOf4,
 v4:=Tryz.zeroValue4,
 t5:=Tryz.underlying5,
 a5:=Tryz.isAgg5,
 z5:=Tryz.sizeOf5,
 v5:=Tryz.zeroValue5,
 t9:=Tryz.underlying9,
 a9:=Tryz.isAgg9,
 z9:=Tryz.sizeOf9,
 v9:=Tryz.zeroValue9,
 t22:=Tryz.underlying43,
 a22:=Tryz.isAgg43,
 z22:=Tryz.sizeOf43,
 v22:=Tryz.zeroValue43,
 t25:=Tryz.underlying178,
 a25:=Tryz.isAgg178,
 z25:=Tryz.sizeOf178,
 v25:=Tryz.zeroValue178,
 t39:=Tryz.underlying121,
 a39:=Tryz.isAgg121,
 z39:=Tryz.sizeOf121,
 v39:=Tryz.zeroValue121,
 t45:=Tryz.underlying188,
 a45:=Tryz.isAgg188,
 z45:=Tryz.sizeOf188,
 v45:=Tryz.zeroValue188,
 t46:=Tryz.underlying189,
 a46:=Tryz.isAgg189,
 z46:=Tryz.sizeOf189,
 v46:=Tryz.zeroValue189,
 t50:=Tryz.underlying193,
 a50:=Tryz.isAgg193,
 z50:=Tryz.sizeOf193,
 v50:=Tryz.zeroValue193,
 t53:=Tryz.underlying196,
 a53:=Tryz.isAgg196,
 z53:=Tryz.sizeOf196,
 v53:=Tryz.zeroValue196,
 t55:=Tryz.underlying120,
 a55:=Tryz.isAgg120,
 z55:=Tryz.sizeOf120,
 v55:=Tryz.zeroValue120,
 t66:=Tryz.underlying215,
 a66:=Tryz.isAgg215,
 z66:=Tryz.sizeOf215,
 v66:=Tryz.zeroValue215,
 t70:=Tryz.underlying219,
 a70:=Tryz.isAgg219,
 z70:=Tryz.sizeOf219,
 v70:=Tryz.zeroValue219,
 t76:=Tryz.underlying237,
 a76:=Tryz.isAgg237,
 z76:=Tryz.sizeOf237,
 v76:=Tryz.zeroValue237,
 t77:=Tryz.underlying238,
 a77:=Tryz.isAgg238,
 z77:=Tryz.sizeOf238,
 v77:=Tryz.zeroValue238 }
end Go.Proofs.YtifonhplnmpgaaaGreat
namespace Go.Sh
open Rep (rep)
open Go.Sort Go.Proofs
section
variable {α:Type} [Inhabited α] {enc:α→List Value} {k:Nat}
theorem zlQ (hk:∀ x,(enc x).length=k):∀ (l:List α),(l.flatMap enc).length=l.length*k
 | []=>by simp
 | x :: l=>by rw [List.flatMap_cons,List.length_append,hk,zlQ hk l,List.length_cons,Nat.add_mul];omega
theorem zlR (hk:∀ x,(enc x).length=k) (h0:0<k):∀ {l:List α} {t:Nat},t<l.length*k→(l.flatMap enc)[t]?=some ((enc l[t / k]!)[t%k]!)
 | [],t,h=>by simp at h
 | x :: l,t,h=>by
   rw [List.flatMap_cons]
   rcases Nat.lt_or_ge t k with ht | ht
   · rw [List.getElem?_append_left (by rw [hk];exact ht),Nat.div_eq_of_lt ht,Nat.mod_eq_of_lt ht]
     have:t<(enc x).length:=by rw [hk];exact ht
     rw [List.getElem?_eq_getElem this]
     simp [this]
   rw [List.getElem?_append_right (by rw [hk];exact ht),hk]
   have h':t-k<l.length*k:=by rw [List.length_cons,Nat.add_mul] at h;omega
   rw [zlR hk h0 h']
   have e1:t / k=(t-k) / k+1:=by
     have:t=(t-k)+k:=by omega
     conv=>lhs;rw [this]
     rw [Nat.add_div_right _ h0]
   have e2:t%k=(t-k)%k:=by
     have:t=(t-k)+k:=by omega
     conv=>lhs;rw [this]
     rw [Nat.add_mod_right]
   rw [e1,e2]
   simp
theorem zjW (hk:∀ x,(enc x).length=k) (h0:0<k) {l:List α} {t:Nat} (h:t<l.length*k):(l.flatMap enc)[t]?=some (flatK enc k l.toArray)[t]!:=by
 rw [zlR hk h0 h,get_flatK enc k l.toArray t (by simpa using h)]
 simp
end
section
variable {α:Type} [Rep α] [Flat α] [Inhabited α] {w:World} {enc:α→List Value} {b o n cap:Nat} {l:List α}
theorem zjX (henc:∀ {F w cs} {x:α},rep F w cs x→cs=enc x):∀ {l:List α} {F:List Nat} {xs:List Value},Cells F w xs l→xs=l.flatMap enc
 | [],_,_,⟨_,h⟩=>by simp [h]
 | y :: ys,_,_,⟨F1,F2,c1,c2,_,h,h1,h2⟩=>by rw [h,henc h1,zjX henc h2,List.flatMap_cons]
theorem zjY {w':World} (henc:∀ {F w cs} {x:α},rep F w cs x→cs=enc x):∀ {l:List α},(∀ x∈l,∃ F cs,rep F w cs x)→Cells [] w' (l.flatMap enc) l
 | [],_=>⟨rfl,rfl⟩
 | y :: ys,h=>by
   obtain ⟨F,cs,hr⟩:=h y (by simp)
   have hF:=Flat.flat hr
   subst hF
   have hc:=henc hr
   subst hc
   exact ⟨[],[],enc y,ys.flatMap enc,rfl,rfl,Rep.keep hr (by simp),zjY henc fun x hx=>h x (by simp [hx])⟩
theorem zjZ:∀ {l:List α} {F:List Nat} {xs:List Value},Cells F w xs l→∀ x∈l,∃ F cs,rep F w cs x
 | y :: ys,_,_,⟨F1,F2,c1,c2,_,h,h1,h2⟩,x,hx=>by
   rcases List.mem_cons.1 hx with rfl | hx
   · exact ⟨_,_,h1⟩
   exact zjZ h2 x hx
theorem zj0 (henc:∀ {F w cs} {x:α},rep F w cs x→cs=enc x) (hk:∀ x,(enc x).length=Rep.size α) (hw:∃ c e,w.heap[b]?=some (.cells c e (0,0))) {xs:List Value} (hc:Cells [] w xs l) (hr:w.rangeAt b o xs):HoldsK enc (Rep.size α) w b o l.toArray:=by
 intro j hj
 rw [size_flatK] at hj
 have hj':j<l.length*Rep.size α:=by simpa using hj
 have:=zjX henc hc
 subst this
 have h1:=hr j _ (zjW hk Rep.pos hj')
 refine ⟨h1,?_⟩
 obtain ⟨c,e,he⟩:=hw
 simp [World.frozen?,he]
theorem zkQ (henc:∀ {F w cs} {x:α},rep F w cs x→cs=enc x) (hk:∀ x,(enc x).length=Rep.size α) {d':Array α} {m:Nat} {os:Array Obj} {w3:World} (hw3:w3=sortWorldK enc (Rep.size α) w b o m d' os) (hw:∃ c e,w.heap[b]?=some (.cells c e (0,0))) {xs:List Value} (hc:Cells [] w xs l) (hr:w.rangeAt b o xs)
   (h1:l.length≤cap) (h2:cap≤maxLen) (hl:d'.size=l.length) (hp:∀ x∈d'.toList,x∈l):Chg [b] w w3∧Mine [b] w3 (.slice (some ⟨b,o,none⟩) l.length cap) d'.toList:=by
 subst hw3
 have hH:=zj0 henc hk hw hc hr
 obtain ⟨c,e,he⟩:=hw
 have hb:b<w.heap.size:=(Array.getElem?_eq_some_iff.1 he).1
 have hsz:(putRowK enc (Rep.size α) (Sort.ahead w m) b o d').heap.size=w.heap.size:=by simp [putRowK,putRow,mapBlock,Sort.ahead]
 have hblk:∀ i,i<w.heap.size→i≠b→(sortWorldK enc (Rep.size α) w b o m d' os).heap[i]?=w.heap[i]?:=fun i hi hne=>by
   unfold sortWorldK
   rw [heap_grow_old _ _ (by rw [hsz];exact hi)]
   simp [putRowK,putRow,mapBlock,Sort.ahead,Array.getElem?_modify,hne.symm]
 have hbb:∃ c',(sortWorldK enc (Rep.size α) w b o m d' os).heap[b]?=some (.cells c' e (0,0)):=by
   unfold sortWorldK
   rw [heap_grow_old _ _ (by rw [hsz];exact hb)]
   exact ⟨_,by simp [putRowK,putRow,mapBlock,Sort.ahead,Array.getElem?_modify,he,onCells];rfl⟩
 have hsz2:w.heap.size≤(sortWorldK enc (Rep.size α) w b o m d' os).heap.size:=by
   unfold sortWorldK grow
   rw [Array.size_append,hsz];omega
 refine ⟨⟨rfl,rfl,rfl,hsz2,fun i hi hm=>hblk i hi fun e=>hm (by simp [e])⟩,⟨⟨_,⟨some ⟨b,o,none⟩,cap,[],d'.toList.flatMap enc,rfl,by simpa [hl] using h1,h2,?_,.inr ⟨b,o,rfl,rfl,?_,by omega⟩⟩,by simp [mkv,Rep.agg,hl]⟩,by simp,fun i hi=>?_⟩⟩
 · exact zjY (w:=w) henc fun x hx=>zjZ hc x (hp x hx)
 · intro j v hv
   have hj:j<d'.toList.length*Rep.size α:=by
     have:=(List.getElem?_eq_some_iff.1 hv).1
     rwa [zlQ hk] at this
   rw [zjW hk Rep.pos hj,Option.some.injEq] at hv
   have hj2:j<(flatK enc (Rep.size α) d').size:=by rw [size_flatK];simpa using hj
   have:=cell?_putRow id (Sort.ahead w m) b o (flatK enc (Rep.size α) l.toArray) (flatK enc (Rep.size α) d') hH (by simp [hl]) j hj2
   unfold sortWorldK
   rw [cell?_grow _ _ _ (by rw [hsz];exact hb)]
   show (putRow id (Sort.ahead w m) b o (flatK enc (Rep.size α) d')).cell? _=_
   rw [this,←hv]
   simp
 simp only [List.mem_cons,List.not_mem_nil,or_false] at hi
 subst hi
 obtain ⟨c',hc'⟩:=hbb
 exact ⟨c',e,hc'⟩
end
end Go.Sh
namespace Go.Sh
open Rep (rep)
section
variable {P:Program} {w:World} {α:Type} [Rep α] [Flat α] {b o n cap k:Nat} {l:List α}
theorem zdW {F:List Nat} {v:Value} (hm:Mine F w v l) (hl:l≠[]):∃ b o cap xs,v=.slice (some ⟨b,o,none⟩) l.length cap∧F=[b]∧l.length≤cap∧cap≤maxLen∧Cells [] w xs l∧w.rangeAt b o xs∧(∃ c e,w.heap[b]?=some (.cells c e (0,0))):=by
 obtain ⟨⟨cs,⟨a,cap,Fi,xs,rfl,h1,h2,hc,h4⟩,rfl⟩,hn,hw⟩:=hm
 rcases h4 with ⟨h4,_⟩ | ⟨b,o,rfl,rfl,hr,hb⟩
 · exact absurd h4 hl
 have hFi:=Cells.flat (xs:=xs) hc
 subst hFi
 exact ⟨b,o,cap,xs,rfl,rfl,h1,h2,hc,hr,hw b (by simp)⟩
theorem zej {xs:List Value} (h1:l.length≤cap) (h2:cap≤maxLen) (hc:Cells [] w xs l) (hr:w.rangeAt b o xs) (hw:∃ c e,w.heap[b]?=some (.cells c e (0,0))):Mine [b] w (.slice (some ⟨b,o,none⟩) l.length cap) l:=
 ⟨⟨_,⟨some ⟨b,o,none⟩,cap,[],xs,rfl,h1,h2,hc,.inr ⟨b,o,rfl,rfl,hr,by obtain ⟨c,e,h⟩:=hw;exact (Array.getElem?_eq_some_iff.1 h).1⟩⟩,rfl⟩,by simp,fun i hi=>by simp at hi;subst hi;exact hw⟩
theorem zqh {t e:TypeId} {by_:Nat} {K:Value→Prop} (ht:P.underlying t=some (.slice e)) (he:tyI P e=some (Rep.size α,by_,Rep.agg α)) (hk:k≤n) (hn:n≤cap) (kk:K (.slice (some ⟨b,o,none⟩) k cap)) :
   RD P (Instr.sliceAt t (.slice (some ⟨b,o,none⟩) n cap) none (some (.int .i64 (k:Int))) none) w K:=by
 refine za4 (fun w' _=>?_) kk
 have hbd:(Instr.sliceBounds true n cap none (some (.int .i64 (k:Int))) none).run P w'=.ok (0,k,cap) w':=by
   have h5:(k:Int)≤(cap:Int):=by omega
   simp [Instr.sliceBounds,Instr.sliceBound,asIntOf,h5]
   intro h6
   omega
 simp only [Instr.sliceAt,Instr.slice,Sem.run_bind,run_underlying ht,Result.andThen_ok,hbd,zaO he]
 simp [Addr.add_mid]
theorem zlS {t e:TypeId} {by_:Nat} {K:Value→Prop} (ht:P.underlying t=some (.slice e)) (he:tyI P e=some (Rep.size α,by_,Rep.agg α)) (hk:k≤n) (hn:n≤cap) (kk:K (.slice (if cap=k then some ⟨b,o,none⟩ else some ⟨b,o+k*Rep.size α,none⟩) (n-k) (cap-k))) :
   RD P (Instr.sliceAt t (.slice (some ⟨b,o,none⟩) n cap) (some (.int .i64 (k:Int))) none none) w K:=by
 refine za4 (fun w' _=>?_) kk
 have hb:(Instr.sliceBounds true n cap (some (.int .i64 (k:Int))) none none).run P w'=.ok (k,n,cap) w':=by
   have:(k:Int)≤(n:Int):=by omega
   simp [Instr.sliceBounds,Instr.sliceBound,asIntOf,this]
   try (intro h;omega)
 simp [Instr.sliceAt,Instr.slice,run_underlying ht,hb,zaO he,Addr.add_mid]
theorem zlT {t e:TypeId} {by_ j:Nat} {K:Value→Prop} (ht:P.underlying t=some (.slice e)) (he:tyI P e=some (Rep.size α,by_,Rep.agg α)) (hk:k≤j) (hn:j≤cap) {a:Option Addr} (kk:∀ a',(k≠0→a'=a)→K (.slice a' k j)) :
   RD P (Instr.sliceAt t (.slice a n cap) none (some (.int .i64 (k:Int))) (some (.int .i64 (j:Int)))) w K:=by
 have hb:∀ w',(Instr.sliceBounds true n cap none (some (.int .i64 (k:Int))) (some (.int .i64 (j:Int)))).run P w'=.ok (0,k,j) w':=fun w'=>by
   have h1:(j:Int)≤(cap:Int):=by omega
   have h2:(k:Int)≤(j:Int):=by omega
   simp [Instr.sliceBounds,Instr.sliceBound,asIntOf,h1,h2]
   try (intro h;omega)
 have:∃ a',(∀ w',(Instr.sliceAt t (.slice a n cap) none (some (.int .i64 (k:Int))) (some (.int .i64 (j:Int)))).run P w'=.ok (.slice a' k j) w')∧(k≠0→a'=a):=by
   cases a with
   | none=>exact ⟨none,fun w'=>by simp [Instr.sliceAt,Instr.slice,run_underlying ht,hb,zaO he],fun _=>rfl⟩
   | some a=>exact ⟨some a,fun w'=>by simp [Instr.sliceAt,Instr.slice,run_underlying ht,hb,zaO he,Addr.add],fun _=>rfl⟩
 obtain ⟨a',h1,h2⟩:=this
 exact za4 (fun w' _=>h1 w') (kk a' h2)
theorem znT [RepZ α] {t e ty:TypeId} {K:Value→World→Prop} (ht:P.underlying t=some (.slice e)) (hz:zcQ P e=some (RepZ.zc α)) (hm:Mine [b] w (.slice (some ⟨b,o,none⟩) n cap) l) (hl:l.length=n) (hk:k≤n) (hk0:0<k) (hn:n≤cap)
   (kk:∀ w',Chg [b] w w'→Mine [b] w' (.slice (some ⟨b,o,none⟩) k cap) (l.take k)→K (.tuple #[]) w') :
   OP P (Builtin.clear_ #[t] ty [Value.slice (if cap=k then some ⟨b,o,none⟩ else some ⟨b,o+k*Rep.size α,none⟩) (n-k) (cap-k)].toArray) w K:=by
 have hne:l≠[]:=fun e=>by rw [e] at hl;simp at hl;omega
 obtain ⟨b',o',cap',xs,hv,hb',h1,h2,hc,hr,hw⟩:=zdW hm hne
 simp only [Value.slice.injEq,Option.some.injEq,Addr.mk.injEq] at hv
 obtain ⟨⟨rfl,rfl,_⟩,hnl,rfl⟩:=hv
 have htk:(l.take k).length=k:=by simp;omega
 have e0:l=l.take k++l.drop k:=by simp
 have hc':=hc
 rw [e0] at hc'
 obtain ⟨F1,F2,x1,x2,hFF,rfl,c1,c2⟩:=Cells.split hc'
 obtain ⟨rfl,rfl⟩:=List.append_eq_nil_iff.1 hFF.symm
 have hx1:x1.length=k*Rep.size α:=by rw [Cells.len c1,htk]
 have hr1:=(zaN hr).1
 by_cases hnk:n=k
 · subst hnk
   refine ⟨.tuple #[],w,?_,kk w (Chg.refl _ _) ?_⟩
   · rw [Nat.sub_self]
     by_cases hck:cap=n
     · rw [if_pos hck];simp [Builtin.clear_,run_underlying ht]
     rw [if_neg hck];simp [Builtin.clear_,run_underlying ht]
   have:=zej (l:=l.take n) (cap:=cap) (by omega) h2 c1 hr1 hw
   rwa [htk] at this
 have hck:¬cap=k:=by omega
 rw [if_neg hck]
 obtain ⟨c,e',he⟩:=hw
 unfold zcQ at hz
 cases hi:P.info? e with
 | none=>simp [hi] at hz
 | some i=>
   simp only [hi] at hz
   obtain ⟨z,hzz,hzc⟩:=Option.map_eq_some_iff.1 hz
   have hzl:z.cells.size=Rep.size α:=by
     rw [←Array.length_toList,hzc];exact Rep.len (RepZ.zr (α:=α) w)
   have hpos:=Rep.pos (α:=α)
   obtain ⟨m,hm'⟩:∃ m,n-k=m+1:=⟨n-k-1,by omega⟩
   have hzs:(Builtin.zeroCells z.cells (n-k)).toList.length=(n-k)*Rep.size α:=by simp [Builtin.zeroCells,hzl]
   have hfit:o+(k*Rep.size α)+0+(Builtin.zeroCells z.cells (n-k)).toList.length≤c.size:=by
     rw [hzs]
     have hx:(x1++x2).length=n*Rep.size α:=by rw [Cells.len hc,hl]
     have hlast:=hr (n*Rep.size α-1) ((x1++x2)[n*Rep.size α-1]'(by rw [hx];have:=Nat.mul_pos (show 0<n by omega) hpos;omega)) (List.getElem?_eq_getElem _)
     simp only [World.cell?,he] at hlast
     have:=(Array.getElem?_eq_some_iff.1 (by simpa using hlast)).1
     have h3:(n-k)*Rep.size α+k*Rep.size α=n*Rep.size α:=by rw [←Nat.add_mul];congr 1;omega
     have h4:=Nat.mul_pos (show 0<n by omega) hpos
     omega
   have hone:∀ v∈(Builtin.zeroCells z.cells (n-k)).toList,v.oneCell'=true:=fun v hv=>by
     simp only [Builtin.zeroCells,Array.toList_map,Array.toList_range,List.mem_map,List.mem_range] at hv
     obtain ⟨i,_,rfl⟩:=hv
     have hlt:i%z.cells.size<z.cells.size:=Nat.mod_lt _ (by omega)
     have e3:z.cells[i%z.cells.size]! = z.cells[i%z.cells.size]'hlt:=by simp [hlt]
     rw [e3]
     refine Rep.one (RepZ.zr (α:=α) w) _ ?_
     rw [←hzc]
     exact Array.getElem_mem_toList hlt
   have hst:=run_storeCells_at (P:=P) b (o+k*Rep.size α) e' (Builtin.zeroCells z.cells (n-k)).toList 0 c w he hfit hone
   simp only [Nat.add_zero] at hst
   refine ⟨.tuple #[],_,?_,kk _ (zcp w b (c.toList.take (o+k*Rep.size α)++(Builtin.zeroCells z.cells (n-k)).toList++c.toList.drop (o+k*Rep.size α+(Builtin.zeroCells z.cells (n-k)).toList.length)).toArray) ?_⟩
   · rw [hm'] at hst ⊢
     simp [Builtin.clear_,run_underlying ht,zeroValue,typeInfo,hi,hzz,hst]
   have hB:=setRow_heap w b c (c.toList.take (o+k*Rep.size α)++(Builtin.zeroCells z.cells (n-k)).toList++c.toList.drop (o+k*Rep.size α+(Builtin.zeroCells z.cells (n-k)).toList.length)).toArray e' _ he
   have:=zej (w:=w.setRow b (c.toList.take (o+k*Rep.size α)++(Builtin.zeroCells z.cells (n-k)).toList++c.toList.drop (o+k*Rep.size α+(Builtin.zeroCells z.cells (n-k)).toList.length)).toArray) (b:=b) (o:=o) (l:=l.take k) (cap:=cap) (xs:=x1) (by omega) h2 (c1.keep (by simp)) (fun j v hv=>?_) ⟨_,_,hB⟩
   · rwa [htk] at this
   have hj:=(List.getElem?_eq_some_iff.1 hv).1
   rw [hx1] at hj
   have h5:=hr1 j v hv
   simp only [World.cell?,he] at h5
   have h6:c[o+j]?=some v:=by simpa using h5
   simp only [World.cell?,hB]
   simp only [Option.isSome_none,Bool.false_eq_true,if_false,List.getElem?_toArray]
   rw [List.append_assoc,List.getElem?_append_left (by simp;have:=(Array.getElem?_eq_some_iff.1 h6).1;omega),List.getElem?_take,if_pos (by omega)]
   simpa using h6
end
end Go.Sh
namespace Go.Proofs.YtifonhplnmpgaaaGreat
open Go Go.Sh Go.Proofs
open Rep (rep)
set_option maxRecDepth 20000 in
theorem zhA {w w0 w1:World} {K:Value→Prop} {x y:Operand} {v1 v2:Value} {a b:DRace} (h1:Is w0 v1 a) (h2:Is w1 v2 b) (k:K (.bool (decide (a=b)))):RD Tryz.prog (bin .eql 79 x y v1 v2) w K:=by
  obtain ⟨rfl,_⟩:=zg3.1 h1
  obtain ⟨rfl,_⟩:=zg3.1 h2
  refine za4 (fun w' _=>?_) k
  have hg:Tryz.prog.eqGuardType Tryz.prog.depth 79=false:=by kernel_rfl
  have e0:∀ xs ys w,(eqGuard .eql 79 x y (.agg xs) (.agg ys)).run Tryz.prog w=.ok () w:=fun xs ys w=>run_eqGuard_agg (P:=Tryz.prog) w .eql 79 x y xs ys hg
  have e1:∀ xs ys w,(Op.equalIn 10000 79 (.agg xs) (.agg ys)).run Tryz.prog w=(Op.eqFields 9999 xs ys (Tryz.prog.fieldsOf 79).toList).run Tryz.prog w:=fun xs ys w=>run_equalIn_struct w 9999 79 xs ys (by kernel_rfl) (by kernel_rfl)
  have e2:(Tryz.prog.fieldsOf 79).toList.map (fun f=>(f.name,f.type,f.offset))=[("Global", 3,0),("A", 3,1),("B", 3,2)]:=by kernel_rfl
  have e3:∀ (c d:Int) (w:World),(Op.equalIn 9999 3 (.int .i64 c) (.int .i64 d)).run Tryz.prog w=.ok (c == d) w:=fun c d w=>run_equalIn_int w 9998 3 .i64 .i64 c d u3
  have hd:(a=b)↔(a.g=b.g∧a.a=b.a∧a.b=b.b):=⟨fun e=>by rw [e];exact ⟨rfl,rfl,rfl⟩,fun ⟨x,y,z⟩=>by cases a;cases b;simp only at x y z;rw [x,y,z]⟩
  generalize hF:(Tryz.prog.fieldsOf 79).toList=fs at e1 e2
  match fs,e2 with
  | [f0,f1,f2],e2=>
    simp only [List.map_cons,List.map_nil,List.cons.injEq,Prod.mk.injEq,and_true] at e2
    obtain ⟨⟨n0,t0,o0⟩,⟨n1,t1,o1⟩,⟨n2,t2,o2⟩⟩:=e2
    have p0:∀ (a b c:Value) (w:World),(part 3 #[a,b,c] 0).run Tryz.prog w=.ok a w:=fun a b c w=>by simp [part,zck ty3]
    have p1:∀ (a b c:Value) (w:World),(part 3 #[a,b,c] 1).run Tryz.prog w=.ok b w:=fun a b c w=>by simp [part,zck ty3]
    have p2:∀ (a b c:Value) (w:World),(part 3 #[a,b,c] 2).run Tryz.prog w=.ok c w:=fun a b c w=>by simp [part,zck ty3]
    simp only [bin,Sem.run_bind,e0,Result.andThen_ok,run_eql_struct,e1,Op.eqFields,n0,n1,n2,t0,t1,t2,o0,o1,o2]
    simp only [ne_eq,String.reduceEq,not_false_eq_true,if_true,Sem.run_bind,p0,p1,p2,Result.andThen_ok,e3,Sem.run_ite,Sem.run_pure,hd]
    by_cases x0:a.g=b.g<;>by_cases x1:a.a=b.a<;>by_cases x2:a.b=b.b<;>simp [x0,x1,x2]
set_option maxRecDepth 20000 in
theorem zkR {w w0 w1:World} {K:Value→Prop} {x y:Operand} {v1 v2:Value} {a b:DRace} (h1:Is w0 v1 a) (h2:Is w1 v2 b) (k:K (.bool (decide (a≠b)))):RD Tryz.prog (bin .neq 79 x y v1 v2) w K:=by
  obtain ⟨rfl,_⟩:=zg3.1 h1
  obtain ⟨rfl,_⟩:=zg3.1 h2
  refine za4 (fun w' _=>?_) k
  have hg:Tryz.prog.eqGuardType Tryz.prog.depth 79=false:=by kernel_rfl
  have e0:∀ xs ys w,(eqGuard .neq 79 x y (.agg xs) (.agg ys)).run Tryz.prog w=.ok () w:=fun xs ys w=>run_eqGuard_agg (P:=Tryz.prog) w .neq 79 x y xs ys hg
  have e1:∀ xs ys w,(Op.equalIn 10000 79 (.agg xs) (.agg ys)).run Tryz.prog w=(Op.eqFields 9999 xs ys (Tryz.prog.fieldsOf 79).toList).run Tryz.prog w:=fun xs ys w=>run_equalIn_struct w 9999 79 xs ys (by kernel_rfl) (by kernel_rfl)
  have e2:(Tryz.prog.fieldsOf 79).toList.map (fun f=>(f.name,f.type,f.offset))=[("Global", 3,0),("A", 3,1),("B", 3,2)]:=by kernel_rfl
  have e3:∀ (c d:Int) (w:World),(Op.equalIn 9999 3 (.int .i64 c) (.int .i64 d)).run Tryz.prog w=.ok (c == d) w:=fun c d w=>run_equalIn_int w 9998 3 .i64 .i64 c d u3
  have hd:(a=b)↔(a.g=b.g∧a.a=b.a∧a.b=b.b):=⟨fun e=>by rw [e];exact ⟨rfl,rfl,rfl⟩,fun ⟨x,y,z⟩=>by cases a;cases b;simp only at x y z;rw [x,y,z]⟩
  generalize hF:(Tryz.prog.fieldsOf 79).toList=fs at e1 e2
  match fs,e2 with
  | [f0,f1,f2],e2=>
    simp only [List.map_cons,List.map_nil,List.cons.injEq,Prod.mk.injEq,and_true] at e2
    obtain ⟨⟨n0,t0,o0⟩,⟨n1,t1,o1⟩,⟨n2,t2,o2⟩⟩:=e2
    have p0:∀ (a b c:Value) (w:World),(part 3 #[a,b,c] 0).run Tryz.prog w=.ok a w:=fun a b c w=>by simp [part,zck ty3]
    have p1:∀ (a b c:Value) (w:World),(part 3 #[a,b,c] 1).run Tryz.prog w=.ok b w:=fun a b c w=>by simp [part,zck ty3]
    have p2:∀ (a b c:Value) (w:World),(part 3 #[a,b,c] 2).run Tryz.prog w=.ok c w:=fun a b c w=>by simp [part,zck ty3]
    simp only [bin,Sem.run_bind,e0,Result.andThen_ok,run_neq_struct,e1,Op.eqFields,n0,n1,n2,t0,t1,t2,o0,o1,o2]
    simp only [ne_eq,String.reduceEq,not_false_eq_true,if_true,Sem.run_bind,p0,p1,p2,Result.andThen_ok,e3,Sem.run_ite,Sem.run_pure,hd]
    by_cases x0:a.g=b.g<;>by_cases x1:a.a=b.a<;>by_cases x2:a.b=b.b<;>simp [x0,x1,x2,hd]
def F167 (a0:Value) (w:World) (R:VW):Prop:=
 rN 43 3 a0 w fun x7=>
 rB .lss 3 T0 U0 x7 (iV 2) w fun x8=>
 BR x8
 (R a0 w)
 (LOOPI [3] [(iV 1)] w fun u4 w next4=>
 rN 43 3 a0 w fun x12=>
 rC (u4 3) x12 w fun x13=>
 BR x13
 ((fun w=>rX 43 a0 (u4 3) w fun x18=>
 rL 79 x18 w fun x19=>
 rB .sub 3 T0 U0 (u4 3) (iV 1) w fun x22=>
 rX 43 a0 x22 w fun x23=>
 rL 79 x23 w fun x24=>
 rB .eql 79 T0 T0 x19 x24 w fun x25=>
 BR x25
 (rD (Instr.sliceAt 43 a0 (some (u4 3)) none none) w fun x28=>
 LOOPI [3,5] [(u4 3),(iV 1)] w fun u9 w next9=>
 rN 43 3 x28 w fun x31=>
 rC (u9 5) x31 w fun x32=>
 BR x32
 ((fun w=>rX 43 x28 (u9 5) w fun x37=>
 rL 79 x37 w fun x38=>
 rB .sub 3 T0 U0 (u9 5) (iV 1) w fun x41=>
 rX 43 x28 x41 w fun x42=>
 rL 79 x42 w fun x43=>
 rB .neq 79 T0 T0 x38 x43 w fun x44=>
 BR x44
 (rX 43 x28 (u9 5) w fun x49=>
 rL 79 x49 w fun x50=>
 rX 43 a0 (u9 3) w fun x51=>
 oS 79 x51 x50 w fun w=>
 rA (u9 3) (iV 1) w fun x53=>
 rA (u9 5) (iV 1) w fun x34=>
 next9 [x53,x34] w)
 (rA (u9 5) (iV 1) w fun x34=>
 next9 [(u9 3),x34] w)) (World.drew1 w))
 (rD (Instr.sliceAt 43 a0 (some (u9 3)) none none) w fun x56=>
 oP (Builtin.clear_ #[43] 0 [x56].toArray) w fun _ w=>
 rD (Instr.sliceAt 43 a0 none (some (u9 3)) none) w fun x59=>
 R x59 w))
 (rA (u4 3) (iV 1) w fun x15=>
 next4 [x15] w)) (World.drew1 w))
 (R a0 w))
def cfg167:Cfg:=⟨extL,[],[(4,1152921504606846012,[3]),(9,18014397972611112,[3,5])],[(6,[0,1,2,3,4,5,6,7,8,9],0),(11,[0,1,2,3,4,5,6,7,8,9],0)],[],[],[]⟩
theorem F167_call {a0:Value} {w:World} {R:VW} (h:F167 a0 w R):cL 167 [a0] w R:=co (g:=cfg167) Tryz.func167 (by kernel_rfl) (by kernel_rfl) (by kernel_rfl) h
def F163 (a0:Value) (w:World) (R:VW):Prop:=
 rB .eql 43 T0 U0 a0 (Value.slice none 0 0) w fun x4=>
 BR x4
 (R (Value.slice none 0 0) w)
 (oP (Instr.buildSlice 43 0 #[]) w fun x5 w=>
 oP (Builtin.append_ #[43,43] 43 [x5,a0].toArray) w fun x7 w=>
 R x7 w)
def cfg163:Cfg:=⟨extL,[],[],[],[],[],[]⟩
theorem F163_call {a0:Value} {w:World} {R:VW} (h:F163 a0 w R):cL 163 [a0] w R:=co (g:=cfg163) Tryz.func163 (by kernel_rfl) (by kernel_rfl) (by kernel_rfl) h
def F166 (a0:Value) (w:World) (R:VW):Prop:=
 rN 43 3 a0 w fun x5=>
 rN 43 3 a0 w fun x7=>
 rD (Instr.sliceAt 43 a0 none (some x5) (some x7)) w fun x8=>
 R x8 w
def cfg166:Cfg:=⟨extL,[],[],[],[],[],[]⟩
theorem F166_call {a0:Value} {w:World} {R:VW} (h:F166 a0 w R):cL 166 [a0] w R:=co (g:=cfg166) Tryz.func166 (by kernel_rfl) (by kernel_rfl) (by kernel_rfl) h
theorem zkS {P:Program} {w:World} {t e:TypeId} {b a n cap sz by_ k:Nat} {ag:Bool} {u:Value} {K:Value→Prop} (ht:P.underlying t=some (.slice e)) (he:tyI P e=some (sz,by_,ag)) (hu:u=.slice (some ⟨b,a,none⟩) n cap) (hk:k<n) (kk:K (.pointer (some ⟨b,a+k*sz,none⟩))) :
   RD P (Instr.indexAt t u (.int .i64 (k:Int))) w K:=by
 subst hu
 exact za4 (fun w' _=>by rw [zcE ht he (by omega) (by omega)];simp) kk
instance:Flat DRace:=⟨fun h=>by obtain ⟨F1,F2,c1,c2,rfl,rfl,⟨rfl,_⟩,⟨F3,F4,c3,c4,rfl,rfl,⟨rfl,_⟩,⟨rfl,_⟩⟩⟩:=h;rfl⟩
section
variable {α:Type} [DecidableEq α]
def ddg (x:α):List α→List α
 | []=>[]
 | y :: l=>if y=x then ddg x l else y :: ddg y l
def ddp:List α→List α
 | []=>[]
 | x :: l=>x :: ddg x l
theorem zi2 (y:α):∀ (l:List α) (x:α),ddg x (l++[y])=if y=l.getLastD x then ddg x l else ddg x l++[y]
 | [],x=>rfl
 | a :: l,x=>by
   rw [List.cons_append,ddg,ddg,List.getLastD_cons]
   by_cases h:a=x
   · rw [if_pos h,if_pos h,zi2 y l x,h]
   rw [if_neg h,if_neg h,zi2 y l a]
   split<;>rfl
theorem zi3 {l:List α} {k:Nat} (h0:0<k) (hk:k<l.length):ddp (l.take (k+1))=if l[k]=l[k-1] then ddp (l.take k) else ddp (l.take k)++[l[k]]:=by
 rw [List.take_succ_eq_append_getElem hk]
 cases l with
 | nil=>simp at hk
 | cons x l=>
   obtain ⟨j,rfl⟩:∃ j,k=j+1:=⟨k-1,by omega⟩
   have hj:j<l.length:=by simpa using hk
   have e:(l.take j).getLastD x=(x :: l)[j+1-1]:=by
     rw [List.getLastD_eq_getLast?,List.getLast?_eq_getElem?,List.length_take,Nat.min_eq_left (by omega)]
     cases j with
     | zero=>simp
     | succ j=>simp [List.getElem?_take];rw [List.getElem?_eq_getElem (by omega)];rfl
   rw [List.take_succ_cons,List.cons_append,ddp,ddp,zi2,e]
   split<;>rfl
end
theorem zmp {w:World} {lo hi:Nat} {v:Value} {l:List DRace} (h:OwnI lo hi w v l) (hn:l.length≤1073741824) :
   CALL Tryz.prog 167 [v] w fun r w'=>ChgI lo hi w w'∧OwnI lo hi w' r (ddp l):=by
 obtain ⟨F,hM,hF⟩:=h
 refine F167_call ?_
 unfold F167
 refine zaf u43 hM.is ?_
 refine zah ?_
 refine br (fun hlt=>?_) (fun hge=>?_)
 · refine ⟨ChgI.refl w,F,?_,hF⟩
   have:ddp l=l:=by
     match l,hlt with
     | [],_=>rfl
     | [x],_=>rfl
     | _ :: _ :: _,h=>simp only [List.length_cons] at h;omega
   rw [this];exact hM
 have hne:l≠[]:=fun e=>by rw [e] at hge;simp at hge
 obtain ⟨b,o,cap,xs,rfl,rfl,h1,h2,hcc,hrr,hww⟩:=zdW hM hne
 have hln:=hM.is
 refine zas l.length (fun k us w'=>us=[.int .i64 (k:Int)]∧Ext w w'∧1≤k∧k≤l.length∧ddp (l.take k)=l.take k) 1 (by omega) ⟨rfl,Ext.refl w,Nat.le_refl _,by omega,?_⟩ ?_
 · cases l with
   | nil=>exact absurd rfl hne
   | cons x l=>rfl
 rintro k0 mk u w1 hkm ⟨hu,hx1,hk1,hkl,hd0⟩
 simp only [List.map_cons,List.map_nil,List.cons.injEq,and_true] at hu
 rw [hu]
 refine zaf u43 hln ?_
 refine zah ?_
 refine br (fun hlt=>?_) (fun hge1=>?_)
 case refine_2=>
   have:k0=l.length:=by omega
   subst this
   rw [List.take_length] at hd0
   rw [hd0]
   exact ⟨hx1.toI,[b],hM.ext hx1,hF⟩
 have hk:k0<l.length:=by omega
 have hx2:=zan w1
 have hx12:=hx1.trans hx2
 generalize World.drew1 w1=w2 at *
 refine zad u43 zcf hln hk fun b1 o1 hA1=>?_
 refine zab zcf hA1 hx12 fun v19 h19=>?_
 refine zbC (by unfold I64;omega) ?_
 rw [show ((k0:Int)-1)=((k0-1:Nat):Int) by omega]
 refine zad (i:=k0-1) u43 zcf hln (by omega) fun b2 o2 hA2=>?_
 refine zab zcf hA2 hx12 fun v24 h24=>?_
 refine zhA h19 h24 ?_
 refine br (fun heq=>?_) (fun hneq=>?_)
 case refine_2=>
   refine zag (by omega) ?_
   refine ⟨mk-1,by omega,k0+1,by omega,rfl,hx12,by omega,by omega,?_⟩
   rw [zi3 (by omega) hk,if_neg hneq,hd0,←List.take_succ_eq_append_getElem hk]
 refine zlS (α:=DRace) u43 zcf (by omega) h1 ?_
 rw [if_neg (by omega)]
 have e3:Rep.size DRace=3:=rfl
 rw [e3]
 refine zas (l.length-k0) (fun k2 us w'=>∃ (k:Nat) (cur:List DRace),us=[.int .i64 (k:Int),.int .i64 (k2:Int)]∧Chg [b] w w'∧Mine [b] w' (.slice (some ⟨b,o,none⟩) l.length cap) cur∧cur.length=l.length∧1≤k2∧k2≤l.length-k0∧k0≤k∧k+1≤k0+k2 ∧
     cur.take k=ddp (l.take (k0+k2))∧∀ j,k≤j→cur[j]?=l[j]?) 1 (by omega)
   ⟨k0,l,rfl,hx12.chg _,hM.ext hx12,rfl,Nat.le_refl _,by omega,Nat.le_refl _,by omega,by rw [zi3 (by omega) hk,if_pos heq,hd0],fun _ _=>rfl⟩ ?_
 rintro k2 mk2 u9 w3 hkm2 ⟨k,cur,hu9,hc3,hm3,hl3,hk21,hk22,hk0,hkk,htk,hrest⟩
 obtain ⟨hu91,hu92⟩:=zb9 hu9
 rw [hu91,hu92]
 refine za4 (v:=.int .i64 ((l.length-k0:Nat):Int)) (fun w' _=>by simp [Builtin.len_,run_underlying u43];rfl) ?_
 refine zah ?_
 refine br (fun hlt2=>?_) (fun hge2=>?_)
 · have hp:k0+k2<l.length:=by omega
   have hx4:=zan w3
   have hm4:=hm3.ext hx4
   have hc4:=hc3.trans (hx4.chg _)
   generalize World.drew1 w3=w4 at *
   have hcne:cur≠[]:=fun e=>by rw [e] at hl3;simp at hl3;omega
   obtain ⟨b',o',cap',xs',hv',hb',_,_,hcc',hrr',hww'⟩:=zdW hm4 hcne
   simp only [Value.slice.injEq,Option.some.injEq,Addr.mk.injEq] at hv'
   obtain ⟨⟨rfl,rfl,_⟩,_,rfl⟩:=hv'
   have hat:∀ i (hi:i<cur.length),At w4 b (o+i*3) cur[i]:=fun i hi=>hcc'.at hrr' hi
   have hget:∀ i (hi:i<l.length) (hki:k≤i),cur[i]'(by omega)=l[i]:=fun i hi hki=>by
     have:=hrest i hki
     rw [List.getElem?_eq_getElem (by omega),List.getElem?_eq_getElem hi] at this
     exact Option.some.inj this
   have hA3:=hat (k0+k2) (by omega)
   have hA4:=hat (k0+k2-1) (by omega)
   rw [hget _ hp (by omega)] at hA3
   rw [hget _ (by omega) (by omega)] at hA4
   refine zkS (k:=k2) u43 zcf rfl (by omega) ?_
   rw [show o+k0*3+k2*3=o+(k0+k2)*3 by omega]
   refine zab zcf hA3 (Ext.refl _) fun v38 h38=>?_
   refine zbC (by unfold I64;omega) ?_
   rw [show ((k2:Int)-1)=((k2-1:Nat):Int) by omega]
   refine zkS (k:=k2-1) u43 zcf rfl (by omega) ?_
   rw [show o+k0*3+(k2-1)*3=o+(k0+k2-1)*3 by omega]
   refine zab zcf hA4 (Ext.refl _) fun v43 h43=>?_
   refine zkR h38 h43 ?_
   have hdt:=zi3 (l:=l) (k:=k0+k2) (by omega) hp
   refine br (fun hne2=>?_) (fun heq2=>?_)
   · refine zkS (k:=k2) u43 zcf rfl (by omega) ?_
     rw [show o+k0*3+k2*3=o+(k0+k2)*3 by omega]
     refine zab zcf hA3 (Ext.refl _) fun v50 h50=>?_
     obtain ⟨F5,cs5,hr5,hv5⟩:=h50
     have hF5:=Flat.flat hr5
     subst hF5
     refine zln (α:=DRace) u43 zcf hm4 (k:=k) (by omega) ⟨cs5,hr5,hv5⟩ fun w5 hc5 hm5=>?_
     refine zag (by omega) ?_
     refine zag (by omega) ?_
     refine ⟨mk2-1,by omega,k2+1,by omega,k+1,_,rfl,hc4.trans hc5,hm5,by simp [hl3],by omega,by omega,by omega,by omega,?_,fun j hj=>?_⟩
     · rw [show k0+(k2+1)=k0+k2+1 by omega,hdt,if_neg hne2,←htk]
       rw [List.take_succ_eq_append_getElem (by simp;omega),List.getElem_set_self,List.take_set_of_le (Nat.le_refl _)]
     rw [List.getElem?_set_ne (by omega)]
     exact hrest j (by omega)
   have heq2:=Decidable.not_not.1 heq2
   refine zag (by omega) ?_
   refine ⟨mk2-1,by omega,k2+1,by omega,k,cur,rfl,hc4,hm4,hl3,by omega,by omega,hk0,by omega,?_,hrest⟩
   rw [show k0+(k2+1)=k0+k2+1 by omega,hdt,if_pos heq2,htk]
 have hk2:k0+k2=l.length:=by omega
 rw [hk2,List.take_length] at htk
 refine zlS (α:=DRace) u43 zcf (by omega) h1 ?_
 refine znT (α:=DRace) u43 zrp hm3 hl3 (by omega) (by omega) h1 fun w5 hc5 hm5=>?_
 refine zqh (α:=DRace) u43 zcf (by omega) h1 ?_
 rw [htk] at hm5
 exact ⟨(hc3.trans hc5).toI hF,[b],hm5,hF⟩
theorem znU {w W:World} {v:Value} {l:List DRace} (h:Is W v l) (e:Ext W w) (hn:l.length≤1073741824) :
   CALL Tryz.prog 163 [v] w fun r w'=>Ext w w'∧Own w.heap.size w' r l:=by
 refine F163_call ?_
 unfold F163
 obtain ⟨a,cap,Fi,xs,rfl,h1,h2,h3,h4⟩:=zdc h
 refine zjj u43 ?_
 refine zbI (fun hnil=>?_) (fun _=>?_)
 · have:l=[]:=by
     rcases h4 with h4 | ⟨b,o,rfl,_⟩
     · exact h4
     simp at hnil
   subst this
   exact ⟨Ext.refl w,zip rfl⟩
 refine zba (α:=DRace) u43 zcf fun a5 w1 hx1 r5=>?_
 have hs1:=hx1.size
 refine zdN (α:=DRace) u43 zcf zpY r5 (Nat.le_refl _) h (e.trans hx1) (by rw [zao];simp;omega) (by simp;omega) fun v7 w2 hc2 r7=>?_
 rw [List.nil_append] at r7
 exact ⟨Ext.chgI hx1 hc2 (by omega),r7.own.own.mono (by omega)⟩
theorem zoZ {w:World} {lo hi:Nat} {v:Value} {l:List DRace} (h:OwnI lo hi w v l) :
   CALL Tryz.prog 166 [v] w fun r w'=>Ext w w'∧OwnI lo hi w' r l:=by
 obtain ⟨F,hM,hF⟩:=h
 refine F166_call ?_
 unfold F166
 refine zaf u43 hM.is ?_
 refine zaf u43 hM.is ?_
 by_cases hne:l=[]
 · subst hne
   obtain ⟨a,cap,Fi,xs,rfl,h1,h2,h3,h4⟩:=zdc hM.is
   refine zlT (α:=DRace) (k:=0) (j:=0) u43 zcf (Nat.le_refl _) h1 fun a' _=>⟨Ext.refl w,zjE a'⟩
 obtain ⟨b,o,cap,xs,rfl,rfl,h1,h2,hc,hr,hw⟩:=zdW hM hne
 refine zlT (α:=DRace) (k:=l.length) (j:=l.length) u43 zcf (Nat.le_refl _) h1 fun a' ha=>?_
 rw [ha (fun e=>hne (List.eq_nil_of_length_eq_zero e))]
 exact ⟨Ext.refl w,[b],zej (Nat.le_refl _) (by omega) hc hr hw,hF⟩
theorem zfX {lo hi:Nat} {w:World} {x:DTouch} (h1:I64 x.at_) (h2:I64 x.global) (h3:I64 x.held):OwnI lo hi w (.agg #[.int .i64 x.at_,.int .i64 x.global,.bool x.write,.int .i64 x.held]) x:=
 ⟨[],zm7 h1 h2 h3,by simp⟩
def zbT (c:DCode) (a:Int) (held:Int) (i:DIns):Nat→List DTouch
 | 0=>[]
 | k+1=>zbT c a held i k++(if c.globals.getD k ByteArray.empty∈zbH i.term then [⟨a,k,false,held⟩] else [])++(if i.op=1∧i.arg=k then [⟨a,k,true,held⟩] else [])
def zcy (c:DCode) (a:Int) (held:Int):List DTouch:=
 if (zaj c a.toNat).op=1∨(zaj c a.toNat).op=2 then zbT c a held (zaj c a.toNat) c.globals.length else []
theorem zek (c:DCode) (a held:Int) (i:DIns):∀ k,(zbT c a held i k).length≤2*k
 | 0=>by simp [zbT]
 | k+1=>by
   have:=zek c a held i k
   rw [zbT,List.length_append,List.length_append]
   split<;>split<;>simp<;>omega
theorem zkT (c:DCode) (a held:Int):(zcy c a held).length≤2*c.globals.length:=by
 unfold zcy
 split
 · exact zek _ _ _ _ _
 simp
def F114 (a0 a1 a2:Value) (w:World) (R:VW):Prop:=
 oP (Instr.box 32 a0) w fun x3 w=>
 rF 32 x3 4 w fun x12=>
 rL 30 x12 w fun x13=>
 rX 30 x13 a1 w fun x15=>
 rL 111 x15 w fun x16=>
 oP (Instr.alloc 111 true (.tuple #[])) w fun x7 w=>
 oS 111 x7 x16 w fun w=>
 JOIN [] (fun J4=>
 rF 111 x7 0 w fun x17=>
 rL 3 x17 w fun x18=>
 rB .neq 3 T0 U0 x18 (iV 1) w fun x19=>
 BR x19
 (rF 111 x7 0 w fun x21=>
 rL 3 x21 w fun x22=>
 rB .neq 3 T0 U0 x22 (iV 2) w fun x23=>
 BR x23
 (R (Value.slice none 0 0) w)
 (J4 [] w))
 (J4 [] w)) (fun u4 w=>
 rF 111 x7 2 w fun x25=>
 rL 109 x25 w fun x26=>
 cL 168 [x26] w fun x27 w=>
 rF 32 x3 0 w fun x28=>
 rL 22 x28 w fun x29=>
 rN 22 3 x29 w fun x30=>
 LOOPI [9,31] [(Value.slice none 0 0),(iV 0)] w fun u7 w next7=>
 rC (u7 31) x30 w fun x32=>
 BR x32
 (rX 22 x29 (u7 31) w fun x34=>
 rL 9 x34 w fun x35=>
 JOIN [9] (fun J11=>
 cL 169 [x27,x35] w fun x38 w=>
 BR x38
 (rD (Instr.build 134 #[(0,a1),(1,(u7 31)),(3,a2)]) w fun x43=>
 oP (Instr.buildSlice 130 1 #[(0,x43)]) w fun x44 w=>
 oP (Builtin.append_ #[130,130] 130 [(u7 9),x44].toArray) w fun x45 w=>
 J11 [x45] w)
 (J11 [(u7 9)] w)) (fun u11 w=>
 rF 111 x7 0 w fun x46=>
 rL 3 x46 w fun x47=>
 rB .eql 3 T0 U0 x47 (iV 1) w fun x48=>
 BR x48
 (rF 111 x7 1 w fun x50=>
 rL 3 x50 w fun x51=>
 rB .eql 3 T0 T0 x51 (u7 31) w fun x53=>
 BR x53
 (rD (Instr.build 134 #[(0,a1),(1,(u7 31)),(2,(Value.bool true)),(3,a2)]) w fun x59=>
 oP (Instr.buildSlice 130 1 #[(0,x59)]) w fun x60 w=>
 oP (Builtin.append_ #[130,130] 130 [(u11 9),x60].toArray) w fun x61 w=>
 rA (u7 31) (iV 1) w fun x62=>
 next7 [x61,x62] w)
 (rA (u7 31) (iV 1) w fun x62=>
 next7 [(u11 9),x62] w))
 (rA (u7 31) (iV 1) w fun x62=>
 next7 [(u11 9),x62] w)))
 (R (u7 9) w))
def cfg114:Cfg:=⟨extL,[(4,33423424,[]),(11,70300024701440,[9])],[(7,9223372034707295744,[9,31])],[],[],[],[]⟩
theorem F114_call {a0 a1 a2:Value} {w:World} {R:VW} (h:F114 a0 a1 a2 w R):cL 114 [a0,a1,a2] w R:=co (g:=cfg114) Tryz.func114 (by kernel_rfl) (by kernel_rfl) (by kernel_rfl) h
theorem zj1 {w:World} {v0:Value} {W0:World} {c:DCode} {a:Int} {held:Int}  (h0:Is W0 v0 c) (e0:Ext W0 w) (hc:CodeR c) (ha:0≤a) (ha2:a<c.ins.length) (hh:I64 held) :
   CALL Tryz.prog 114 [v0,.int .i64 a,.int .i64 held] w fun r w'=>Ext w w'∧(Own w.heap.size w' r (zcy c a held)):=by
 refine F114_call ?_
 unfold F114
 have hil:=hc.f.ins
 have hg6:c.globals.length≤6:=by have h1:=hc.1.1;simp only [Bool.and_eq_true,decide_eq_true_eq] at h1;omega
 have hs_e0:=e0.size
 refine zaB zbu rfl h0 e0 fun w1_ hx1_ hA3 hV3=>?_
 have hs_hx1_:=hx1_.size
 refine zaa zaD ?_
 refine zab zco (zai hA3) (Ext.refl w1_) fun v13 h13=>?_
 refine zcl u30 zaS h13 (by omega) (by omega) fun b15 o15 h15=>?_
 rw [zaG] at h15
 obtain ⟨i,hi⟩:∃ i,i=zaj c a.toNat:=⟨_,rfl⟩
 rw [←hi] at h15
 refine zab zaS h15 (Ext.refl w1_) fun v16 h16=>?_
 refine zce zfE rfl zaS rfl h16 (Ext.refl w1_) fun w2_ hx2_ hA7 hV7=>?_
 have hs_hx2_:=hx2_.size
 have hg7:=hV7.lt
 refine JOIN.mk (fun us w'=>us=[]∧Ext w2_ w'∧(i.op=1∨i.op=2)) ?_ ?_
 · refine zaa zaH ?_
   refine zac ty3 (zat hA7) (Ext.refl w2_) fun hI18=>?_
   refine zaz ?_
   refine br (fun c1=>?_) (fun c1=>?_)
   · refine zaa zaH ?_
     refine zac ty3 (zat hA7) (Ext.refl w2_) fun hI22=>?_
     refine zaz ?_
     refine br (fun c2=>?_) (fun c2=>?_)
     · refine ⟨(hx1_.trans hx2_),?_⟩
       unfold zcy
       rw [←hi,if_neg (by omega)]
       exact zip rfl
     refine ⟨by simp,Ext.refl w2_,?_⟩
     omega
   refine ⟨by simp,Ext.refl w2_,?_⟩
   omega
 rintro uj4 w3_ ⟨hu,hx3_,hop⟩
 have hs_hx3_:=hx3_.size
 simp only [List.map_cons,List.map_nil,List.cons.injEq,and_true] at hu
 clear hu
 refine zaa zbK ?_
 refine zab zbf (zbi hA7) hx3_ fun v26 h26=>?_
 refine (zdC h26 hx3_).mono ?_
 rintro r27 w4_ ⟨hx4_,h27⟩
 have hs_hx4_:=hx4_.size
 refine zaa zcG ?_
 refine zab zbN (za2 hA3) (hx2_.trans (hx3_.trans hx4_)) fun v29 h29=>?_
 have hln30:=zal h29
 refine zaf u22 h29 ?_
 refine zas (c.globals.length) (fun k us w'=>∃ v:Value,us=[v,.int .i64 (k:Int)]∧Ext w4_ w'∧(RowI w4_.heap.size w'.heap.size 134 w' v (zbT c a held i k))) (0) (by omega) ⟨_,rfl,Ext.refl w4_,zc0 _ _ _ _⟩ ?_
 rintro k m7 uu7 w5_ hk7 ⟨v9,hu,hx5_,hrow⟩
 have hs_hx5_:=hx5_.size
 obtain ⟨hu0,hu1⟩:=zb9 hu;clear hu
 try rw [hu0]
 try rw [hu1]
 try clear hu0 hu1
 have hrl:=zek c a held i k
 refine zah ?_
 refine br (fun c3=>?_) (fun c3=>?_)
 · refine zad u22 ty9 h29 (by omega) fun b34 o34 h34=>?_
   refine zaE ty9 h34 (hx2_.trans (hx3_.trans (hx4_.trans hx5_))) fun hS35=>?_
   refine JOIN.mk (fun us w'=>∃ v:Value,us=[v]∧Ext w4_ w'∧(RowI w4_.heap.size w'.heap.size 134 w' v (zbT c a held i k++(if c.globals.getD k ByteArray.empty∈zbH i.term then [⟨a,k,false,held⟩] else [])))) ?_ ?_
   · have hgk:c.globals[k]'(by omega)=c.globals.getD k ByteArray.empty:=by rw [List.getD_eq_getElem?_getD,List.getElem?_eq_getElem (by omega)];rfl
     refine (zbO h27 hx5_).mono ?_
     rintro _ w7_ ⟨hx7_,rfl⟩
     have hs_hx7_:=hx7_.size
     refine br (fun c4=>?_) (fun c4=>?_)
     · refine zcB (cells:=#[.int .i64 a,.int .i64 (k:Int),.bool false,.int .i64 held]) (by kernel_rfl) ?_
       have o43:OwnI w7_.heap.size w7_.heap.size w7_ (.agg #[.int .i64 a,.int .i64 (k:Int),.bool false,.int .i64 held]) (⟨a,k,false,held⟩:DTouch):=zfX (x:=⟨a,k,false,held⟩) (by show I64 a;unfold I64;omega) (by show I64 (k:Int);unfold I64;omega) hh
       refine zcb (α:=DTouch) zjl zcs zrh zl9 (by decide) (hrow.ext hx7_) (by omega) (o43.ext (Ext.refl w7_)) (by omega) (by omega) (by rw [zao];omega) (by omega) fun v45 w8_ hc8_ o45=>?_
       have hs_hc8_:=hc8_.size
       have o43_c8:=(o43.ext (Ext.refl w7_)).chg hc8_ (by omega)
       refine ⟨_,rfl,(Ext.chgI (hx5_.trans hx7_) hc8_ (by omega)),?_⟩
       rw [if_pos (by rw [←hgk];exact c4)];exact o45
     refine ⟨_,rfl,(hx5_.trans hx7_),?_⟩
     rw [if_neg (by rw [←hgk];exact c4),List.append_nil];exact (hrow.ext hx7_).mono (by omega) (by omega)
   rintro uj11 w6_ ⟨v11,hu,hx8_,hrow2⟩
   have hs_hx8_:=hx8_.size
   simp only [List.map_cons,List.map_nil,List.cons.injEq,and_true] at hu
   try rw [hu]
   try clear hu
   refine zaa zaH ?_
   refine zac ty3 (zat hA7) (hx3_.trans (hx4_.trans hx8_)) fun hI47=>?_
   refine zaq ?_
   refine br (fun c5=>?_) (fun c5=>?_)
   · refine zaa zaP ?_
     refine zac ty3 (zaw hA7) (hx3_.trans (hx4_.trans hx8_)) fun hI51=>?_
     refine zaq ?_
     refine br (fun c6=>?_) (fun c6=>?_)
     · refine zcB (cells:=#[.int .i64 a,.int .i64 (k:Int),.bool true,.int .i64 held]) (by kernel_rfl) ?_
       have o59:OwnI w6_.heap.size w6_.heap.size w6_ (.agg #[.int .i64 a,.int .i64 (k:Int),.bool true,.int .i64 held]) (⟨a,k,true,held⟩:DTouch):=zfX (x:=⟨a,k,true,held⟩) (by show I64 a;unfold I64;omega) (by show I64 (k:Int);unfold I64;omega) hh
       refine zcb (α:=DTouch) zjl zcs zrh zl9 (by decide) (hrow2.ext (Ext.refl w6_)) (by omega) (o59.ext (Ext.refl w6_)) (by omega) (by omega) (by rw [zao,List.length_append];split<;>simp<;>omega) (by rw [List.length_append];split<;>simp<;>omega) fun v61 w9_ hc9_ o61=>?_
       have hs_hc9_:=hc9_.size
       have o59_c9:=(o59.ext (Ext.refl w6_)).chg hc9_ (by omega)
       refine zag (by omega) ?_
       refine ⟨m7-1,by omega,k+1,by omega,_,rfl,(Ext.chgI hx8_ hc9_ (by omega)),?_⟩
       rw [zbT,if_pos (c:=i.op=1∧i.arg=k) ⟨by omega,by omega⟩];exact o61
     refine zag (by omega) ?_
     refine ⟨m7-1,by omega,k+1,by omega,_,rfl,hx8_,?_⟩
     rw [zbT,if_neg (c:=i.op=1∧i.arg=k) (fun h=>c6 h.2),List.append_nil];exact (hrow2.ext (Ext.refl w6_)).mono (by omega) (by omega)
   refine zag (by omega) ?_
   refine ⟨m7-1,by omega,k+1,by omega,_,rfl,hx8_,?_⟩
   rw [zbT,if_neg (c:=i.op=1∧i.arg=k) (fun h=>c5 h.1),List.append_nil];exact (hrow2.ext (Ext.refl w6_)).mono (by omega) (by omega)
 refine ⟨(hx1_.trans (hx2_.trans (hx3_.trans (hx4_.trans hx5_)))),?_⟩
 unfold zcy
 rw [←hi,if_pos hop,←show k=c.globals.length by omega]
 exact hrow.own.own.mono (by omega)
def F100 (a0 a1 a2:Value) (w:World) (R:VW):Prop:=
 oP (Instr.box 32 a0) w fun x3 w=>
 oP (Instr.buildSlice 130 0 #[]) w fun x11 w=>
 rF 32 x3 4 w fun x12=>
 rL 30 x12 w fun x13=>
 rX 30 x13 a1 w fun x15=>
 rL 111 x15 w fun x16=>
 oP (Instr.alloc 111 true (.tuple #[])) w fun x8 w=>
 oS 111 x8 x16 w fun w=>
 JOIN [] (fun J5=>
 rF 111 x8 0 w fun x17=>
 rL 3 x17 w fun x18=>
 rB .neq 3 T0 U0 x18 (iV 1) w fun x19=>
 BR x19
 (rF 111 x8 0 w fun x21=>
 rL 3 x21 w fun x22=>
 rB .neq 3 T0 U0 x22 (iV 2) w fun x23=>
 BR x23
 (R x11 w)
 (J5 [] w))
 (J5 [] w)) (fun u5 w=>
 rF 111 x8 2 w fun x26=>
 rL 109 x26 w fun x27=>
 cL 127 [x27] w fun x28 w=>
 LOOPI [7,10] [x11,(iV 0)] w fun u7 w next7=>
 rF 32 x3 0 w fun x30=>
 rL 22 x30 w fun x31=>
 rN 22 3 x31 w fun x32=>
 rC (u7 10) x32 w fun x33=>
 BR x33
 (JOIN [7] (fun J11=>
 rF 32 x3 0 w fun x37=>
 rL 22 x37 w fun x38=>
 rX 22 x38 (u7 10) w fun x40=>
 rL 9 x40 w fun x41=>
 cL 155 [x28,x41] w fun x42 w=>
 BR x42
 (rD (Instr.build 134 #[(0,a1),(1,(u7 10)),(3,a2)]) w fun x47=>
 oP (Instr.buildSlice 130 1 #[(0,x47)]) w fun x48 w=>
 oP (Builtin.append_ #[130,130] 130 [(u7 7),x48].toArray) w fun x49 w=>
 J11 [x49] w)
 (J11 [(u7 7)] w)) (fun u11 w=>
 rF 111 x8 0 w fun x50=>
 rL 3 x50 w fun x51=>
 rB .eql 3 T0 U0 x51 (iV 1) w fun x52=>
 BR x52
 (rF 111 x8 1 w fun x54=>
 rL 3 x54 w fun x55=>
 rB .eql 3 T0 T0 x55 (u7 10) w fun x57=>
 BR x57
 (rD (Instr.build 134 #[(0,a1),(1,(u7 10)),(2,(Value.bool true)),(3,a2)]) w fun x63=>
 oP (Instr.buildSlice 130 1 #[(0,x63)]) w fun x64 w=>
 oP (Builtin.append_ #[130,130] 130 [(u11 7),x64].toArray) w fun x65 w=>
 rA (u7 10) (iV 1) w fun x35=>
 next7 [x65,x35] w)
 (rA (u7 10) (iV 1) w fun x35=>
 next7 [(u11 7),x35] w))
 (rA (u7 10) (iV 1) w fun x35=>
 next7 [(u11 7),x35] w)))
 (R (u7 7) w))
def cfg100:Cfg:=⟨extL,[(5,66977856,[]),(11,1125831187366016,[7])],[(7,73786976294301336704,[7,10])],[],[],[],[]⟩
theorem F100_call {a0 a1 a2:Value} {w:World} {R:VW} (h:F100 a0 a1 a2 w R):cL 100 [a0,a1,a2] w R:=co (g:=cfg100) Tryz.func100 (by kernel_rfl) (by kernel_rfl) (by kernel_rfl) h
theorem zo0 {w:World} {v0:Value} {W0:World} {c:DCode} {a:Int} {held:Int}  (h0:Is W0 v0 c) (e0:Ext W0 w) (hc:CodeR c) (ha:0≤a) (ha2:a<c.ins.length) (hh:I64 held) :
   CALL Tryz.prog 100 [v0,.int .i64 a,.int .i64 held] w fun r w'=>Ext w w'∧(Own w.heap.size w' r (zcy c a held)):=by
 refine F100_call ?_
 unfold F100
 have hil:=hc.f.ins
 have hg6:c.globals.length≤6:=by have h1:=hc.1.1;simp only [Bool.and_eq_true,decide_eq_true_eq] at h1;omega
 have hs_e0:=e0.size
 refine zaB zbu rfl h0 e0 fun w1_ hx1_ hA3 hV3=>?_
 have hs_hx1_:=hx1_.size
 refine zba (α:=DTouch) zjl zcs fun v11 w2_ hx2_ o11=>?_
 have hs_hx2_:=hx2_.size
 refine zaa zaD ?_
 refine zab zco (zai hA3) hx2_ fun v13 h13=>?_
 refine zcl u30 zaS h13 (by omega) (by omega) fun b15 o15 h15=>?_
 rw [zaG] at h15
 obtain ⟨i,hi⟩:∃ i,i=zaj c a.toNat:=⟨_,rfl⟩
 rw [←hi] at h15
 refine zab zaS h15 hx2_ fun v16 h16=>?_
 refine zce zfE rfl zaS rfl h16 hx2_ fun w3_ hx3_ hA8 hV8=>?_
 have hs_hx3_:=hx3_.size
 have hg8:=hV8.lt
 refine JOIN.mk (fun us w'=>us=[]∧Ext w3_ w'∧(i.op=1∨i.op=2)) ?_ ?_
 · refine zaa zaH ?_
   refine zac ty3 (zat hA8) (Ext.refl w3_) fun hI18=>?_
   refine zaz ?_
   refine br (fun c1=>?_) (fun c1=>?_)
   · refine zaa zaH ?_
     refine zac ty3 (zat hA8) (Ext.refl w3_) fun hI22=>?_
     refine zaz ?_
     refine br (fun c2=>?_) (fun c2=>?_)
     · refine ⟨(hx1_.trans (hx2_.trans hx3_)),?_⟩
       unfold zcy
       rw [←hi,if_neg (by omega)]
       exact (o11.ext hx3_).own.own.mono (by omega)
     refine ⟨by simp,Ext.refl w3_,?_⟩
     omega
   refine ⟨by simp,Ext.refl w3_,?_⟩
   omega
 rintro uj5 w4_ ⟨hu,hx4_,hop⟩
 have hs_hx4_:=hx4_.size
 simp only [List.map_cons,List.map_nil,List.cons.injEq,and_true] at hu
 clear hu
 refine zaa zbK ?_
 refine zab zbf (zbi hA8) hx4_ fun v27 h27=>?_
 refine (zdD h27 hx4_).mono ?_
 rintro r28 w5_ ⟨hx5_,h28⟩
 have hs_hx5_:=hx5_.size
 refine zas (c.globals.length) (fun k us w'=>∃ v:Value,us=[v,.int .i64 (k:Int)]∧Ext w5_ w'∧(RowI w5_.heap.size w'.heap.size 134 w' v (zbT c a held i k))) (0) (by omega) ⟨_,rfl,Ext.refl w5_,zdM _ _ _ _ _⟩ ?_
 rintro k m7 uu7 w6_ hk7 ⟨v7,hu,hx6_,hrow⟩
 have hs_hx6_:=hx6_.size
 obtain ⟨hu0,hu1⟩:=zb9 hu;clear hu
 try rw [hu0]
 try rw [hu1]
 try clear hu0 hu1
 have hrl:=zek c a held i k
 refine zaa zcG ?_
 refine zab zbN (za2 hA3) (hx2_.trans (hx3_.trans (hx4_.trans (hx5_.trans hx6_)))) fun v31 h31=>?_
 have hln32:=zal h31
 refine zaf u22 h31 ?_
 refine zah ?_
 refine br (fun c3=>?_) (fun c3=>?_)
 · refine JOIN.mk (fun us w'=>∃ v:Value,us=[v]∧Ext w5_ w'∧(RowI w5_.heap.size w'.heap.size 134 w' v (zbT c a held i k++(if c.globals.getD k ByteArray.empty∈zbH i.term then [⟨a,k,false,held⟩] else [])))) ?_ ?_
   · refine zaa zcG ?_
     refine zab zbN (za2 hA3) (hx2_.trans (hx3_.trans (hx4_.trans (hx5_.trans hx6_)))) fun v38 h38=>?_
     refine zad u22 ty9 h38 (by omega) fun b40 o40 h40=>?_
     refine zaE ty9 h40 (hx2_.trans (hx3_.trans (hx4_.trans (hx5_.trans hx6_)))) fun hS41=>?_
     have hgk:c.globals[k]'(by omega)=c.globals.getD k ByteArray.empty:=by rw [List.getD_eq_getElem?_getD,List.getElem?_eq_getElem (by omega)];rfl
     refine (zjH h28 hx6_).mono ?_
     rintro _ w8_ ⟨hx8_,rfl⟩
     have hs_hx8_:=hx8_.size
     refine br (fun c4=>?_) (fun c4=>?_)
     · refine zcB (cells:=#[.int .i64 a,.int .i64 (k:Int),.bool false,.int .i64 held]) (by kernel_rfl) ?_
       have o47:OwnI w8_.heap.size w8_.heap.size w8_ (.agg #[.int .i64 a,.int .i64 (k:Int),.bool false,.int .i64 held]) (⟨a,k,false,held⟩:DTouch):=zfX (x:=⟨a,k,false,held⟩) (by show I64 a;unfold I64;omega) (by show I64 (k:Int);unfold I64;omega) hh
       refine zcb (α:=DTouch) zjl zcs zrh zl9 (by decide) (hrow.ext hx8_) (by omega) (o47.ext (Ext.refl w8_)) (by omega) (by omega) (by rw [zao];omega) (by omega) fun v49 w9_ hc9_ o49=>?_
       have hs_hc9_:=hc9_.size
       have o11_c9:=(o11.ext (hx3_.trans (hx4_.trans (hx5_.trans (hx6_.trans hx8_))))).chg hc9_ (by omega)
       have o47_c9:=(o47.ext (Ext.refl w8_)).chg hc9_ (by omega)
       refine ⟨_,rfl,(Ext.chgI (hx6_.trans hx8_) hc9_ (by omega)),?_⟩
       rw [if_pos (by rw [←hgk];exact c4)];exact o49
     refine ⟨_,rfl,(hx6_.trans hx8_),?_⟩
     rw [if_neg (by rw [←hgk];exact c4),List.append_nil];exact (hrow.ext hx8_).mono (by omega) (by omega)
   rintro uj11 w7_ ⟨v11,hu,hx9_,hrow2⟩
   have hs_hx9_:=hx9_.size
   simp only [List.map_cons,List.map_nil,List.cons.injEq,and_true] at hu
   try rw [hu]
   try clear hu
   refine zaa zaH ?_
   refine zac ty3 (zat hA8) (hx4_.trans (hx5_.trans hx9_)) fun hI51=>?_
   refine zaq ?_
   refine br (fun c5=>?_) (fun c5=>?_)
   · refine zaa zaP ?_
     refine zac ty3 (zaw hA8) (hx4_.trans (hx5_.trans hx9_)) fun hI55=>?_
     refine zaq ?_
     refine br (fun c6=>?_) (fun c6=>?_)
     · refine zcB (cells:=#[.int .i64 a,.int .i64 (k:Int),.bool true,.int .i64 held]) (by kernel_rfl) ?_
       have o63:OwnI w7_.heap.size w7_.heap.size w7_ (.agg #[.int .i64 a,.int .i64 (k:Int),.bool true,.int .i64 held]) (⟨a,k,true,held⟩:DTouch):=zfX (x:=⟨a,k,true,held⟩) (by show I64 a;unfold I64;omega) (by show I64 (k:Int);unfold I64;omega) hh
       refine zcb (α:=DTouch) zjl zcs zrh zl9 (by decide) (hrow2.ext (Ext.refl w7_)) (by omega) (o63.ext (Ext.refl w7_)) (by omega) (by omega) (by rw [zao,List.length_append];split<;>simp<;>omega) (by rw [List.length_append];split<;>simp<;>omega) fun v65 w10_ hc10_ o65=>?_
       have hs_hc10_:=hc10_.size
       have o11_c10:=(o11.ext (hx3_.trans (hx4_.trans (hx5_.trans hx9_)))).chg hc10_ (by omega)
       have o63_c10:=(o63.ext (Ext.refl w7_)).chg hc10_ (by omega)
       refine zag (by omega) ?_
       refine ⟨m7-1,by omega,k+1,by omega,_,rfl,(Ext.chgI hx9_ hc10_ (by omega)),?_⟩
       rw [zbT,if_pos (c:=i.op=1∧i.arg=k) ⟨by omega,by omega⟩];exact o65
     refine zag (by omega) ?_
     refine ⟨m7-1,by omega,k+1,by omega,_,rfl,hx9_,?_⟩
     rw [zbT,if_neg (c:=i.op=1∧i.arg=k) (fun h=>c6 h.2),List.append_nil];exact (hrow2.ext (Ext.refl w7_)).mono (by omega) (by omega)
   refine zag (by omega) ?_
   refine ⟨m7-1,by omega,k+1,by omega,_,rfl,hx9_,?_⟩
   rw [zbT,if_neg (c:=i.op=1∧i.arg=k) (fun h=>c5 h.1),List.append_nil];exact (hrow2.ext (Ext.refl w7_)).mono (by omega) (by omega)
 refine ⟨(hx1_.trans (hx2_.trans (hx3_.trans (hx4_.trans (hx5_.trans hx6_))))),?_⟩
 unfold zcy
 rw [←hi,if_pos hop,←show k=c.globals.length by omega]
 exact hrow.own.own.mono (by omega)
def F205 (a0:Value) (w:World) (R:VW):Prop:=
 rB .neq 3 T0 T0 a0 a0 w fun x5=>
 R x5 w
def cfg205:Cfg:=⟨extL,[],[],[],[],[],[]⟩
theorem F205_call {a0:Value} {w:World} {R:VW} (h:F205 a0 w R):cL 205 [a0] w R:=co (g:=cfg205) Tryz.func205 (by kernel_rfl) (by kernel_rfl) (by kernel_rfl) h
def F147 (a0 a1:Value) (w:World) (R:VW):Prop:=
 cL 205 [a0] w fun x8 w=>
 cL 205 [a1] w fun x10 w=>
 BR x8
 (BR x10
 (R (iV 0) w)
 (R (iV (-1)) w))
 (BR x10
 (R (iV 1) w)
 (rC a0 a1 w fun x16=>
 BR x16
 (R (iV (-1)) w)
 (rB .gtr 3 T0 T0 a0 a1 w fun x19=>
 BR x19
 (R (iV 1) w)
 (R (iV 0) w))))
def cfg147:Cfg:=⟨extL,[],[],[],[],[],[]⟩
theorem F147_call {a0 a1:Value} {w:World} {R:VW} (h:F147 a0 a1 w R):cL 147 [a0,a1] w R:=co (g:=cfg147) Tryz.func147 (by kernel_rfl) (by kernel_rfl) (by kernel_rfl) h
def F90 (a0 a1:Value) (w:World) (R:VW):Prop:=
 rN 23 3 a0 w fun x10=>
 LOOPI [11] [(iV 0)] w fun u2 w next2=>
 rC (u2 11) x10 w fun x12=>
 BR x12
 (rX 23 a0 (u2 11) w fun x14=>
 rL 3 x14 w fun x15=>
 rN 23 3 a1 w fun x18=>
 rB .geq 3 T0 T0 (u2 11) x18 w fun x19=>
 BR x19
 (R (iV 1) w)
 (rX 23 a1 (u2 11) w fun x22=>
 rL 3 x22 w fun x23=>
 cL 147 [x15,x23] w fun x26 w=>
 rB .neq 3 T0 U0 x26 (iV 0) w fun x28=>
 BR x28
 (R x26 w)
 (rA (u2 11) (iV 1) w fun x30=>
 next2 [x30] w)))
 (rN 23 3 a0 w fun x32=>
 rN 23 3 a1 w fun x34=>
 rC x32 x34 w fun x35=>
 BR x35
 (R (iV (-1)) w)
 (R (iV 0) w))
def cfg90:Cfg:=⟨extL,[],[(2,2147482096,[11])],[],[],[],[]⟩
theorem F90_call {a0 a1:Value} {w:World} {R:VW} (h:F90 a0 a1 w R):cL 90 [a0,a1] w R:=co (g:=cfg90) Tryz.func90 (by kernel_rfl) (by kernel_rfl) (by kernel_rfl) h
def F165 (a0 a1:Value) (w:World) (R:VW):Prop:=
 oP (Instr.box 79 a0) w fun x2 w=>
 oP (Instr.box 79 a1) w fun x3 w=>
 rF 79 x2 0 w fun x5=>
 rL 3 x5 w fun x6=>
 rF 79 x2 1 w fun x7=>
 rL 3 x7 w fun x8=>
 rF 79 x2 2 w fun x9=>
 rL 3 x9 w fun x10=>
 oP (Instr.buildSlice 23 3 #[(0,x6),(1,x8),(2,x10)]) w fun x11 w=>
 rF 79 x3 0 w fun x12=>
 rL 3 x12 w fun x13=>
 rF 79 x3 1 w fun x14=>
 rL 3 x14 w fun x15=>
 rF 79 x3 2 w fun x16=>
 rL 3 x16 w fun x17=>
 oP (Instr.buildSlice 23 3 #[(0,x13),(1,x15),(2,x17)]) w fun x18 w=>
 cL 90 [x11,x18] w fun x19 w=>
 R x19 w
def cfg165:Cfg:=⟨extL,[],[],[],[],[],[]⟩
theorem F165_call {a0 a1:Value} {w:World} {R:VW} (h:F165 a0 a1 w R):cL 165 [a0,a1] w R:=co (g:=cfg165) Tryz.func165 (by kernel_rfl) (by kernel_rfl) (by kernel_rfl) h
theorem zrC:zcQ Tryz.prog 3=some [.int .i64 0]:=by kernel_rfl
def zlU (x y:Int):Int:=if x<y then -1 else if y<x then 1 else 0
def zo1:List Int→List Int→Int
 | [],[]=>0
 | [],_ :: _=>-1
 | _ :: _,[]=>1
 | x :: l,y :: m=>if zlU x y≠0 then zlU x y else zo1 l m
theorem isNaN_ok {w:World} {x:Int}:CALL Tryz.prog 205 [.int .i64 x] w fun r w'=>w'=w∧r=.bool false:=by
 refine F205_call ?_
 unfold F205
 exact zaz ⟨rfl,by simp⟩
theorem compareI_ok {w:World} {x y:Int}:CALL Tryz.prog 147 [.int .i64 x,.int .i64 y] w fun r w'=>w'=w∧r=.int .i64 (zlU x y):=by
 refine F147_call ?_
 unfold F147
 refine isNaN_ok.mono ?_
 rintro _ _ ⟨rfl,rfl⟩
 refine isNaN_ok.mono ?_
 rintro _ _ ⟨rfl,rfl⟩
 refine zbI (fun h=>by cases h) (fun _=>?_)
 refine zbI (fun h=>by cases h) (fun _=>?_)
 refine zah ?_
 refine br (fun h=>⟨rfl,by rw [zlU,if_pos h]⟩) (fun h=>?_)
 refine zdI ?_
 refine br (fun h2=>⟨rfl,by rw [zlU,if_neg h,if_pos h2]⟩) (fun h2=>⟨rfl,by rw [zlU,if_neg h,if_neg h2]⟩)
theorem zi4 {P:Program} {w:World} {K:Value→Prop} {t ty e:TypeId} {a:Option Addr} {n c:Nat} (ht:P.underlying t=some (.slice e)) (k:K (.int .i64 (n:Int))) :
   RD P (Builtin.len_ #[t] ty [Value.slice a n c].toArray) w K:=za4 (fun w' _=>by simp [Builtin.len_,run_underlying ht];rfl) k
def vI (l:List Int):List Value:=l.map fun x=>.int .i64 x
theorem zpL {l:List Int} {k:Nat} (h:k<l.length):(vI l)[k]?=some (.int .i64 l[k]):=by simp [vI,h]
theorem znV {l m:List Int} {k:Nat} (h1:k<l.length) (h2:k<m.length):zo1 (l.drop k) (m.drop k)=if zlU l[k] m[k]≠0 then zlU l[k] m[k] else zo1 (l.drop (k+1)) (m.drop (k+1)):=by
 rw [List.drop_eq_getElem_cons h1,List.drop_eq_getElem_cons h2,zo1]
theorem zkU {w:World} {g1 g2 e1 e2 c1 c2:Nat} {l m:List Int} (h1:Blk g1 e1 w (vI l)) (h2:Blk g2 e2 w (vI m)) (hl:l.length≤1000) (hm:m.length≤1000) :
   CALL Tryz.prog 90 [.slice (some ⟨g1,0,none⟩) l.length c1,.slice (some ⟨g2,0,none⟩) m.length c2] w fun r w'=>w'=w∧r=.int .i64 (zo1 l m):=by
 refine F90_call ?_
 unfold F90
 refine zi4 u23 ?_
 refine zas l.length (fun k us w'=>us=[.int .i64 (k:Int)]∧w'=w∧k≤m.length∧zo1 l m=zo1 (l.drop k) (m.drop k)) 0 (Nat.zero_le _) ⟨rfl,rfl,Nat.zero_le _,rfl⟩ ?_
 rintro k mk u w2 hkm ⟨hu,rfl,hkl,hc⟩
 simp only [List.map_cons,List.map_nil,List.cons.injEq,and_true] at hu
 rw [hu]
 refine zah ?_
 refine br (fun hlt=>?_) (fun hge=>?_)
 · have hk1:k<l.length:=by omega
   refine zdd u23 ty3 hk1 ?_
   rw [Nat.mul_one]
   refine zaC ty3 h1 (zpL hk1) ?_
   refine zi4 u23 ?_
   refine zci ?_
   refine br (fun hge=>?_) (fun hlt2=>?_)
   · refine ⟨rfl,?_⟩
     have e0:m.drop k=[]:=List.drop_eq_nil_of_le (by omega)
     rw [hc,List.drop_eq_getElem_cons hk1,e0];rfl
   have hk2:k<m.length:=by omega
   refine zdd u23 ty3 hk2 ?_
   rw [Nat.mul_one]
   refine zaC ty3 h2 (zpL hk2) ?_
   refine compareI_ok.mono ?_
   rintro _ _ ⟨rfl,rfl⟩
   have hst:=znV hk1 hk2
   refine zaz ?_
   refine br (fun hne=>?_) (fun heq=>?_)
   · exact ⟨rfl,by rw [hc,hst,if_pos hne]⟩
   refine zag (by omega) ?_
   exact ⟨mk-1,by omega,k+1,by omega,rfl,rfl,by omega,by rw [hc,hst,if_neg heq]⟩
 have hk:k=l.length:=by omega
 subst hk
 refine zi4 u23 ?_
 refine zi4 u23 ?_
 refine zah ?_
 rw [List.drop_length] at hc
 refine br (fun hlt2=>⟨rfl,?_⟩) (fun hge2=>⟨rfl,?_⟩)
 · rw [hc,List.drop_eq_getElem_cons (by omega)];rfl
 rw [hc,List.drop_eq_nil_of_le (by omega)];rfl
section
variable {P:Program} {w:World} {K:Value→World→Prop}
theorem znW {t:TypeId} {cs:Array Value} (k:K (.pointer (some ⟨w.heap.size,0,none⟩)) (w.alloc (.cells cs t))):OP P (Instr.box t (.agg cs)) w K:=
 ⟨_,w.alloc (.cells cs t),by simp [Instr.box,newVar,newRow,Value.cells],k⟩
theorem zh6 {t e:TypeId} {by_:Nat} {x y z:Int} (ht:P.underlying t=some (.slice e)) (he:tyI P e=some (1,by_,false)) (hz:zcQ P e=some [.int .i64 0])
   (k:K (.slice (some ⟨w.heap.size,0,none⟩) 3 3) (w.alloc (.cells (vI [x,y,z]).toArray e))):OP P (Instr.buildSlice t 3 #[(0,.int .i64 x),(1,.int .i64 y),(2,.int .i64 z)]) w K:=by
 unfold zcQ at hz
 cases hi:P.info? e with
 | none=>simp [hi] at hz
 | some i=>
   simp only [hi] at hz
   obtain ⟨v,hv,hvc⟩:=Option.map_eq_some_iff.1 hz
   refine ⟨_,w.alloc (.cells (vI [x,y,z]).toArray e),?_,k⟩
   have hvc':v.cells=#[.int .i64 0]:=Array.ext' (by simpa using hvc)
   have e1:∀ n:Int,(Value.int .i64 n).cells=#[.int .i64 n]:=fun _=>rfl
   simp only [Instr.buildSlice,Sem.run_bind,run_underlying ht,Result.andThen_ok,zaO he]
   have e2:Array.range 3=#[0,1,2]:=by decide
   simp [zeroValue,typeInfo,hi,hv,newRow,Instr.fill,hvc',vI,e1,e2]
end
def i3 (a b c:Int):Array Value:=#[.int .i64 a,.int .i64 b,.int .i64 c]
def zkV (w w':World):Prop:=∃ q os,w'=Go.Sort.grow (w.drewN q) os
theorem zj2 {w:World} (o1 o2 o3 o4:Obj):zkV w ((((w.alloc o1).alloc o2).alloc o3).alloc o4):=
 ⟨0,#[o1]++#[o2]++#[o3]++#[o4],by
   rw [Go.Sort.alloc_eq_grow,Go.Sort.alloc_eq_grow,Go.Sort.alloc_eq_grow,Go.Sort.alloc_eq_grow,Go.Sort.grow_grow,Go.Sort.grow_grow,Go.Sort.grow_grow];rfl⟩
def zhB (x:DRace):List Int:=[x.g,x.a,x.b]
def zo2 (x y:DRace):Int:=zo1 (zhB x) (zhB y)
theorem zhC {w:World} {x y:DRace}:CALL Tryz.prog 165 [.agg (i3 x.g x.a x.b),.agg (i3 y.g y.a y.b)] w fun r w'=>r=.int .i64 (zo2 x y)∧zkV w w':=by
 refine F165_call ?_
 unfold F165
 refine znW ?_
 have hB1:Blk w.heap.size 79 (w.alloc (.cells (i3 x.g x.a x.b) 79)) (vI (zhB x)):=heap_alloc_new w _
 refine znW ?_
 generalize hw1:w.alloc (.cells (i3 x.g x.a x.b) 79)=w1 at *
 have hB2:Blk w1.heap.size 79 (w1.alloc (.cells (i3 y.g y.a y.b) 79)) (vI (zhB y)):=heap_alloc_new w1 _
 have hx2:=zaX w1 (.cells (i3 y.g y.a y.b) 79)
 generalize hw2:w1.alloc (.cells (i3 y.g y.a y.b) 79)=w2 at *
 have hB12:=hB1.ext hx2
 refine zaa zen ?_
 refine zaC ty3 hB12 rfl ?_
 refine zaa ze7 ?_
 refine zaC ty3 hB12 rfl ?_
 refine zaa zgs ?_
 refine zaC ty3 hB12 rfl ?_
 refine zh6 u23 ty3 zrC ?_
 have hx3:=zaX w2 (.cells (vI [x.g,x.a,x.b]).toArray 3)
 have hB3:Blk w2.heap.size 3 (w2.alloc (.cells (vI [x.g,x.a,x.b]).toArray 3)) (vI (zhB x)):=heap_alloc_new w2 _
 generalize hw3:w2.alloc (.cells (vI [x.g,x.a,x.b]).toArray 3)=w3 at *
 have hB23:=hB2.ext hx3
 refine zaa zen ?_
 refine zaC ty3 hB23 rfl ?_
 refine zaa ze7 ?_
 refine zaC ty3 hB23 rfl ?_
 refine zaa zgs ?_
 refine zaC ty3 hB23 rfl ?_
 refine zh6 u23 ty3 zrC ?_
 have hx4:=zaX w3 (.cells (vI [y.g,y.a,y.b]).toArray 3)
 have hB4:Blk w3.heap.size 3 (w3.alloc (.cells (vI [y.g,y.a,y.b]).toArray 3)) (vI (zhB y)):=heap_alloc_new w3 _
 have hg:zkV w (w3.alloc (.cells (vI [y.g,y.a,y.b]).toArray 3)):=by rw [←hw3,←hw2,←hw1];exact zj2 _ _ _ _
 refine (zkU (l:=zhB x) (m:=zhB y) (hB3.ext hx4) hB4 (by simp [zhB]) (by simp [zhB])).mono ?_
 rintro _ _ ⟨rfl,rfl⟩
 exact ⟨rfl,hg⟩
def ltR (x y:DRace):Prop:=x.g<y.g∨(x.g=y.g∧(x.a<y.a∨(x.a=y.a∧x.b<y.b)))
theorem zkW {x y:Int} (h:x<y):zlU x y=-1:=by rw [zlU,if_pos h]
theorem zkX {x y:Int} (h:y<x):zlU x y=1:=by rw [zlU,if_neg (by omega),if_pos h]
theorem zkY {x y:Int} (h:x=y):zlU x y=0:=by rw [zlU,if_neg (by omega),if_neg (by omega)]
theorem zqi {x y:DRace}:zo2 x y<0↔ltR x y:=by
 unfold zo2 zhB ltR
 simp only [zo1]
 rcases Int.lt_trichotomy x.g y.g with h | h | h
 · rw [zkW h];simp;omega
 · rw [zkY h]
   rcases Int.lt_trichotomy x.a y.a with h2 | h2 | h2
   · rw [zkW h2];simp;omega
   · rw [zkY h2]
     rcases Int.lt_trichotomy x.b y.b with h3 | h3 | h3
     · rw [zkW h3];simp;omega
     · rw [zkY h3];simp;omega
     rw [zkX h3];simp;omega
   rw [zkX h2];simp;omega
 rw [zkX h];simp;omega
def F110 (a0 a1:Value) (w:World) (R:VW):Prop:=
 oP (Instr.box 134 a0) w fun x2 w=>
 oP (Instr.box 134 a1) w fun x3 w=>
 oP (Instr.alloc 79 true (.tuple #[])) w fun x4 w=>
 rF 134 x2 1 w fun x5=>
 rL 3 x5 w fun x6=>
 rF 134 x2 0 w fun x7=>
 rL 3 x7 w fun x8=>
 rF 134 x3 0 w fun x9=>
 rL 3 x9 w fun x10=>
 rD (Builtin.min_ #[3,3] 3 [x8,x10].toArray) w fun x11=>
 rF 134 x2 0 w fun x12=>
 rL 3 x12 w fun x13=>
 rF 134 x3 0 w fun x14=>
 rL 3 x14 w fun x15=>
 rD (Builtin.max_ #[3,3] 3 [x13,x15].toArray) w fun x16=>
 rD (Instr.build 79 #[(0,x6),(1,x11),(2,x16)]) w fun x17=>
 oS 79 x4 x17 w fun w=>
 rD (zeu 79 x4) w fun r4=>R r4 w
def cfg110:Cfg:=⟨extL,[],[],[],[],[],[]⟩
theorem F110_call {a0 a1:Value} {w:World} {R:VW} (h:F110 a0 a1 w R):cL 110 [a0,a1] w R:=co (g:=cfg110) Tryz.func110 (by kernel_rfl) (by kernel_rfl) (by kernel_rfl) h
def F162 (a0:Value) (w:World) (R:VW):Prop:=
 rB .geq 3 T0 U0 a0 (iV 0) w fun x4=>
 BR x4
 (rB .leq 3 T0 U0 a0 (iV 63) w fun x7=>
 R x7 w)
 (R (Value.bool false) w)
def cfg162:Cfg:=⟨extL,[],[],[],[],[],[]⟩
theorem F162_call {a0:Value} {w:World} {R:VW} (h:F162 a0 w R):cL 162 [a0] w R:=co (g:=cfg162) Tryz.func162 (by kernel_rfl) (by kernel_rfl) (by kernel_rfl) h
theorem zlV {w:World} {n:Int}    :
   CALL Tryz.prog 162 [.int .i64 n] w fun r w'=>Ext w w'∧(r=.bool (decide (0≤n∧n≤63))):=by
 refine F162_call ?_
 unfold F162
 refine zci ?_
 refine br (fun c1=>?_) (fun c1=>?_)
 · refine zcU ?_
   refine ⟨Ext.refl w,?_⟩
   simp [c1]
 refine ⟨Ext.refl w,?_⟩
 simp [c1]
def zcY (a b:DTouch):Prop:=a.global=b.global∧(a.write=true∨b.write=true)∧(0≤a.held∧a.held≤63)∧(0≤b.held∧b.held≤63)∧a.held.toNat &&& b.held.toNat=0
instance (a b:DTouch):Decidable (zcY a b):=by unfold zcY;infer_instance
def F108 (a0 a1:Value) (w:World) (R:VW):Prop:=
 oP (Instr.box 134 a0) w fun x2 w=>
 oP (Instr.box 134 a1) w fun x3 w=>
 JOIN [] (fun J3=>
 rF 134 x2 1 w fun x5=>
 rL 3 x5 w fun x6=>
 rF 134 x3 1 w fun x7=>
 rL 3 x7 w fun x8=>
 rB .neq 3 T0 T0 x6 x8 w fun x9=>
 BR x9
 (R (Value.bool false) w)
 (rF 134 x2 2 w fun x11=>
 rL 4 x11 w fun x12=>
 rD (Op.unary .not x12) w fun x13=>
 GBR x13
 (rF 134 x3 2 w fun x15=>
 rL 4 x15 w fun x16=>
 rD (Op.unary .not x16) w fun x17=>
 BR x17
 (R (Value.bool false) w)
 (J3 [] w))
 (J3 [] w)
 (BR undef
 (BR undef
 (R (Value.bool false) w)
 (J3 [] w))
 (J3 [] w)))) (fun u3 w=>
 rF 134 x2 3 w fun x20=>
 rL 3 x20 w fun x21=>
 cL 162 [x21] w fun x22 w=>
 BR x22
 (rF 134 x3 3 w fun x24=>
 rL 3 x24 w fun x25=>
 cL 162 [x25] w fun x26 w=>
 BR x26
 (rF 134 x2 3 w fun x29=>
 rL 3 x29 w fun x30=>
 rF 134 x3 3 w fun x31=>
 rL 3 x31 w fun x32=>
 rB .and 3 T0 T0 x30 x32 w fun x33=>
 rB .eql 3 T0 U0 x33 (iV 0) w fun x34=>
 R x34 w)
 (R (Value.bool false) w))
 (R (Value.bool false) w))
def cfg108:Cfg:=⟨extL,[(3,1048560,[])],[],[],[],[],[]⟩
theorem F108_call {a0 a1:Value} {w:World} {R:VW} (h:F108 a0 a1 w R):cL 108 [a0,a1] w R:=co (g:=cfg108) Tryz.func108 (by kernel_rfl) (by kernel_rfl) (by kernel_rfl) h
theorem zo3 {w:World} {v0:Value} {W0:World} {a:DTouch} {v1:Value} {W1:World} {b:DTouch}  (h0:Is W0 v0 a) (e0:Ext W0 w) (h1:Is W1 v1 b) (e1:Ext W1 w)  :
   CALL Tryz.prog 108 [v0,v1] w fun r w'=>Ext w w'∧(r=.bool (decide (zcY a b))):=by
 refine F108_call ?_
 unfold F108
 refine zaB zcs rfl h0 e0 fun w1_ hx1_ hA2 hV2=>?_
 refine zaB zcs rfl h1 (e1.trans hx1_) fun w2_ hx2_ hA3 hV3=>?_
 refine JOIN.mk (fun us w'=>us=[]∧Ext w2_ w'∧(a.global=b.global∧(a.write=true∨b.write=true))) ?_ ?_
 · refine zaa zf4 ?_
   refine zac ty3 (zcu hA2) hx2_ fun hI6=>?_
   refine zaa zf4 ?_
   refine zac ty3 (zcu hA3) (Ext.refl w2_) fun hI8=>?_
   refine zaz ?_
   refine br (fun c1=>?_) (fun c1=>?_)
   · refine ⟨(hx1_.trans hx2_),?_⟩
     have:¬zcY a b:=fun h=>c1 h.1
     simp only [this,decide_false]
   refine zaa zit ?_
   refine zax ty4 (zd6 hA2) hx2_ ?_
   refine za0 ?_
   refine zqI (fun c2=>?_) (fun c2=>?_)
   · refine zaa zit ?_
     refine zax ty4 (zd6 hA3) (Ext.refl w2_) ?_
     refine za0 ?_
     refine zbI (fun c3=>?_) (fun c3=>?_)
     · refine ⟨(hx1_.trans hx2_),?_⟩
       have:¬zcY a b:=fun h=>by rcases h.2.1 with h | h<;>simp_all
       simp only [this,decide_false]
     refine ⟨by simp,Ext.refl w2_,?_⟩
     exact ⟨by omega,.inr (by simpa using c3)⟩
   refine ⟨by simp,Ext.refl w2_,?_⟩
   exact ⟨by omega,.inl (by simpa using c2)⟩
 rintro uj3 w3_ ⟨hu,hx3_,hgl,hwr⟩
 simp only [List.map_cons,List.map_nil,List.cons.injEq,and_true] at hu
 clear hu
 refine zaa zf5 ?_
 refine zac ty3 (zcv hA2) (hx2_.trans hx3_) fun hI21=>?_
 refine (zlV ).mono ?_
 rintro _ w4_ ⟨hx4_,rfl⟩
 refine br (fun c4=>?_) (fun c4=>?_)
 · refine zaa zf5 ?_
   refine zac ty3 (zcv hA3) (hx3_.trans hx4_) fun hI25=>?_
   refine (zlV ).mono ?_
   rintro _ w5_ ⟨hx5_,rfl⟩
   refine br (fun c5=>?_) (fun c5=>?_)
   · refine zaa zf5 ?_
     refine zac ty3 (zcv hA2) (hx2_.trans (hx3_.trans (hx4_.trans hx5_))) fun hI30=>?_
     refine zaa zf5 ?_
     refine zac ty3 (zcv hA3) (hx3_.trans (hx4_.trans hx5_)) fun hI32=>?_
     obtain ⟨m,hm⟩:=Int.eq_ofNat_of_zero_le c4.1
     obtain ⟨n,hn⟩:=Int.eq_ofNat_of_zero_le c5.1
     rw [hm,hn]
     refine zdl (by omega) (by omega) ?_
     refine zaq ?_
     refine ⟨(hx1_.trans (hx2_.trans (hx3_.trans (hx4_.trans hx5_)))),?_⟩
     have:zcY a b↔m &&& n=0:=by
       have e1:a.held.toNat=m:=by omega
       have e2:b.held.toNat=n:=by omega
       unfold zcY
       rw [e1,e2]
       exact ⟨fun h=>h.2.2.2.2,fun h=>⟨hgl,hwr,c4,c5,h⟩⟩
     congr 1
     rw [decide_eq_decide,this]
     omega
   refine ⟨(hx1_.trans (hx2_.trans (hx3_.trans (hx4_.trans hx5_)))),?_⟩
   have:¬zcY a b:=fun h=>c5 h.2.2.2.1
   simp only [this,decide_false]
 refine ⟨(hx1_.trans (hx2_.trans (hx3_.trans hx4_))),?_⟩
 have:¬zcY a b:=fun h=>c4 h.2.2.1
 simp only [this,decide_false]
def zdX (a b:DTouch):DRace:=⟨a.global,min a.at_ b.at_,max a.at_ b.at_⟩
theorem znX {w W0 W1:World} {v0 v1:Value} {a b:DTouch} (h0:Is W0 v0 a) (e0:Ext W0 w) (h1:Is W1 v1 b) (e1:Ext W1 w) :
   CALL Tryz.prog 110 [v0,v1] w fun r w'=>Ext w w'∧∀ lo hi,OwnI lo hi w' r (zdX a b):=by
 refine F110_call ?_
 unfold F110
 refine zbq h0 e0 fun w1 hx1 hA=>?_
 refine zbq h1 (e1.trans hx1) fun w2 hx2 hB=>?_
 refine zfg (α:=DRace) zrp fun w3 hx3 hv=>?_
 have hs1:=hx1.size
 have hs2:=hx2.size
 have hs3:=hx3.size
 have hx23:=hx2.trans hx3
 refine zaa zf4 ?_
 refine zac ty3 (zcu hA) hx23 fun hI6=>?_
 refine zaa zdB ?_
 refine zac ty3 (zbA hA) hx23 fun hI8=>?_
 refine zaa zdB ?_
 refine zac ty3 (zbA hB) hx3 fun hI10=>?_
 refine zqY ?_
 refine zaa zdB ?_
 refine zac ty3 (zbA hA) hx23 fun _=>?_
 refine zaa zdB ?_
 refine zac ty3 (zbA hB) hx3 fun _=>?_
 refine zqX ?_
 have hm:∀ (w:World) lo hi,OwnI lo hi w (.agg #[.int .i64 a.global,.int .i64 (min a.at_ b.at_),.int .i64 (max a.at_ b.at_)]) (zdX a b):=fun w lo hi=>⟨[],zmZ (x:=zdX a b) hI6 (by unfold I64 zdX at *;simp only;omega) (by unfold I64 zdX at *;simp only;omega),by simp⟩
 refine zcB (cells:=#[.int .i64 a.global,.int .i64 (min a.at_ b.at_),.int .i64 (max a.at_ b.at_)]) (by kernel_rfl) ?_
 have hg:=hv.lt
 refine zgF (lo:=w3.heap.size) (hi:=w3.heap.size) zcf hv (hm w3 _ _) (by omega) fun w4 hc4 hv4=>?_
 have hs4:=hc4.size
 refine zgE zcf hv4 (Ext.refl _) fun r hr=>?_
 refine ⟨Ext.chgI (hx1.trans hx23) hc4 (by omega),fun lo hi=>?_⟩
 obtain ⟨F,hM,_⟩:=hr
 obtain ⟨cs,h,_⟩:=hM.own
 have hF:=Flat.flat h
 subst hF
 exact ⟨[],hM,by simp⟩
instance (x y:DRace):Decidable (ltR x y):=by unfold ltR;infer_instance
def F154 (a0 a1:Value) (w:World) (R:VW):Prop:=
 oP (Instr.box 79 a0) w fun x2 w=>
 oP (Instr.box 79 a1) w fun x3 w=>
 rF 79 x2 0 w fun x5=>
 rL 3 x5 w fun x6=>
 rF 79 x3 0 w fun x7=>
 rL 3 x7 w fun x8=>
 rB .neq 3 T0 T0 x6 x8 w fun x9=>
 BR x9
 (rF 79 x2 0 w fun x10=>
 rL 3 x10 w fun x11=>
 rF 79 x3 0 w fun x12=>
 rL 3 x12 w fun x13=>
 rC x11 x13 w fun x14=>
 R x14 w)
 (rF 79 x2 1 w fun x15=>
 rL 3 x15 w fun x16=>
 rF 79 x3 1 w fun x17=>
 rL 3 x17 w fun x18=>
 rB .neq 3 T0 T0 x16 x18 w fun x19=>
 BR x19
 (rF 79 x2 1 w fun x20=>
 rL 3 x20 w fun x21=>
 rF 79 x3 1 w fun x22=>
 rL 3 x22 w fun x23=>
 rC x21 x23 w fun x24=>
 R x24 w)
 (rF 79 x2 2 w fun x25=>
 rL 3 x25 w fun x26=>
 rF 79 x3 2 w fun x27=>
 rL 3 x27 w fun x28=>
 rC x26 x28 w fun x29=>
 R x29 w))
def cfg154:Cfg:=⟨extL,[],[],[],[],[],[]⟩
theorem F154_call {a0 a1:Value} {w:World} {R:VW} (h:F154 a0 a1 w R):cL 154 [a0,a1] w R:=co (g:=cfg154) Tryz.func154 (by kernel_rfl) (by kernel_rfl) (by kernel_rfl) h
theorem zkZ {w:World} {v0:Value} {W0:World} {x:DRace} {v1:Value} {W1:World} {y:DRace}  (h0:Is W0 v0 x) (e0:Ext W0 w) (h1:Is W1 v1 y) (e1:Ext W1 w)  :
   CALL Tryz.prog 154 [v0,v1] w fun r w'=>Ext w w'∧(r=.bool (decide (ltR x y))):=by
 refine F154_call ?_
 unfold F154
 refine zaB zcf rfl h0 e0 fun w1_ hx1_ hA2 hV2=>?_
 refine zaB zcf rfl h1 (e1.trans hx1_) fun w2_ hx2_ hA3 hV3=>?_
 refine zaa zen ?_
 refine zac ty3 (zb1 hA2) hx2_ fun hI6=>?_
 refine zaa zen ?_
 refine zac ty3 (zb1 hA3) (Ext.refl w2_) fun hI8=>?_
 refine zaz ?_
 refine br (fun c1=>?_) (fun c1=>?_)
 · refine zaa zen ?_
   refine zac ty3 (zb1 hA2) hx2_ fun hI11=>?_
   refine zaa zen ?_
   refine zac ty3 (zb1 hA3) (Ext.refl w2_) fun hI13=>?_
   refine zah ?_
   refine ⟨(hx1_.trans hx2_),?_⟩
   congr 1
   rw [decide_eq_decide]
   unfold ltR
   omega
 refine zaa ze7 ?_
 refine zac ty3 (zct hA2) hx2_ fun hI16=>?_
 refine zaa ze7 ?_
 refine zac ty3 (zct hA3) (Ext.refl w2_) fun hI18=>?_
 refine zaz ?_
 refine br (fun c2=>?_) (fun c2=>?_)
 · refine zaa ze7 ?_
   refine zac ty3 (zct hA2) hx2_ fun hI21=>?_
   refine zaa ze7 ?_
   refine zac ty3 (zct hA3) (Ext.refl w2_) fun hI23=>?_
   refine zah ?_
   refine ⟨(hx1_.trans hx2_),?_⟩
   congr 1
   rw [decide_eq_decide]
   unfold ltR
   omega
 refine zaa zgs ?_
 refine zac ty3 (zdK hA2) hx2_ fun hI26=>?_
 refine zaa zgs ?_
 refine zac ty3 (zdK hA3) (Ext.refl w2_) fun hI28=>?_
 refine zah ?_
 refine ⟨(hx1_.trans hx2_),?_⟩
 congr 1
 rw [decide_eq_decide]
 unfold ltR
 omega
theorem ze2 (x:DRace):¬ltR x x:=by unfold ltR;omega
theorem zfY {x y z:DRace} (h:ltR x y) (k:ltR y z):ltR x z:=by unfold ltR at *;omega
theorem zhD {x y:DRace} (h:¬ltR x y) (k:¬ltR y x):x=y:=by
 unfold ltR at *
 exact DRace.ext_iff.2 ⟨by omega,by omega,by omega⟩
def zh7 (r:DRace):List DRace→List DRace
 | []=>[r]
 | x :: l=>if ltR x r then x :: zh7 r l else if x=r then x :: l else r :: x :: l
def ahd (r:DRace):List DRace→Nat
 | []=>0
 | x :: l=>if ltR x r then ahd r l+1 else 0
theorem zlW (r:DRace):∀ l,zh7 r l=if h:ahd r l<l.length then (if l[ahd r l]=r then l else l.take (ahd r l)++(r :: l.drop (ahd r l))) else l++[r]
 | []=>rfl
 | x :: l=>by
   rw [zh7]
   by_cases h:ltR x r
   · have e:ahd r (x :: l)=ahd r l+1:=by rw [ahd,if_pos h]
     rw [if_pos h,zlW r l]
     by_cases h2:ahd r l<l.length
     · rw [dif_pos h2,dif_pos (by rw [e];simpa using h2)]
       have e2:(x :: l)[ahd r (x :: l)]'(by rw [e];simpa using h2)=l[ahd r l]:=by simp [e]
       rw [e2]
       split
       · rfl
       simp [e]
     rw [dif_neg h2,dif_neg (by rw [e];simpa using h2)];rfl
   have e:ahd r (x :: l)=0:=by rw [ahd,if_neg h]
   rw [if_neg h,dif_pos (by rw [e];simp)]
   have e2:(x :: l)[ahd r (x :: l)]'(by rw [e];simp)=x:=by simp [e]
   rw [e2]
   split
   · rfl
   simp [e]
theorem znY {r:DRace}:∀ {l:List DRace} {k:Nat} (hk:k≤l.length),(∀ j (h:j<k),ltR (l[j]'(by omega)) r)→(∀ h:k<l.length,¬ltR l[k] r)→ahd r l=k
 | [],0,_,_,_=>rfl
 | x :: l,0,_,_,h=>by
   have h':¬ltR x r:=h (by simp)
   rw [ahd,if_neg h']
 | x :: l,k+1,hk,h1,h2=>by
   have e:ltR x r:=h1 0 (by omega)
   rw [ahd,if_pos e,znY (k:=k) (by simpa using hk) (fun j hj=>h1 (j+1) (by omega)) fun h=>h2 (by simpa using h)]
theorem zi5 {r x:DRace}:∀ {l:List DRace},x∈zh7 r l↔x=r∨x∈l
 | []=>by simp [zh7]
 | y :: l=>by
   rw [zh7]
   split
   · rw [List.mem_cons,zi5,List.mem_cons];exact ⟨fun h=>by rcases h with h | h | h<;>simp [h],fun h=>by rcases h with h | h | h<;>simp [h]⟩
   split
   · rename_i h;subst h;simp
   simp
theorem zhE {r:DRace}:∀ {l:List DRace},l.Pairwise ltR→(zh7 r l).Pairwise ltR
 | [],_=>by simp [zh7]
 | y :: l,h=>by
   rw [List.pairwise_cons] at h
   rw [zh7]
   split
   · rename_i hy
     refine List.pairwise_cons.2 ⟨fun z hz=>?_,zhE h.2⟩
     rcases zi5.1 hz with rfl | hz
     · exact hy
     exact h.1 z hz
   rename_i hy
   split
   · exact List.pairwise_cons.2 h
   rename_i hne
   have hry:ltR r y:=Decidable.byContradiction fun hc=>hne (zhD hy hc)
   refine List.pairwise_cons.2 ⟨fun z hz=>?_,List.pairwise_cons.2 h⟩
   rcases List.mem_cons.1 hz with rfl | hz
   · exact hry
   exact zfY hry (h.1 z hz)
theorem zh8:∀ {l m:List DRace},l.Pairwise ltR→m.Pairwise ltR→(∀ x,x∈l↔x∈m)→l=m
 | [],[],_,_,_=>rfl
 | [],y :: m,_,_,h=>by have:=(h y).2 (by simp);cases this
 | x :: l,[],_,_,h=>by have:=(h x).1 (by simp);cases this
 | x :: l,y :: m,h1,h2,h=>by
   rw [List.pairwise_cons] at h1 h2
   have hxy:x=y:=by
     rcases List.mem_cons.1 ((h x).1 (by simp)) with e | hm
     · exact e
     rcases List.mem_cons.1 ((h y).2 (by simp)) with e | hl
     · exact e.symm
     exact absurd (zfY (h1.1 y hl) (h2.1 x hm)) (ze2 x)
   subst hxy
   congr 1
   refine zh8 h1.2 h2.2 fun z=>⟨fun hz=>?_,fun hz=>?_⟩
   · rcases List.mem_cons.1 ((h z).1 (by simp [hz])) with rfl | h'
     · exact absurd (h1.1 z hz) (ze2 z)
     exact h'
   rcases List.mem_cons.1 ((h z).2 (by simp [hz])) with rfl | h'
   · exact absurd (h2.1 z hz) (ze2 z)
   exact h'
end Go.Proofs.YtifonhplnmpgaaaGreat
namespace Go.Proofs.YtifonhplnmpgaaaGreat
open Go Go.Sh Go.Proofs Go.Sort
open Rep (rep)
instance:Inhabited DRace:=⟨⟨0,0,0⟩⟩
def zqE (x:DRace):List Value:=[.int .i64 x.g,.int .i64 x.a,.int .i64 x.b]
theorem zo4:∀ {F:List Nat} {w:World} {cs:List Value} {x:DRace},Rep.rep F w cs x→cs=zqE x:=by
 intro F w cs x h
 obtain ⟨F1,F2,c1,c2,rfl,rfl,⟨rfl,rfl,_⟩,⟨F3,F4,c3,c4,rfl,rfl,⟨rfl,rfl,_⟩,⟨rfl,rfl,_⟩⟩⟩:=h
 rfl
theorem zdn {x y:DRace}:ltOf zo2 x y=decide (ltR x y):=by
 unfold ltOf
 rw [decide_eq_decide]
 exact zqi
theorem zqj:SWO (ltOf zo2):=by
 refine ⟨fun x=>?_,fun x y z h k=>?_,fun x y z h k=>?_⟩
 · rw [zdn,decide_eq_false_iff_not];exact ze2 x
 · rw [zdn,decide_eq_true_eq] at *;exact zfY h k
 rw [zdn,decide_eq_false_iff_not] at *
 intro hc
 unfold ltR at *
 omega
def srt (l:List DRace):List DRace:=l.mergeSort fun x y=>!(ltOf zo2) y x
theorem zlX (l:List DRace):(srt l).Perm l:=List.mergeSort_perm l _
theorem znZ (l:List DRace):(srt l).length=l.length:=(zlX l).length_eq
theorem zq9 (l:List DRace):(srt l).Pairwise fun x y=>¬ltR y x:=by
 have:=List.pairwise_mergeSort (le:=fun x y=>!(ltOf zo2) y x) (fun a b c h1 h2=>by
   simp only [zdn,Bool.not_eq_true',decide_eq_false_iff_not] at *
   unfold ltR at *;omega) (fun a b=>by
   simp only [zdn,Bool.or_eq_true,Bool.not_eq_true',decide_eq_false_iff_not]
   unfold ltR;omega) l
 exact this.imp fun h=>by simpa [zdn] using h
theorem zo5 {w:World} {lo hi:Nat} {v:Value} {l:List DRace} (h:OwnI lo hi w v l) (hn:l.length≤1073741824) :
   CALL Tryz.prog 164 [v,.func (.func 165) #[] #[]] w fun r w'=>ChgI lo hi w w'∧OwnI lo hi w' v (srt l):=by
 obtain ⟨F,hM,hF⟩:=h
 by_cases hne:l=[]
 · subst hne
   obtain ⟨a,cap,hv⟩:∃ a cap,v=.slice a 0 cap:=by
     obtain ⟨cs,⟨a,cap,G,xs,h,_⟩,hv⟩:=hM.own
     exact ⟨a,cap,by rw [hv,h];rfl⟩
   subst hv
   refine ⟨(AnyF.slices_SortFunc_none Tryz.sortRace a cap _ w).mono ?_⟩
   rintro e w' ⟨he,rfl⟩
   refine ⟨_,he,ChgI.refl _,F,?_,hF⟩
   have:srt []=[]:=List.eq_nil_of_length_eq_zero (by rw [znZ];rfl)
   rw [this];exact hM
 obtain ⟨b,o,cap,xs,rfl,rfl,h1,h2,hcc,hrr,hww⟩:=zdW hM hne
 have henc:=@zo4
 have hk:∀ x,(zqE x).length=Rep.size DRace:=fun _=>rfl
 obtain ⟨c,e,hbe⟩:=hww
 have hb:b<w.heap.size:=(Array.getElem?_eq_some_iff.1 hbe).1
 have hcmp:CmpLays Tryz.prog 165 #[] zqE 3 zo2 b o l.toArray.size w:=fun m os dk _ x y=>by
   have:=zhC (w:=sortWorldK zqE 3 w b o m dk os) (x:=x) (y:=y)
   obtain ⟨h⟩:=this
   refine h.mono ?_
   rintro e w' ⟨v,he,hv,q,os',hw'⟩
   exact ⟨by rw [he,hv],q,os',hw'⟩
 refine ⟨(AnyQ.slices_SortFunc_total Tryz.sortRace 3 Tryz.isAgg79 Tryz.sizeOf79 zqE (fun _=>rfl) (fun x v hv=>by
     simp only [zqE,List.mem_cons,List.not_mem_nil,or_false] at hv
     rcases hv with rfl | rfl | rfl<;>rfl) zo2 zqj 165 #[] b o cap l.toArray w (zev (ent 165 (by decide) (by kernel_rfl))) hcmp (zj0 henc hk ⟨c,e,hbe⟩ hcc hrr) hb (by simp;omega) (fun x y h k=>by
     rw [zdn,decide_eq_false_iff_not] at *;exact zhD h k)).mono ?_⟩
 rintro ex w' ⟨he,n,os,hw'⟩
 have hs:=zkQ henc hk (cap:=cap) hw' ⟨c,e,hbe⟩ hcc hrr h1 h2 (by simp) (fun x hx=>by simpa [List.mem_mergeSort] using hx)
 refine ⟨_,he,?_,[b],?_,hF⟩
 · exact hs.1.toI (fun i hi=>hF i hi)
 exact hs.2
def F98 (a0 a1:Value) (w:World) (R:VW):Prop:=
 oP (Instr.box 79 a1) w fun x3 w=>
 JOIN [5] (fun J4=>
 LOOPI [5] [(iV 0)] w fun u2 w next2=>
 (fun w=>rN 43 3 a0 w fun x9=>
 rC (u2 5) x9 w fun x10=>
 BR x10
 (rX 43 a0 (u2 5) w fun x14=>
 rL 79 x14 w fun x15=>
 rL 79 x3 w fun x16=>
 cL 154 [x15,x16] w fun x17 w=>
 BR x17
 (rA (u2 5) (iV 1) w fun x20=>
 next2 [x20] w)
 (J4 [(u2 5)] w))
 (J4 [(u2 5)] w)) (World.drew1 w)) (fun u4 w=>
 JOIN [] (fun J6=>
 (fun w=>rN 43 3 a0 w fun x23=>
 rC (u4 5) x23 w fun x24=>
 BR x24
 (rX 43 a0 (u4 5) w fun x28=>
 rL 79 x28 w fun x29=>
 rL 79 x3 w fun x30=>
 rB .eql 79 T0 T0 x29 x30 w fun x31=>
 BR x31
 (R a0 w)
 (J6 [] w))
 (J6 [] w)) (World.drew1 w)) (fun u6 w=>
 oP (Instr.buildSlice 43 0 #[]) w fun x34 w=>
 rD (Instr.sliceAt 43 a0 none (some (u4 5)) none) w fun x37=>
 oP (Builtin.append_ #[43,43] 43 [x34,x37].toArray) w fun x38 w=>
 rL 79 x3 w fun x40=>
 oP (Instr.buildSlice 43 1 #[(0,x40)]) w fun x41 w=>
 oP (Builtin.append_ #[43,43] 43 [x38,x41].toArray) w fun x42 w=>
 rD (Instr.sliceAt 43 a0 (some (u4 5)) none none) w fun x46=>
 oP (Builtin.append_ #[43,43] 43 [x42,x46].toArray) w fun x47 w=>
 R x47 w))
def cfg98:Cfg:=⟨extL,[(4,2097056,[5]),(6,17177772048,[])],[(2,2097056,[5])],[(2,[0,1,2,3,4,5,6,7,8,9,10,11],0),(4,[0,1,2,3,4,5,6,7,8,9,10,11],0)],[],[],[]⟩
theorem F98_call {a0 a1:Value} {w:World} {R:VW} (h:F98 a0 a1 w R):cL 98 [a0,a1] w R:=co (g:=cfg98) Tryz.func98 (by kernel_rfl) (by kernel_rfl) (by kernel_rfl) h
theorem zi6 {α:Type} [Rep α] [Flat α] {w:World} {lo hi:Nat} {v:Value} {x:α} (h:Is w v x):OwnI lo hi w v x:=by
 obtain ⟨F,cs,hr,hv⟩:=h
 have hF:=Flat.flat hr
 subst hF
 exact ⟨[],⟨⟨cs,hr,hv⟩,List.nodup_nil,Wr.nil w⟩,by simp⟩
def F111 (a0:Value) (w:World) (R:VW):Prop:=
 cL 163 [a0] w fun x5 w=>
 cL 164 [x5,(Value.func (.func 165) #[] #[])] w fun x7 w=>
 cL 167 [x5] w fun x9 w=>
 cL 166 [x9] w fun x10 w=>
 R x10 w
def cfg111:Cfg:=⟨extL,[],[],[],[],[],[]⟩
theorem F111_call {a0:Value} {w:World} {R:VW} (h:F111 a0 w R):cL 111 [a0] w R:=co (g:=cfg111) Tryz.func111 (by kernel_rfl) (by kernel_rfl) (by kernel_rfl) h
theorem zk0 {z:DRace}:∀ {l:List DRace} {x:DRace},z∈x :: ddg x l↔z∈x :: l
 | [],x=>Iff.rfl
 | y :: l,x=>by
   rw [ddg]
   split
   · rename_i h
     subst h
     rw [zk0 (l:=l)]
     simp
   rw [List.mem_cons,zk0 (l:=l),List.mem_cons (a:=z) (b:=x)]
theorem zn0:∀ {l:List DRace} {x:DRace},(x :: l).Pairwise (fun a b=>¬ltR b a)→(x :: ddg x l).Pairwise ltR
 | [],x,_=>by simp [ddg]
 | y :: l,x,h=>by
   rw [ddg]
   rw [List.pairwise_cons] at h
   have hy:=h.2
   rw [List.pairwise_cons] at hy
   split
   · rename_i e
     subst e
     exact zn0 h.2
   rename_i hne
   have ih:=zn0 h.2
   have hxy:ltR x y:=Decidable.byContradiction fun hc=>hne (zhD (h.1 y (by simp)) hc)
   refine List.pairwise_cons.2 ⟨fun z hz=>?_,ih⟩
   rcases List.mem_cons.1 hz with rfl | hz
   · exact hxy
   exact zfY hxy ((List.pairwise_cons.1 ih).1 z hz)
theorem zqk {l:List DRace} {z:DRace}:z∈ddp l↔z∈l:=by
 cases l with
 | nil=>exact Iff.rfl
 | cons x l=>exact zk0
theorem zra {l:List DRace} (h:l.Pairwise (fun a b=>¬ltR b a)):(ddp l).Pairwise ltR:=by
 cases l with
 | nil=>exact List.Pairwise.nil
 | cons x l=>exact zn0 h
def zeq (l:List DRace):List DRace:=l.foldl (fun acc r=>zh7 r acc) []
theorem zmq (l:List DRace) (r:DRace):zeq (l++[r])=zh7 r (zeq l):=by simp [zeq]
theorem zh9 {x:DRace}:∀ {l acc:List DRace},x∈l.foldl (fun acc r=>zh7 r acc) acc↔x∈acc∨x∈l
 | [],acc=>by simp
 | y :: l,acc=>by
   rw [List.foldl_cons,zh9,zi5,List.mem_cons]
   constructor
   · rintro ((h | h) | h)<;>simp [h]
   rintro (h | h | h)<;>simp [h]
theorem zn1 {x:DRace} {l:List DRace}:x∈zeq l↔x∈l:=by unfold zeq;rw [zh9];simp
theorem zj3:∀ {l acc:List DRace},acc.Pairwise ltR→(l.foldl (fun acc r=>zh7 r acc) acc).Pairwise ltR
 | [],acc,h=>h
 | y :: l,acc,h=>by
   rw [List.foldl_cons]
   exact zj3 (zhE h)
theorem zo6 (l:List DRace):(zeq l).Pairwise ltR:=zj3 List.Pairwise.nil
theorem zlY (r:DRace):∀ l:List DRace,(zh7 r l).length≤l.length+1
 | []=>by simp [zh7]
 | x :: l=>by
   have:=zlY r l
   rw [zh7]
   split
   · simpa using this
   split<;>simp
theorem zia:∀ (l acc:List DRace),(l.foldl (fun acc r=>zh7 r acc) acc).length≤acc.length+l.length
 | [],acc=>by simp
 | y :: l,acc=>by
   have h1:=zia l (zh7 y acc)
   have h2:=zlY y acc
   rw [List.foldl_cons,List.length_cons];omega
theorem zj4 (l:List DRace):(zeq l).length≤l.length:=by have:=zia l [];simpa [zeq] using this
theorem zql (l:List DRace):ddp (srt l)=zeq l:=zh8 (zra (zq9 l)) (zo6 l) fun x=>by rw [zqk,zn1,(zlX l).mem_iff]
def clR (a b:DTouch):List DRace:=if zcY a b then [zdX a b] else []
def gB (a:DTouch) (bs:List DTouch):List DRace:=bs.flatMap (clR a)
def gL (Ls:List (List DTouch)) (a:DTouch):List DRace:=Ls.flatMap (gB a)
def gA (Ls:List (List DTouch)) (xs:List DTouch):List DRace:=xs.flatMap (gL Ls)
def zrO (T:Nat→List DTouch) (t:Nat):List (List DTouch):=(List.range t).map T
def gT (T:Nat→List DTouch) (n:Nat):List DRace:=(List.range n).flatMap fun t=>gA (zrO T t) (T t)
def hA (bs xs:List DTouch):List DRace:=xs.flatMap fun a=>gB a bs
def hU (T:Nat→List DTouch) (xs:List DTouch) (t:Nat):List DRace:=(List.range t).flatMap fun u=>hA (T u) xs
def hT (T:Nat→List DTouch) (n:Nat):List DRace:=(List.range n).flatMap fun t=>hU T (T t) t
theorem zdy {α β:Type} {f:α→List β} {l:List α} {k:Nat} (h:k<l.length):(l.take (k+1)).flatMap f=(l.take k).flatMap f++f l[k]:=by
 rw [List.take_succ_eq_append_getElem h,List.flatMap_append];simp
def tA (c:DCode) (s:DState) (t:Nat):List DTouch:=if 0≤zqU s t then zcy c (zqU s t) 0 else []
theorem zib {c:DCode} {a held:Int} {i:DIns} {x:DTouch}:∀ {k:Nat},x∈zbT c a held i k→x.at_=a∧x.held=held
 | 0,h=>by simp [zbT] at h
 | k+1,h=>by
   rw [zbT,List.mem_append,List.mem_append] at h
   rcases h with (h | h) | h
   · exact zib h
   · split at h
     · simp only [List.mem_cons,List.not_mem_nil,or_false] at h;subst h;exact ⟨rfl,rfl⟩
     simp at h
   split at h
   · simp only [List.mem_cons,List.not_mem_nil,or_false] at h;subst h;exact ⟨rfl,rfl⟩
   simp at h
theorem zdY {c:DCode} {a held:Int} {x:DTouch} (h:x∈zcy c a held):x.at_=a∧x.held=held:=by
 unfold zcy at h
 split at h
 · exact zib h
 simp at h
def zru (c:DCode) (s:DState):List DRace:=zeq (gT (tA c s) s.stacks.length)
def F240 (a0 a1 a2 a3:Value) (w:World) (R:VW):Prop:=
 cL 66 [a1] w fun x15 w=>
 rN 23 3 x15 w fun x16=>
 LOOPI [9,17] [(Value.slice none 0 0),(iV 0)] w fun u3 w next3=>
 rC (u3 17) x16 w fun x18=>
 BR x18
 (rX 23 x15 (u3 17) w fun x19=>
 rL 3 x19 w fun x20=>
 cL 137 [a0,x20] w fun x23 w=>
 rN 23 3 x23 w fun x24=>
 LOOPI [9,25] [(u3 9),(iV 0)] w fun u6 w next6=>
 rC (u6 25) x24 w fun x26=>
 BR x26
 (rX 23 x23 (u6 25) w fun x27=>
 rL 3 x27 w fun x28=>
 NIL a0 <|
 rF 114 a0 0 w fun x31=>
 rF 32 x31 4 w fun x32=>
 rL 30 x32 w fun x33=>
 rX 30 x33 x28 w fun x35=>
 rF 111 x35 0 w fun x36=>
 rL 3 x36 w fun x37=>
 rB .eql 3 T0 T0 x37 a2 w fun x39=>
 BR x39
 (NIL a0 <|
 rF 114 a0 0 w fun x43=>
 rF 32 x43 4 w fun x44=>
 rL 30 x44 w fun x45=>
 rX 30 x45 x28 w fun x47=>
 rF 111 x47 1 w fun x48=>
 rL 3 x48 w fun x49=>
 rB .eql 3 T0 T0 x49 a3 w fun x51=>
 BR x51
 (oP (Instr.buildSlice 23 1 #[(0,x28)]) w fun x55 w=>
 oP (Builtin.append_ #[23,23] 23 [(u6 9),x55].toArray) w fun x56 w=>
 rA (u6 25) (iV 1) w fun x57=>
 next6 [x56,x57] w)
 (rA (u6 25) (iV 1) w fun x57=>
 next6 [(u6 9),x57] w))
 (rA (u6 25) (iV 1) w fun x57=>
 next6 [(u6 9),x57] w))
 (rA (u3 17) (iV 1) w fun x58=>
 next3 [(u6 9),x58] w))
 (R (u3 9) w)
def cfg240:Cfg:=⟨extL,[],[(3,576460752303303168,[9,17]),(6,288230376118166016,[9,25])],[],[],[],[]⟩
theorem F240_call {a0 a1 a2 a3:Value} {w:World} {R:VW} (h:F240 a0 a1 a2 a3 w R):cL 240 [a0,a1,a2,a3] w R:=co (g:=cfg240) Tryz.func240 (by kernel_rfl) (by kernel_rfl) (by kernel_rfl) h
def F213 (a0 a1:Value) (w:World) (R:VW):Prop:=
 oP (Instr.box 32 a0) w fun x2 w=>
 oP (Instr.buildSlice 23 0 #[]) w fun x10 w=>
 rL 32 x2 w fun x11=>
 cL 209 [x11] w fun x12 w=>
 LOOPI [5,7] [x10,(iV 0)] w fun u4 w next4=>
 rF 32 x2 2 w fun x14=>
 rL 22 x14 w fun x15=>
 rN 22 3 x15 w fun x16=>
 rC (u4 7) x16 w fun x17=>
 BR x17
 (rX 101 x12 (u4 7) w fun x22=>
 rL 4 x22 w fun x23=>
 rD (Op.unary .not x23) w fun x24=>
 BR x24
 (rA (u4 7) (iV 1) w fun x19=>
 next4 [(u4 5),x19] w)
 (rL 32 x2 w fun x25=>
 cL 234 [x25,(u4 7)] w fun x27 w=>
 rF 32 x2 3 w fun x28=>
 rL 23 x28 w fun x29=>
 rX 23 x29 (u4 7) w fun x31=>
 rL 3 x31 w fun x32=>
 LOOPI [5,9] [(u4 5),x32] w fun u9 w next9=>
 rL 32 x2 w fun x34=>
 cL 124 [x34,(u4 7)] w fun x36 w=>
 rB .leq 3 T0 T0 (u9 9) x36 w fun x37=>
 BR x37
 (rX 101 x27 (u9 9) w fun x42=>
 rL 4 x42 w fun x43=>
 BR x43
 (rF 32 x2 4 w fun x45=>
 rL 30 x45 w fun x46=>
 rX 30 x46 (u9 9) w fun x48=>
 rF 111 x48 0 w fun x49=>
 rL 3 x49 w fun x50=>
 rB .eql 3 T0 U0 x50 (iV 5) w fun x51=>
 BR x51
 (rF 32 x2 4 w fun x54=>
 rL 30 x54 w fun x55=>
 rX 30 x55 (u9 9) w fun x57=>
 rF 111 x57 1 w fun x58=>
 rL 3 x58 w fun x59=>
 rB .eql 3 T0 T0 x59 a1 w fun x61=>
 BR x61
 (oP (Instr.buildSlice 23 1 #[(0,(u9 9))]) w fun x65 w=>
 oP (Builtin.append_ #[23,23] 23 [(u9 5),x65].toArray) w fun x66 w=>
 rA (u9 9) (iV 1) w fun x39=>
 next9 [x66,x39] w)
 (rA (u9 9) (iV 1) w fun x39=>
 next9 [(u9 5),x39] w))
 (rA (u9 9) (iV 1) w fun x39=>
 next9 [(u9 5),x39] w))
 (rA (u9 9) (iV 1) w fun x39=>
 next9 [(u9 5),x39] w))
 (rA (u4 7) (iV 1) w fun x19=>
 next4 [(u9 5),x19] w)))
 (R (u4 5) w)
def cfg213:Cfg:=⟨extL,[],[(4,147573952589676405664,[5,7]),(9,147573952581086478880,[5,9])],[],[],[],[]⟩
theorem F213_call {a0 a1:Value} {w:World} {R:VW} (h:F213 a0 a1 w R):cL 213 [a0,a1] w R:=co (g:=cfg213) Tryz.func213 (by kernel_rfl) (by kernel_rfl) (by kernel_rfl) h
open Rep (rep)
def StP (c:DCode) (r p i:Nat):Prop:=zay c p i∧(zaj c i).op=5∧agN c i=r
noncomputable def zdo (c:DCode) (r:Nat):List Nat:=(zbd c.procs.length (UsedP c)).flatMap fun p=>zbd c.ins.length (StP c r p)
theorem zk1 {n:Nat} {p q:Nat→Prop} {f:Nat→Bool} (h:∀ i,i<n→(f i=true↔q i)):(zbd n p).filter f=zbd n fun i=>p i∧q i:=by
 induction n with
 | zero=>rfl
 | succ n ih=>
   have ih:=ih fun i hi=>h i (by omega)
   by_cases hp:p n
   · rw [zea hp,List.filter_append,ih]
     by_cases hq:q n
     · rw [zea ⟨hp,hq⟩];simp [(h n (by omega)).2 hq]
     rw [zeb fun e=>hq e.2]
     have:f n=false:=by
       cases e:f n
       · rfl
       exact absurd ((h n (by omega)).1 e) hq
     simp [this]
   rw [zeb hp,zeb fun e=>hp e.1,ih]
theorem ze3 {α β:Type} {f:α→List β} {B:Nat}:∀ {l:List α},(∀ a∈l,(f a).length≤B)→(l.flatMap f).length≤l.length*B
 | [],_=>by simp
 | a :: l,h=>by
   have h1:=h a (by simp)
   have h2:=ze3 (l:=l) fun b hb=>h b (by simp [hb])
   simp only [List.flatMap_cons,List.length_append,List.length_cons,Nat.add_mul]
   omega
theorem zic {c:DCode} (hc:CodeR c) {r i:Nat} (h:i∈zdo c r):i<c.ins.length:=by
 unfold zdo at h
 obtain ⟨p,_,h⟩:=List.mem_flatMap.1 h
 exact (zaQ.1 h).1
theorem zid {w W0:World} {b r:Nat} {c:DCode} (hW:WAt W0 b c) (e0:Ext W0 w) (hc:CodeR c) :
   CALL Tryz.prog 240 [.pointer (some ⟨b,0,none⟩),.int .i64 (zcS c:Nat),.int .i64 5,.int .i64 (r:Int)] w fun v w'=>Ext w w'∧Own w.heap.size w' v (zaM (zdo c r)):=by
 refine F240_call ?_
 unfold F240
 have h8:=hc.1.procs8
 have hil:=hc.f.ins
 have hu256:zcS c<256:=zaU h8.1
 refine (zcK (m:=zcS c) (by omega)).mono ?_
 rintro v15 w1 ⟨hx1,ho1⟩
 unfold zcS at ho1
 rw [zcx (by omega)] at ho1
 have hup:∀ p∈zbd c.procs.length (UsedP c),p<c.procs.length:=fun p hp=>(zaQ.1 hp).1
 have hul:=zaZ (n:=c.procs.length) (p:=UsedP c)
 unfold zdo
 generalize zbd c.procs.length (UsedP c)=U at *
 refine zaf u23 ho1.is ?_
 rw [zae]
 have hfl:∀ k,((U.take k).flatMap fun p=>zbd c.ins.length (StP c r p)).length≤20000:=fun k=>by
   have:=ze3 (l:=U.take k) (f:=fun p=>zbd c.ins.length (StP c r p)) (B:=1500) fun a _=>Nat.le_trans zaZ hil
   have h2:=List.length_take_le' k U
   have:(U.take k).length*1500≤8*1500:=Nat.mul_le_mul_right _ (by omega)
   omega
 refine zas U.length (fun k us w'=>∃ out,us=[out,.int .i64 (k:Int)]∧k≤U.length∧Ext w1 w'∧RowI w1.heap.size w'.heap.size 3 w' out (zaM ((U.take k).flatMap fun p=>zbd c.ins.length (StP c r p)))) 0 (Nat.zero_le _) ⟨_,rfl,Nat.zero_le _,Ext.refl _,zc0 _ _ _ _⟩ ?_
 rintro k mk u w2 hkm ⟨out,hu,hkl,hx2,hr2⟩
 obtain ⟨hu1,hu2⟩:=zb9 hu
 rw [hu1,hu2]
 refine zah ?_
 refine br (fun hlt=>?_) (fun hge=>?_)
 case refine_2=>
   have hke:k=U.length:=by omega
   rw [hke,List.take_length] at hr2
   exact ⟨hx1.trans hx2,hr2.own.own.mono (by have:=hx1.size;omega)⟩
 have hk:k<U.length:=by omega
 have hp:=hup U[k] (List.getElem_mem _)
 have hfs:=zdy (f:=fun p=>zbd c.ins.length (StP c r p)) hk
 refine zad u23 ty3 (i:=k) ho1.is (by rw [zae];exact hk) fun b3 o3 hA3=>?_
 rw [zaK] at hA3
 generalize U[k]=p at *
 refine zac ty3 hA3 hx2 fun _=>?_
 refine (zeN hW.wl (e0.trans (hx1.trans hx2)) hc hp).mono ?_
 rintro v23 w3 ⟨hx3,ho3⟩
 have hLin:∀ i∈zbd c.ins.length (zay c p),i<c.ins.length:=fun i hi=>(zaQ.1 hi).1
 have hLf:(zbd c.ins.length (zay c p)).filter (fun i=>decide ((zaj c i).op=5∧agN c i=r))=zbd c.ins.length (StP c r p):=zk1 fun i hi=>by rw [decide_eq_true_eq]
 have hLl:=zaZ (n:=c.ins.length) (p:=zay c p)
 rw [←hLf] at hfs
 have hfk:=hfl k
 generalize zbd c.ins.length (zay c p)=L at *
 generalize (U.take k).flatMap (fun p=>zbd c.ins.length (StP c r p))=Op at *
 refine zaf u23 ho3.is ?_
 rw [zae]
 have hs3:=hx3.size
 have hs2:=hx2.size
 obtain ⟨F3,hM3,hF3⟩:=ho3
 refine zas L.length (fun j us w'=>∃ out lo hi,us=[out,.int .i64 (j:Int)]∧j≤L.length∧Ext w1 w'∧Mine F3 w' v23 (zaM L)∧w1.heap.size≤lo∧hi≤w'.heap.size∧RowI lo hi 3 w' out (zaM (Op++(L.take j).filter (fun i=>decide ((zaj c i).op=5∧agN c i=r))))∧∀ b∈F3,b<lo∨hi≤b) 0 (Nat.zero_le _) ⟨out,w1.heap.size,w2.heap.size,rfl,Nat.zero_le _,hx2.trans hx3,hM3,Nat.le_refl _,hs3,by simpa using hr2.ext hx3,fun b hb=>.inr (hF3 b hb)⟩ ?_
 rintro j mj u6 w6 hjm ⟨out6,lo,hi,hu6,hjl,hx6,hM6,hlo,hhi,hr6,hd⟩
 obtain ⟨hu61,hu62⟩:=zb9 hu6
 rw [hu61,hu62]
 refine zah ?_
 refine br (fun hlt6=>?_) (fun hge6=>?_)
 case refine_2=>
   refine zag (by omega) ?_
   refine ⟨mk-1,by omega,k+1,by omega,out6,rfl,by omega,hx6,?_⟩
   rw [List.take_of_length_le (by omega)] at hr6
   rw [hfs]
   exact hr6.mono hlo hhi
 have hj:j<L.length:=by omega
 have hi':=hLin L[j] (List.getElem_mem _)
 have htk:L.take (j+1)=L.take j++[L[j]]:=List.take_succ_eq_append_getElem hj
 refine zad u23 ty3 (i:=j) hM6.is (by rw [zae];exact hj) fun b4 o4 hA4=>?_
 rw [zaK] at hA4
 have hlen:(Op++(L.take j).filter (fun i=>decide ((zaj c i).op=5∧agN c i=r))).length≤100000:=by
   have:=List.length_filter_le (fun i=>decide ((zaj c i).op=5∧agN c i=r)) (L.take j)
   have h2:=List.length_take_le' j L
   rw [List.length_append];omega
 generalize L[j]=i at *
 refine zac ty3 hA4 (Ext.refl _) fun _=>?_
 have ex6:=e0.trans (hx1.trans hx6)
 have hno:¬((zaj c i).op=5∧agN c i=r)→(L.take (j+1)).filter (fun i=>decide ((zaj c i).op=5∧agN c i=r))=(L.take j).filter (fun i=>decide ((zaj c i).op=5∧agN c i=r)):=fun h=>by
   rw [htk,List.filter_append];simp [h]
 have hyes:((zaj c i).op=5∧agN c i=r)→(L.take (j+1)).filter (fun i=>decide ((zaj c i).op=5∧agN c i=r))=(L.take j).filter (fun i=>decide ((zaj c i).op=5∧agN c i=r))++[i]:=fun h=>by
   rw [htk,List.filter_append];simp [h]
 refine NIL.mk rfl ?_
 refine zaa zaY ?_
 refine zaa zaD ?_
 refine zab zco (zai hW.wl.code) ex6 fun v33 h33=>?_
 refine zad u30 zaS (i:=i) h33 hi' fun b5 o5 hA5=>?_
 rw [zaG] at hA5
 refine zaa zaH ?_
 refine zac ty3 (zat hA5) ex6 fun _=>?_
 refine zaq ?_
 refine br (fun h5=>?_) (fun h5=>?_)
 case refine_2=>
   refine zag (by omega) ?_
   exact ⟨mj-1,by omega,j+1,by omega,out6,lo,hi,rfl,by omega,hx6,hM6,hlo,hhi,by rw [hno fun h=>h5 h.1];exact hr6,hd⟩
 obtain ⟨hag,_⟩:=zbB hc hi' (.inr h5)
 refine NIL.mk rfl ?_
 refine zaa zaY ?_
 refine zaa zaD ?_
 refine zab zco (zai hW.wl.code) ex6 fun v45 h45=>?_
 refine zad u30 zaS (i:=i) h45 hi' fun b7 o7 hA7=>?_
 rw [zaG] at hA7
 refine zaa zaP ?_
 refine zac ty3 (zaw hA7) ex6 fun _=>?_
 refine zaq ?_
 refine br (fun ha=>?_) (fun ha=>?_)
 case refine_2=>
   refine zag (by omega) ?_
   exact ⟨mj-1,by omega,j+1,by omega,out6,lo,hi,rfl,by omega,hx6,hM6,hlo,hhi,by rw [hno fun h=>ha (by rw [hag,h.2])];exact hr6,hd⟩
 refine zdk (x:=(i:Int)) u23 ty3 z3 zc3 (by decide) hr6 (lo2:=0) (hi2:=0) (ownI_int _ _ (by unfold I64;omega)) (by rw [zao,zae];omega) (by rw [zae];omega) fun v' w' lo' hi2 hc7 hr' hd7=>?_
 have hs7:=hc7.size
 have hs6:=hx6.size
 refine zag (by omega) ?_
 refine ⟨mj-1,by omega,j+1,by omega,v',lo',hi2,rfl,by omega,hx6.chgI hc7 hlo,hM6.keep fun b hb=>hc7.block b (hM6.lt b hb) (hd b hb),by omega,by omega,?_,fun b hb=>?_⟩
 · rw [hyes ⟨h5,by omega⟩,←List.append_assoc,zcc]
   exact hr'
 have:=hd b hb
 have:=hM6.lt b hb
 omega
theorem zgy {w W0:World} {v0:Value} {r:Nat} {c:DCode} (h0:Is W0 v0 c) (e0:Ext W0 w) (hc:CodeR c) :
   CALL Tryz.prog 213 [v0,.int .i64 (r:Int)] w fun v w'=>Ext w w'∧Own w.heap.size w' v (zaM (zdo c r)):=by
 refine F213_call ?_
 unfold F213
 have h8:=hc.1.procs8
 have hil:=hc.f.ins
 have he:=hc.2.1.1
 refine zbq h0 e0 fun w1 hx1 hA=>?_
 refine zba (α:=Int) u23 ty3 fun a10 w2 hx2 hr2=>?_
 refine zab zbu hA hx2 fun v11 h11=>?_
 refine (ze1 h11 hx2 hc).mono ?_
 rintro v12 w3 ⟨hx3,ho3⟩
 have hx13:=hx2.trans hx3
 have hs1:=hx1.size
 have hs13:=hx13.size
 have hfl:∀ k,k≤8→((zbd k (UsedP c)).flatMap fun p=>zbd c.ins.length (StP c r p)).length≤20000:=fun k hk=>by
   have h1:=ze3 (l:=zbd k (UsedP c)) (f:=fun p=>zbd c.ins.length (StP c r p)) (B:=1500) fun a _=>Nat.le_trans zaZ hil
   have h2:=zaZ (n:=k) (p:=UsedP c)
   have:(zbd k (UsedP c)).length*1500≤8*1500:=Nat.mul_le_mul_right _ (by omega)
   omega
 refine zas c.procs.length (fun k us w'=>∃ out,us=[out,.int .i64 (k:Int)]∧k≤c.procs.length∧Ext w3 w'∧RowI w3.heap.size w'.heap.size 3 w' out (zaM ((zbd k (UsedP c)).flatMap fun p=>zbd c.ins.length (StP c r p)))) 0 (Nat.zero_le _) ⟨_,rfl,Nat.zero_le _,Ext.refl _,zdM _ _ _ _ _⟩ ?_
 rintro p mk u w4 hkm ⟨out,hu,hkl,hx4,hr4⟩
 obtain ⟨hu1,hu2⟩:=zb9 hu
 rw [hu1,hu2]
 have hx14:=hx13.trans hx4
 refine zaa za1 ?_
 refine zab zbN (zap hA) hx14 fun v15 h15=>?_
 refine zaf u22 h15 ?_
 refine zah ?_
 refine br (fun hlt=>?_) (fun hge=>?_)
 case refine_2=>
   have hke:p=c.procs.length:=by omega
   rw [hke] at hr4
   exact ⟨hx1.trans hx14,hr4.own.own.mono (by omega)⟩
 have hp:p<c.procs.length:=by omega
 have hmk:=zaI (n:=c.procs.length) (p:=UsedP c) (i:=p)
 rw [zaL (by rw [zak];exact hp)] at hmk
 refine zad zcm ty4 (i:=p) ho3.is (by rw [zak];exact hp) fun b3 o3 hA3=>?_
 refine zax ty4 hA3 hx4 ?_
 refine za0 ?_
 refine zbI (fun hf=>?_) (fun hf=>?_)
 · have hnu:¬UsedP c p:=fun h=>by rw [hmk.2 ⟨hp,h⟩] at hf;cases hf
   refine zag (by omega) ?_
   exact ⟨mk-1,by omega,p+1,by omega,out,rfl,by omega,hx4,by rw [zeb hnu];exact hr4⟩
 have hU:UsedP c p:=(hmk.1 (by simpa using hf)).2
 have hfs:(zbd (p+1) (UsedP c)).flatMap (fun p=>zbd c.ins.length (StP c r p))=(zbd p (UsedP c)).flatMap (fun p=>zbd c.ins.length (StP c r p))++zbd c.ins.length (StP c r p):=by
   rw [zea hU,List.flatMap_append];simp
 have hfk:=hfl p (by omega)
 refine zab zbu hA hx14 fun v25 h25=>?_
 refine (zdQ h25 hx14 hc (by rw [he];exact hp)).mono ?_
 rintro v27 w5 ⟨hx5,ho5⟩
 have hx15:=hx14.trans hx5
 obtain ⟨hen,heN,_⟩:=zep hc (p:=p) (by rw [he];exact hp)
 obtain ⟨hzB,hzO,hzN⟩:=zdw hc hp
 have hze:=(zhN hc (p:=p) (by rw [he];exact hp)).2.1
 have hlv:∀ i,zay c p i→eN c p≤i∧i≤zN c p:=fun i hi=>by
   have h1:=zbe hc (by rw [he];exact hp) hi
   obtain ⟨q,hq,h3,h4⟩:=zcN hc h1.1
   have:q=p:=by have:=h1.2;omega
   subst this;exact h4
 have hz0:zbd (eN c p) (StP c r p)=[]:=by
   rw [zfV (n:=0) (Nat.zero_le _) fun i _ h2 hs=>by have:=hlv i hs.1;omega];rfl
 have hzz:zbd c.ins.length (StP c r p)=zbd (zN c p+1) (StP c r p):=zfV (by omega) fun i h1 _ hs=>by have:=hlv i hs.1;omega
 rw [hzz] at hfs
 refine zaa zaT ?_
 refine zab zb6 (zam hA) hx15 fun v29 h29=>?_
 refine zad u23 ty3 (i:=p) h29 (by rw [he];exact hp) fun b6 o6 hA6=>?_
 refine zac ty3 hA6 hx15 fun _=>?_
 rw [za8,hen]
 generalize hOp:(zbd p (UsedP c)).flatMap (fun p=>zbd c.ins.length (StP c r p))=Op at *
 obtain ⟨F5,hM5,hF5⟩:=ho5
 have hs45:=hx5.size
 have hs34:=hx4.size
 have hr5:RowI w3.heap.size w4.heap.size 3 w5 out (zaM (Op++zbd (eN c p) (StP c r p))):=by rw [hz0];simpa using hr4.ext hx5
 refine zas (zN c p+1) (fun j us w'=>∃ out lo hi,us=[out,.int .i64 (j:Int)]∧eN c p≤j∧j≤zN c p+1∧Ext w3 w'∧Mine F5 w' v27 (zbE c.ins.length (zay c p))∧w3.heap.size≤lo∧hi≤w'.heap.size∧RowI lo hi 3 w' out (zaM (Op++zbd j (StP c r p)))∧∀ b∈F5,b<lo∨hi≤b) (eN c p) (by omega) ⟨out,w3.heap.size,w4.heap.size,rfl,Nat.le_refl _,by omega,hx4.trans hx5,hM5,Nat.le_refl _,hs45,hr5,fun b hb=>.inr (hF5 b hb)⟩ ?_
 rintro i mj u6 w6 hjm ⟨out6,lo,hi,hu6,hie,hjl,hx6,hM6,hlo,hhi,hr6,hd⟩
 obtain ⟨hu61,hu62⟩:=zb9 hu6
 rw [hu61,hu62]
 have hx16:=hx13.trans hx6
 refine zab zbu hA hx16 fun v34 h34=>?_
 refine (zdi h34 hx16 (p:=(p:Int)) (by omega) (by omega) hc.2.1.nonneg).mono ?_
 rintro _ w7 ⟨hx7,rfl⟩
 rw [hzO]
 have hx17:=hx16.trans hx7
 have hx37:=hx6.trans hx7
 have hM7:=hM6.ext hx7
 have hr7:=hr6.ext hx7
 have hs67:=hx7.size
 refine zcU ?_
 refine br (fun hlt6=>?_) (fun hge6=>?_)
 case refine_2=>
   have hie:i=zN c p+1:=by omega
   refine zag (by omega) ?_
   refine ⟨mk-1,by omega,p+1,by omega,out6,rfl,by omega,hx37,?_⟩
   rw [hfs,←hie]
   exact hr7.mono hlo (by omega)
 have hi':i<c.ins.length:=by omega
 have hlen:(Op++zbd i (StP c r p)).length≤100000:=by
   have:=zaZ (n:=i) (p:=StP c r p)
   rw [List.length_append];omega
 have hml:=zaI (n:=c.ins.length) (p:=zay c p) (i:=i)
 rw [zaL (by rw [zak];exact hi')] at hml
 have hskip:¬StP c r p i→∃ m',m'<mj∧∃ k',k'+m'=zN c p+1∧∃ out lo hi,[out6,Value.int .i64 ((i+1:Nat):Int)]=[out,.int .i64 (k':Int)]∧eN c p≤k'∧k'≤zN c p+1∧Ext w3 w7∧Mine F5 w7 v27 (zbE c.ins.length (zay c p))∧w3.heap.size≤lo∧hi≤w7.heap.size∧RowI lo hi 3 w7 out (zaM (Op++zbd k' (StP c r p)))∧∀ b∈F5,b<lo∨hi≤b:=fun hn=>
   ⟨mj-1,by omega,i+1,by omega,out6,lo,hi,rfl,by omega,by omega,hx37,hM7,hlo,by omega,by rw [zeb hn];exact hr7,hd⟩
 refine zad zcm ty4 (i:=i) hM7.is (by rw [zak];exact hi') fun b8 o8 hA8=>?_
 refine zax ty4 hA8 (Ext.refl _) ?_
 refine zbI (fun hf=>?_) (fun hf=>?_)
 case refine_2=>
   refine zag (by omega) ?_
   exact hskip fun h=>by rw [hml.2 ⟨hi',h.1⟩] at hf;cases hf
 have hL:=(hml.1 hf).2
 refine zaa zaD ?_
 refine zab zco (zai hA) hx17 fun v46 h46=>?_
 refine zad u30 zaS (i:=i) h46 hi' fun b9 o9 hA9=>?_
 rw [zaG] at hA9
 refine zaa zaH ?_
 refine zac ty3 (zat hA9) hx17 fun _=>?_
 refine zaq ?_
 refine br (fun h5=>?_) (fun h5=>?_)
 case refine_2=>
   refine zag (by omega) ?_
   exact hskip fun h=>h5 h.2.1
 obtain ⟨hag,_⟩:=zbB hc hi' (.inr h5)
 refine zaa zaD ?_
 refine zab zco (zai hA) hx17 fun v55 h55=>?_
 refine zad u30 zaS (i:=i) h55 hi' fun b10 o10 hA10=>?_
 rw [zaG] at hA10
 refine zaa zaP ?_
 refine zac ty3 (zaw hA10) hx17 fun _=>?_
 refine zaq ?_
 refine br (fun ha=>?_) (fun ha=>?_)
 case refine_2=>
   refine zag (by omega) ?_
   exact hskip fun h=>ha (by rw [hag,h.2.2])
 refine zdk (x:=(i:Int)) u23 ty3 z3 zc3 (by decide) hr7 (lo2:=0) (hi2:=0) (ownI_int _ _ (by unfold I64;omega)) (by rw [zao,zae];omega) (by rw [zae];omega) fun v' w' lo' hi2 hc8 hr' hd8=>?_
 have hs8:=hc8.size
 have hs37:=hx37.size
 refine zag (by omega) ?_
 refine ⟨mj-1,by omega,i+1,by omega,v',lo',hi2,rfl,by omega,by omega,hx37.chgI hc8 hlo,hM7.keep fun b hb=>hc8.block b (hM7.lt b hb) (hd b hb),by omega,by omega,?_,fun b hb=>?_⟩
 · rw [zea (⟨hL,h5,by omega⟩:StP c r p i),←List.append_assoc,zcc]
   exact hr'
 have:=hd b hb
 have:=hM7.lt b hb
 omega
theorem zi7 {l:List Int} {k:Nat} {y:Int} (hk:k<l.length) (h:y∉l.take k) (c:¬l[k]=y):y∉l.take (k+1):=by
 rw [List.take_succ_eq_append_getElem hk]
 simp only [List.mem_append,List.mem_cons,List.not_mem_nil,or_false,not_or]
 exact ⟨h,fun e=>c e.symm⟩
def F104 (a0 a1:Value) (w:World) (R:VW):Prop:=
 LOOPI [5] [(iV 0)] w fun u2 w next2=>
 rN 23 3 a0 w fun x8=>
 rC (u2 5) x8 w fun x9=>
 BR x9
 (rX 23 a0 (u2 5) w fun x14=>
 rL 3 x14 w fun x15=>
 rB .eql 3 T0 T0 x15 a1 w fun x17=>
 BR x17
 (R (Value.bool true) w)
 (rA (u2 5) (iV 1) w fun x11=>
 next2 [x11] w))
 (R (Value.bool false) w)
def cfg104:Cfg:=⟨extL,[],[(2,262128,[5])],[],[],[],[]⟩
theorem F104_call {a0 a1:Value} {w:World} {R:VW} (h:F104 a0 a1 w R):cL 104 [a0,a1] w R:=co (g:=cfg104) Tryz.func104 (by kernel_rfl) (by kernel_rfl) (by kernel_rfl) h
theorem zn2 {w:World} {v0:Value} {W0:World} {l:(List Int)} {y:Int}  (h0:Is W0 v0 l) (e0:Ext W0 w)  :
   CALL Tryz.prog 104 [v0,.int .i64 y] w fun r w'=>Ext w w'∧(r=.bool (decide (y∈l))):=by
 refine F104_call ?_
 unfold F104
 refine zas (l.length) (fun k us w'=>us=[.int .i64 (k:Int)]∧Ext w w'∧(y∉l.take k)) (0) (by omega) ⟨by simp,Ext.refl w,by simp⟩ ?_
 rintro k m2 uu2 w1_ hk2 ⟨hu,hx1_,hinv⟩
 simp only [List.map_cons,List.map_nil,List.cons.injEq,and_true] at hu
 try rw [hu]
 try clear hu
 have hln8:=zal h0
 refine zaf u23 h0 ?_
 refine zah ?_
 refine br (fun c1=>?_) (fun c1=>?_)
 · refine zad u23 ty3 h0 (by omega) fun b14 o14 h14=>?_
   refine zac ty3 h14 (e0.trans hx1_) fun hI15=>?_
   refine zaq ?_
   refine br (fun c2=>?_) (fun c2=>?_)
   · refine ⟨hx1_,?_⟩
     have:y∈l:=c2▸List.getElem_mem _
     simp [this]
   refine zag (by omega) ?_
   refine ⟨m2-1,by omega,k+1,by omega,by simp,hx1_,?_⟩
   exact zi7 (by omega) hinv c2
 refine ⟨hx1_,?_⟩
 rw [List.take_of_length_le (by omega)] at hinv
 simp [hinv]
def F241 (a0 a1:Value) (w:World) (R:VW):Prop:=
 NIL a0 <|
 rF 114 a0 0 w fun x8=>
 rF 32 x8 4 w fun x9=>
 rL 30 x9 w fun x10=>
 rN 30 3 x10 w fun x11=>
 oP (Instr.makeSlice 101 x11 x11) w fun x12 w=>
 cL 78 [a0,x12,a1] w fun x16 w=>
 R x12 w
def cfg241:Cfg:=⟨extL,[],[],[],[],[],[]⟩
theorem F241_call {a0 a1:Value} {w:World} {R:VW} (h:F241 a0 a1 w R):cL 241 [a0,a1] w R:=co (g:=cfg241) Tryz.func241 (by kernel_rfl) (by kernel_rfl) (by kernel_rfl) h
def F239 (a0 a1:Value) (w:World) (R:VW):Prop:=
 rB .geq 3 T0 U0 a1 (iV 0) w fun x6=>
 BR x6
 (NIL a0 <|
 rF 114 a0 0 w fun x11=>
 rF 32 x11 2 w fun x12=>
 rL 22 x12 w fun x13=>
 rN 22 3 x13 w fun x14=>
 rC a1 x14 w fun x15=>
 R x15 w)
 (R (Value.bool false) w)
def cfg239:Cfg:=⟨extL,[],[],[],[],[],[]⟩
theorem F239_call {a0 a1:Value} {w:World} {R:VW} (h:F239 a0 a1 w R):cL 239 [a0,a1] w R:=co (g:=cfg239) Tryz.func239 (by kernel_rfl) (by kernel_rfl) (by kernel_rfl) h
def F218 (a0 a1:Value) (w:World) (R:VW):Prop:=
 cL 239 [a0,a1] w fun x9 w=>
 rD (Op.unary .not x9) w fun x10=>
 BR x10
 (R (Value.bool false) w)
 (NIL a0 <|
 rF 114 a0 5 w fun x14=>
 rL 3 x14 w fun x15=>
 cL 116 [x15,a1] w fun x17 w=>
 rD (Op.unary .not x17) w fun x18=>
 BR x18
 (R (Value.bool false) w)
 (cL 139 [a0] w fun x21 w=>
 NIL a0 <|
 rF 114 a0 6 w fun x25=>
 rL 3 x25 w fun x26=>
 cL 240 [a0,x26,(iV 5),a1] w fun x28 w=>
 rB .eql 3 T0 T0 a1 x21 w fun x31=>
 BR x31
 (rN 23 3 x28 w fun x33=>
 rB .eql 3 T0 U0 x33 (iV 0) w fun x34=>
 R x34 w)
 ((fun w=>rN 23 3 x28 w fun x36=>
 rB .neq 3 T0 U0 x36 (iV 1) w fun x37=>
 BR x37
 (R (Value.bool false) w)
 (NIL a0 <|
 rF 114 a0 0 w fun x41=>
 rL 32 x41 w fun x42=>
 rX 23 x28 (iV 0) w fun x44=>
 rL 3 x44 w fun x45=>
 (fun w_=>cL 157 [x42,x45] w_ fun x46 w=>
 Ext w_ w ∧
 rB .neq 3 T0 T0 x46 x21 w fun x48=>
 BR x48
 (R (Value.bool false) w)
 (rX 23 x28 (iV 0) w fun x53=>
 rL 3 x53 w fun x54=>
 rX 23 x28 (iV 0) w fun x57=>
 rL 3 x57 w fun x58=>
 (fun w_=>cL 241 [a0,x54] w_ fun x55 w=>
 Ext w_ w ∧
 rX 101 x55 x58 w fun x59=>
 rL 4 x59 w fun x60=>
 BR x60
 (R (Value.bool false) w)
 ((fun w=>cL 218 [a0,x21] w fun x64 w=>
 BR x64
 (NIL a0 <|
 rF 114 a0 2 w fun x68=>
 rL 23 x68 w fun x69=>
 NIL a0 <|
 rF 114 a0 6 w fun x72=>
 rL 3 x72 w fun x73=>
 (fun w_=>cL 138 [x69,x73] w_ fun x74 w=>
 Ext w_ w ∧
 cL 116 [x74,x21] w fun x76 w=>
 rD (Op.unary .not x76) w fun x77=>
 R x77 w) w)
 (R (Value.bool false) w)) (World.drew1 w))) w)) w)) (World.drew1 w))))
def cfg218:Cfg:=⟨extL,[],[],[(7,[0,1,2,3,4,5,6,7,8,9,10,12,11,13,14,15,16,17,18,19,21,22,23,20,24,25,26],1050624),(9,[0,1,2,3,4,5,6,7,8,9,10,11,13,12,14,15,16,17],4096)],[],[],[]⟩
theorem F218_call {a0 a1:Value} {w:World} {R:VW} (h:F218 a0 a1 w R):cL 218 [a0,a1] w R:=co (g:=cfg218) Tryz.func218 (by kernel_rfl) (by kernel_rfl) (by kernel_rfl) h
open Rep (rep)
theorem zpM {W0 w:World} {b:Nat} {c:DCode} (h:At W0 b 0 c) (hx:Ext W0 w):KAt W0 w b c:=by
 obtain ⟨F,cs,hr,hc⟩:=h
 have hl:=Rep.len hr
 have hp:0<cs.length:=by rw [hl];exact Rep.pos
 have hc':=zbp hc hx
 refine ⟨F,cs,hr,hc',Decidable.byContradiction fun hn=>?_⟩
 have:=hc' 0 cs[0] (List.getElem?_eq_getElem hp)
 simp only [World.cell?] at this
 rw [Array.getElem?_eq_none (by omega)] at this
 cases this
theorem zo7 {w W0:World} {b a:Nat} {c:DCode} (hW:WAt W0 b c) (e0:Ext W0 w) (hc:CodeR c) (ha:a<c.ins.length) :
   CALL Tryz.prog 241 [.pointer (some ⟨b,0,none⟩),.int .i64 (a:Int)] w fun v w'=>Ext w w'∧Own w.heap.size w' v (zbE c.ins.length (RP (zav c) a)):=by
 refine F241_call ?_
 unfold F241
 have hil:=hc.f.ins
 refine NIL.mk rfl ?_
 refine zaa zaY ?_
 refine zaa zaD ?_
 refine zab zco (zai hW.wl.code) e0 fun v10 h10=>?_
 refine zaf u30 h10 ?_
 have hk0:=zpM hW.wl.code e0
 have hbl:=hk0.lt
 refine zc2 (by omega) (by omega) fun w1 hx1 hM1=>?_
 have hs1:=hx1.size
 have e0s:=e0.size
 refine (zjR (zpM hW.wl.code (e0.trans hx1)) (e0.trans hx1) hc rfl ha hM1 (by simp) (by omega) (by omega) fun i hi=>absurd hi zbl).mono ?_
 rintro _ w2 ⟨rfl,hc2,hM2⟩
 refine ⟨hx1.chgI hc2 (Nat.le_refl _),[w.heap.size],?_,fun b hb=>by simp at hb;omega⟩
 have:(zbE c.ins.length fun i=>mkd (List.replicate c.ins.length false) i∨RP (zav c) a i)=zbE c.ins.length (RP (zav c) a):=zbo fun i _=>⟨fun h=>h.resolve_left zbl,.inr⟩
 rw [←this];exact hM2
theorem zj5 {w W0:World} {b r:Nat} {c:DCode} (hW:WAt W0 b c) (e0:Ext W0 w) (hr:r<c.procs.length) :
   CALL Tryz.prog 239 [.pointer (some ⟨b,0,none⟩),.int .i64 (r:Int)] w fun v w'=>Ext w w'∧v=.bool true:=by
 refine F239_call ?_
 unfold F239
 refine zci ?_
 refine br (fun _=>?_) (fun h=>by omega)
 refine NIL.mk rfl ?_
 refine zaa zaY ?_
 refine zaa za1 ?_
 refine zab zbN (zap hW.wl.code) e0 fun v10 h10=>?_
 refine zaf u22 h10 ?_
 refine zah ?_
 exact ⟨Ext.refl _,by simp;omega⟩
def zmr (c:DCode) (r a:Nat):Prop:=zdo c r=[a]∧zar c a=(zbL c:Int)∧¬RP (zav c) a a∧zdo c (zbL c)=[]∧¬ ∃ p,UsedP c p∧zgM c p 4 (zbL c)
def zc8 (c:DCode) (r:Nat):Prop:=(r=zbL c∧zdo c r=[])∨(r≠zbL c∧∃ a,zmr c r a)
noncomputable instance (c:DCode) (r:Nat):Decidable (zc8 c r):=Classical.propDecidable _
theorem zdZ {c:DCode}:zc8 c (zbL c)↔zdo c (zbL c)=[]:=
 ⟨fun h=>h.elim (·.2) fun h=>absurd rfl h.1,fun h=>.inl ⟨rfl,h⟩⟩
theorem zgR {c:DCode} {r:Nat} (hr:r≠zbL c):zc8 c r↔∃ a,zmr c r a:=
 ⟨fun h=>h.elim (fun h=>absurd h.1 hr) (·.2),fun h=>.inr ⟨hr,h⟩⟩
theorem zj6 {l:List Nat}:((l.length:Int)=0)↔l=[]:=by
 rw [←List.length_eq_zero_iff];omega
theorem zj7 {c:DCode} {p:Nat}:(zcS c).testBit p=true↔p<c.procs.length∧UsedP c p:=zbU
theorem zie {c:DCode} {p:Nat}:(zbV c).testBit p=true↔p<c.procs.length∧RootP c p:=zbU
theorem zn3 {c:DCode} (hc:CodeR c) {p:Nat} (h:UsedP c p):p<c.procs.length:=by
 obtain ⟨r,hr,hf⟩:=h
 exact hf.lt (hr.lt hc)
theorem zms {c:DCode} (hc:CodeR c) {q:Nat} (hq:q<c.procs.length):(orL (cls c 4) (zbS (zcS c))).testBit q=true↔∃ p,UsedP c p∧zgM c p 4 q:=by
 have h8:=hc.1.procs8
 rw [zfW (m:=zcS c) (n:=c.procs.length) zho (by omega)]
 constructor
 · rintro ⟨i,h1,h2,h3⟩
   exact ⟨i,(zj7.1 h2).2,((zgn h1).1 h3).2⟩
 rintro ⟨i,h1,h2⟩
 have hi:=zn3 hc h1
 exact ⟨i,hi,zj7.2 ⟨hi,h1⟩,(zgn hi).2 ⟨hq,h2⟩⟩
theorem zif {w W0:World} {b:Nat} {c:DCode} (hW:WAt W0 b c) (e0:Ext W0 w) (hc:CodeR c) :
   CALL Tryz.prog 218 [.pointer (some ⟨b,0,none⟩),.int .i64 (zbL c:Nat)] w fun v w'=>Ext w w'∧v=.bool (decide (zc8 c (zbL c))):=by
 refine F218_call ?_
 unfold F218
 have h8:=hc.1.procs8
 have hml:=(zc5 hc).2
 have hr256:zbV c<256:=zaU h8.1
 refine (zj5 hW e0 hml).mono ?_
 rintro _ w1 ⟨hx1,rfl⟩
 refine za0 ?_
 refine zbI (fun h=>by cases h) (fun _=>?_)
 refine NIL.mk rfl ?_
 refine zaa zfe ?_
 refine zac ty3 hW.roots (e0.trans hx1) fun _=>?_
 refine (zdR (m:=zbV c) (i:=zbL c) (by omega) (by omega)).mono ?_
 rintro _ w2 ⟨hx2,rfl⟩
 rw [zie.2 ⟨hml,.main⟩]
 refine za0 ?_
 refine zbI (fun h=>by cases h) (fun _=>?_)
 have hx12:=hx1.trans hx2
 refine (zfs (hW.wl.code.ext (e0.trans hx12)) hc).mono ?_
 rintro _ w3 ⟨hx3,rfl⟩
 have hx13:=hx12.trans hx3
 refine NIL.mk rfl ?_
 refine zaa zff ?_
 refine zac ty3 hW.used (e0.trans hx13) fun _=>?_
 refine (zid (r:=zbL c) hW (e0.trans hx13) hc).mono ?_
 rintro v28 w4 ⟨hx4,ho4⟩
 refine zaq ?_
 refine br (fun _=>?_) (fun h=>absurd rfl h)
 refine zaf u23 ho4.is ?_
 refine zaq ?_
 rw [zae]
 exact ⟨hx13.trans hx4,by congr 1;rw [decide_eq_decide,zdZ,zj6]⟩
theorem zn4 {w W0:World} {b r:Nat} {c:DCode} (hW:WAt W0 b c) (e0:Ext W0 w) (hc:CodeR c) (hr:RootP c r) :
   CALL Tryz.prog 218 [.pointer (some ⟨b,0,none⟩),.int .i64 (r:Int)] w fun v w'=>Ext w w'∧v=.bool (decide (zc8 c r)):=by
 by_cases hm:r=zbL c
 · subst hm;exact zif hW e0 hc
 refine F218_call ?_
 unfold F218
 have h8:=hc.1.procs8
 have hml:=(zc5 hc).2
 have hrl:=hr.lt hc
 have hr256:zbV c<256:=zaU h8.1
 have hu256:zcS c<2^c.procs.length:=zho
 refine (zj5 hW e0 hrl).mono ?_
 rintro _ w1 ⟨hx1,rfl⟩
 refine za0 ?_
 refine zbI (fun h=>by cases h) (fun _=>?_)
 refine NIL.mk rfl ?_
 refine zaa zfe ?_
 refine zac ty3 hW.roots (e0.trans hx1) fun _=>?_
 refine (zdR (m:=zbV c) (i:=r) (by omega) (by omega)).mono ?_
 rintro _ w2 ⟨hx2,rfl⟩
 rw [zie.2 ⟨hrl,hr⟩]
 refine za0 ?_
 refine zbI (fun h=>by cases h) (fun _=>?_)
 have hx12:=hx1.trans hx2
 refine (zfs (hW.wl.code.ext (e0.trans hx12)) hc).mono ?_
 rintro _ w3 ⟨hx3,rfl⟩
 have hx13:=hx12.trans hx3
 refine NIL.mk rfl ?_
 refine zaa zff ?_
 refine zac ty3 hW.used (e0.trans hx13) fun _=>?_
 refine (zid (r:=r) hW (e0.trans hx13) hc).mono ?_
 rintro v28 w4' ⟨hx4,ho4⟩
 refine zaq ?_
 refine br (fun h=>absurd (by omega) hm) (fun _=>?_)
 have hxd:=zan w4'
 have hx14:=hx13.trans (hx4.trans hxd)
 have hS4:=ho4.is.ext hxd
 generalize World.drew1 w4'=w4 at *
 have hsm:=fun a (ha:a∈zdo c r)=>zic hc ha
 have hnot:(¬ ∃ a,zmr c r a)→Value.bool false=.bool (decide (zc8 c r)):=fun h=>by rw [decide_eq_false fun h2=>h ((zgR hm).1 h2)]
 refine zaf u23 hS4 ?_
 refine zaz ?_
 rw [zae]
 refine br (fun hne=>?_) (fun heq=>?_)
 · exact ⟨hx14,hnot fun ⟨a,h⟩=>hne (by rw [h.1];rfl)⟩
 have hl1:(zdo c r).length=1:=by have:=Decidable.not_not.1 heq;omega
 obtain ⟨a,ha⟩:∃ a,zdo c r=[a]:=List.length_eq_one_iff.1 hl1
 have hal:a<c.ins.length:=hsm a (by rw [ha];simp)
 rw [ha] at hS4
 have hget:∀ {w:World} {K:Value→Prop},Ext w4 w→(K (.int .i64 (a:Int)))→RD Tryz.prog (Instr.indexAt 23 v28 (.int .i64 0)) w fun x=>RD Tryz.prog (Instr.loadAt 3 x) w K:=fun hx kk=>by
   refine zad u23 ty3 (i:=0) hS4 (by simp [zaM]) fun b3 o3 hA3=>?_
   rw [show (zaM [a])[0]'(by simp [zaM])=(a:Int) from rfl] at hA3
   exact zac ty3 hA3 hx fun _=>kk
 have hone:∀ a',zmr c r a'→a'=a:=fun a' h=>by have:=h.1;rw [ha] at this;simpa using this.symm
 refine NIL.mk rfl ?_
 refine zaa zaY ?_
 refine zab zbu hW.wl.code (e0.trans hx14) fun v42 h42=>?_
 refine hget (Ext.refl _) ?_
 refine (zjM (a:=(a:Int)) h42 (e0.trans hx14) hc (by omega) (by omega)).mono ?_
 rintro _ w5 ⟨hx5,rfl⟩
 refine ⟨hx5,?_⟩
 have hx15:=hx14.trans hx5
 refine zaz ?_
 refine br (fun hne=>?_) (fun heq2=>?_)
 · exact ⟨hx15,hnot fun ⟨a',h⟩=>hne (by have:=hone a' h;subst this;exact h.2.1)⟩
 refine hget hx5 ?_
 refine hget hx5 ?_
 refine (zo7 (a:=a) hW (e0.trans hx15) hc hal).mono ?_
 rintro v55 w6 ⟨hx6,ho6⟩
 refine ⟨hx6,?_⟩
 have hx16:=hx15.trans hx6
 have hmk:=zaI (n:=c.ins.length) (p:=RP (zav c) a) (i:=a)
 rw [zaL (by rw [zak];exact hal)] at hmk
 refine zad zcm ty4 (i:=a) ho6.is (by rw [zak];exact hal) fun b8 o8 hA8=>?_
 refine zax ty4 hA8 (Ext.refl _) ?_
 refine zbI (fun hrp=>?_) (fun hrp=>?_)
 · exact ⟨hx16,hnot fun ⟨a',h⟩=>by have:=hone a' h;subst this;exact h.2.2.1 (hmk.1 hrp).2⟩
 have hnr:¬RP (zav c) a a:=fun h=>by rw [hmk.2 ⟨hal,h⟩] at hrp;cases hrp
 have hxd6:=zan w6
 have hx17:=hx16.trans hxd6
 generalize World.drew1 w6=w7 at *
 refine (zif hW (e0.trans hx17) hc).mono ?_
 rintro _ w8 ⟨hx8,rfl⟩
 have hx18:=hx17.trans hx8
 refine br (fun hsm=>?_) (fun hsm=>?_)
 case refine_2=>exact ⟨hx18,hnot fun ⟨a',h⟩=>hsm (zdZ.2 h.2.2.2.1)⟩
 refine NIL.mk rfl ?_
 refine zaa zis ?_
 refine zab zb6 hW.calls (e0.trans hx18) fun v69 h69=>?_
 refine NIL.mk rfl ?_
 refine zaa zff ?_
 refine zac ty3 hW.used (e0.trans hx18) fun _=>?_
 have hcl:∀ x∈cls c 4,x<256:=fun x hx=>by
   obtain ⟨p,_,rfl⟩:=List.mem_map.1 hx
   exact zaU h8.1
 refine (zeZ (m:=zcS c) h69 (e0.trans hx18) hcl (by rw [zeO];omega) (by rw [zeO];exact hu256)).mono ?_
 rintro _ w9 ⟨hx9,rfl⟩
 refine ⟨hx9,?_⟩
 have ho256:=zlC hcl (zbS (zcS c))
 refine (zdR (m:=orL (cls c 4) (zbS (zcS c))) (i:=zbL c) (by omega) (by omega)).mono ?_
 rintro _ w10 ⟨hx10,rfl⟩
 refine za0 ?_
 refine ⟨hx18.trans (hx9.trans hx10),?_⟩
 have hcb:=zms hc hml
 have:zc8 c r↔¬(orL (cls c 4) (zbS (zcS c))).testBit (zbL c)=true:=by
   rw [zgR hm,hcb]
   constructor
   · rintro ⟨a',h⟩;exact h.2.2.2.2
   intro h;exact ⟨a,ha,Decidable.not_not.1 heq2,hnr,zdZ.1 hsm,h⟩
 congr 1
 cases hb:(orL (cls c 4) (zbS (zcS c))).testBit (zbL c)
 · rw [decide_eq_true (this.2 (by rw [hb];simp))];rfl
 rw [decide_eq_false (fun h=>this.1 h hb)];rfl
def F153 (a0 a1:Value) (w:World) (R:VW):Prop:=
 oP (Instr.box 32 a0) w fun x2 w=>
 rL 32 x2 w fun x9=>
 cL 211 [x9] w fun x10 w=>
 rL 32 x2 w fun x11=>
 cL 213 [x11,a1] w fun x13 w=>
 rB .eql 3 T0 T0 a1 x10 w fun x16=>
 BR x16
 (rN 23 3 x13 w fun x18=>
 rB .eql 3 T0 U0 x18 (iV 0) w fun x19=>
 R x19 w)
 ((fun w=>rN 23 3 x13 w fun x21=>
 rB .neq 3 T0 U0 x21 (iV 1) w fun x22=>
 BR x22
 (R (Value.bool false) w)
 (rL 32 x2 w fun x24=>
 rX 23 x13 (iV 0) w fun x26=>
 rL 3 x26 w fun x27=>
 (fun w_=>cL 97 [x24,x27] w_ fun x28 w=>
 Ext w_ w ∧
 rB .neq 3 T0 T0 x28 x10 w fun x30=>
 BR x30
 (R (Value.bool false) w)
 (rL 32 x2 w fun x33=>
 rX 23 x13 (iV 0) w fun x35=>
 rL 3 x35 w fun x36=>
 rX 23 x13 (iV 0) w fun x39=>
 rL 3 x39 w fun x40=>
 (fun w_=>cL 214 [x33,x36] w_ fun x37 w=>
 Ext w_ w ∧
 rX 101 x37 x40 w fun x41=>
 rL 4 x41 w fun x42=>
 BR x42
 (R (Value.bool false) w)
 (rL 32 x2 w fun x45=>
 cL 153 [x45,x10] w fun x47 w=>
 rD (Op.unary .not x47) w fun x48=>
 BR x48
 (R (Value.bool false) w)
 (rL 32 x2 w fun x50=>
 cL 209 [x50] w fun x51 w=>
 LOOPI [8] [(iV 0)] w fun u9 w next9=>
 rF 32 x2 2 w fun x53=>
 rL 22 x53 w fun x54=>
 rN 22 3 x54 w fun x55=>
 rC (u9 8) x55 w fun x56=>
 BR x56
 (rX 101 x51 (u9 8) w fun x61=>
 rL 4 x61 w fun x62=>
 BR x62
 (rL 32 x2 w fun x64=>
 cL 212 [x64,(u9 8),(iV 4)] w fun x66 w=>
 cL 104 [x66,x10] w fun x68 w=>
 BR x68
 (R (Value.bool false) w)
 (rA (u9 8) (iV 1) w fun x58=>
 next9 [x58] w))
 (rA (u9 8) (iV 1) w fun x58=>
 next9 [x58] w))
 (R (Value.bool true) w)))) w)) w)) (World.drew1 w))
def cfg153:Cfg:=⟨extL,[],[(9,1180587117117783933200,[8])],[(5,[0,1,2,3,4,5,6,7,9,8,10,11,12,13,14,15,16,18,19,20,17,21,22,23,24,25,26,27,28,29],131328)],[],[],[]⟩
theorem F153_call {a0 a1:Value} {w:World} {R:VW} (h:F153 a0 a1 w R):cL 153 [a0,a1] w R:=co (g:=cfg153) Tryz.func153 (by kernel_rfl) (by kernel_rfl) (by kernel_rfl) h
def F161 (a0:Value) (w:World) (R:VW):Prop:=
 NIL a0 <|
 rF 114 a0 5 w fun x8=>
 rL 3 x8 w fun x9=>
 cL 66 [x9] w fun x10 w=>
 rN 23 3 x10 w fun x11=>
 LOOPI [3,12] [(iV 0),(iV 0)] w fun u3 w next3=>
 rC (u3 12) x11 w fun x13=>
 BR x13
 (rX 23 x10 (u3 12) w fun x14=>
 rL 3 x14 w fun x15=>
 cL 218 [a0,x15] w fun x18 w=>
 BR x18
 (rD (convert 3 121 x15) w fun x21=>
 rB .shl 3 U0 T0 (iV 1) x21 w fun x22=>
 rB .or 3 T0 T0 (u3 3) x22 w fun x23=>
 rA (u3 12) (iV 1) w fun x24=>
 next3 [x23,x24] w)
 (rA (u3 12) (iV 1) w fun x24=>
 next3 [(u3 3),x24] w))
 (R (u3 3) w)
def cfg161:Cfg:=⟨extL,[],[(3,33550376,[3,12])],[],[],[],[]⟩
theorem F161_call {a0:Value} {w:World} {R:VW} (h:F161 a0 w R):cL 161 [a0] w R:=co (g:=cfg161) Tryz.func161 (by kernel_rfl) (by kernel_rfl) (by kernel_rfl) h
def F160 (a0 a1:Value) (w:World) (R:VW):Prop:=
 NIL a0 <|
 rF 114 a0 0 w fun x10=>
 rL 32 x10 w fun x11=>
 cL 113 [x11,a1] w fun x13 w=>
 rD (Op.unary .not x13) w fun x14=>
 BR x14
 (R (iV 0) w)
 (NIL a0 <|
 rF 114 a0 1 w fun x18=>
 rL 101 x18 w fun x19=>
 rX 101 x19 a1 w fun x21=>
 rL 4 x21 w fun x22=>
 rD (Op.unary .not x22) w fun x23=>
 BR x23
 (R (iV 0) w)
 (NIL a0 <|
 rF 114 a0 5 w fun x27=>
 rL 3 x27 w fun x28=>
 cL 66 [x28] w fun x29 w=>
 rN 23 3 x29 w fun x30=>
 LOOPI [5,31] [(iV 0),(iV 0)] w fun u5 w next5=>
 rC (u5 31) x30 w fun x32=>
 BR x32
 (rX 23 x29 (u5 31) w fun x33=>
 rL 3 x33 w fun x34=>
 (fun w=>NIL a0 <|
 rF 114 a0 4 w fun x37=>
 rL 23 x37 w fun x38=>
 rX 23 x38 x34 w fun x40=>
 rL 3 x40 w fun x41=>
 NIL a0 <|
 rF 114 a0 0 w fun x44=>
 rL 32 x44 w fun x45=>
 (fun w_=>cL 157 [x45,a1] w_ fun x47 w=>
 Ext w_ w ∧
 cL 116 [x41,x47] w fun x48 w=>
 BR x48
 (rD (convert 3 121 x34) w fun x51=>
 rB .shl 3 U0 T0 (iV 1) x51 w fun x52=>
 rB .or 3 T0 T0 (u5 5) x52 w fun x53=>
 rA (u5 31) (iV 1) w fun x54=>
 next5 [x53,x54] w)
 (rA (u5 31) (iV 1) w fun x54=>
 next5 [(u5 5),x54] w)) w) (World.drew1 w))
 (R (u5 5) w)))
def cfg160:Cfg:=⟨extL,[],[(5,36028794871480480,[5,31])],[(7,[0,1,2,3,4,5,6,7,8,9,10,11,12,13],4096)],[],[],[]⟩
theorem F160_call {a0 a1:Value} {w:World} {R:VW} (h:F160 a0 a1 w R):cL 160 [a0,a1] w R:=co (g:=cfg160) Tryz.func160 (by kernel_rfl) (by kernel_rfl) (by kernel_rfl) h
open Rep (rep)
theorem zfZ {w W0:World} {v0:Value} {c:DCode} (h0:Is W0 v0 c) (e0:Ext W0 w) (hc:CodeR c) :
   CALL Tryz.prog 153 [v0,.int .i64 (zbL c:Nat)] w fun v w'=>Ext w w'∧v=.bool (decide (zc8 c (zbL c))):=by
 refine F153_call ?_
 unfold F153
 have hml:=zc5 hc
 refine zbq h0 e0 fun w1 hx1 hA=>?_
 refine zab zbu hA (Ext.refl _) fun v9 h9=>?_
 refine (zeY h9 (Ext.refl _)).mono ?_
 rintro _ w2 ⟨hx2,rfl⟩
 rw [hml.1]
 refine zab zbu hA hx2 fun v11 h11=>?_
 refine (zgy (r:=zbL c) h11 hx2 hc).mono ?_
 rintro v13 w3 ⟨hx3,ho3⟩
 refine zaq ?_
 refine br (fun _=>?_) (fun h=>absurd rfl h)
 refine zaf u23 ho3.is ?_
 refine zaq ?_
 rw [zae]
 exact ⟨hx1.trans (hx2.trans hx3),by congr 1;rw [decide_eq_decide,zdZ,zj6]⟩
theorem zj8 {w W0:World} {v0:Value} {r:Nat} {c:DCode} (h0:Is W0 v0 c) (e0:Ext W0 w) (hc:CodeR c) :
   CALL Tryz.prog 153 [v0,.int .i64 (r:Int)] w fun v w'=>Ext w w'∧v=.bool (decide (zc8 c r)):=by
 by_cases hm:r=zbL c
 · subst hm;exact zfZ h0 e0 hc
 refine F153_call ?_
 unfold F153
 have h8:=hc.1.procs8
 have he:=hc.2.1.1
 have hml:=zc5 hc
 refine zbq h0 e0 fun w1 hx1 hA=>?_
 refine zab zbu hA (Ext.refl _) fun v9 h9=>?_
 refine (zeY h9 (Ext.refl _)).mono ?_
 rintro _ w2 ⟨hx2,rfl⟩
 rw [hml.1]
 refine zab zbu hA hx2 fun v11 h11=>?_
 refine (zgy (r:=r) h11 hx2 hc).mono ?_
 rintro v28 w3 ⟨hx3,ho3⟩
 refine zaq ?_
 refine br (fun h=>absurd (by omega) hm) (fun _=>?_)
 have hxd:=zan w3
 have hx14:=hx2.trans (hx3.trans hxd)
 have hS4:=ho3.is.ext hxd
 generalize World.drew1 w3=w4 at *
 have hsm:=fun a (ha:a∈zdo c r)=>zic hc ha
 have hnot:(¬ ∃ a,zmr c r a)→Value.bool false=.bool (decide (zc8 c r)):=fun h=>by rw [decide_eq_false fun h2=>h ((zgR hm).1 h2)]
 refine zaf u23 hS4 ?_
 refine zaz ?_
 rw [zae]
 refine br (fun hne=>?_) (fun heq=>?_)
 · exact ⟨hx1.trans hx14,hnot fun ⟨a,h⟩=>hne (by rw [h.1];rfl)⟩
 have hl1:(zdo c r).length=1:=by have:=Decidable.not_not.1 heq;omega
 obtain ⟨a,ha⟩:∃ a,zdo c r=[a]:=List.length_eq_one_iff.1 hl1
 have hal:a<c.ins.length:=hsm a (by rw [ha];simp)
 rw [ha] at hS4
 have hget:∀ {w:World} {K:Value→Prop},Ext w4 w→(K (.int .i64 (a:Int)))→RD Tryz.prog (Instr.indexAt 23 v28 (.int .i64 0)) w fun x=>RD Tryz.prog (Instr.loadAt 3 x) w K:=fun hx kk=>by
   refine zad u23 ty3 (i:=0) hS4 (by simp [zaM]) fun b3 o3 hA3=>?_
   rw [show (zaM [a])[0]'(by simp [zaM])=(a:Int) from rfl] at hA3
   exact zac ty3 hA3 hx fun _=>kk
 have hone:∀ a',zmr c r a'→a'=a:=fun a' h=>by have:=h.1;rw [ha] at this;simpa using this.symm
 refine zab zbu hA hx14 fun v24 h24=>?_
 refine hget (Ext.refl _) ?_
 refine (zdO (a:=(a:Int)) h24 hx14).mono ?_
 rintro _ w5 ⟨hx5,rfl⟩
 refine ⟨hx5,?_⟩
 have hx15:=hx14.trans hx5
 refine zaz ?_
 refine br (fun hne=>?_) (fun heq2=>?_)
 · exact ⟨hx1.trans hx15,hnot fun ⟨a',h⟩=>hne (by have:=hone a' h;subst this;exact h.2.1)⟩
 refine zab zbu hA hx15 fun v33 h33=>?_
 refine hget hx5 ?_
 refine hget hx5 ?_
 refine (zkC (a:=a) h33 hx15 hc hal).mono ?_
 rintro v55 w6 ⟨hx6,ho6⟩
 refine ⟨hx6,?_⟩
 have hx16:=hx15.trans hx6
 have hmk:=zaI (n:=c.ins.length) (p:=RP (zav c) a) (i:=a)
 rw [zaL (by rw [zak];exact hal)] at hmk
 refine zad zcm ty4 (i:=a) ho6.is (by rw [zak];exact hal) fun b8 o8 hA8=>?_
 refine zax ty4 hA8 (Ext.refl _) ?_
 refine zbI (fun hrp=>?_) (fun hrp=>?_)
 · exact ⟨hx1.trans hx16,hnot fun ⟨a',h⟩=>by have:=hone a' h;subst this;exact h.2.2.1 (hmk.1 hrp).2⟩
 have hnr:¬RP (zav c) a a:=fun h=>by rw [hmk.2 ⟨hal,h⟩] at hrp;cases hrp
 refine zab zbu hA hx16 fun v45 h45=>?_
 refine (zfZ h45 hx16 hc).mono ?_
 rintro _ w8 ⟨hx8,rfl⟩
 have hx18:=hx16.trans hx8
 refine zaA ?_
 refine br (fun hsm=>?_) (fun hsm=>?_)
 · exact ⟨hx1.trans hx18,hnot fun ⟨a',h⟩=>hsm (zdZ.2 h.2.2.2.1)⟩
 have hsm':=Decidable.not_not.1 hsm
 refine zab zbu hA hx18 fun v50 h50=>?_
 refine (ze1 h50 hx18 hc).mono ?_
 rintro v51 w9 ⟨hx9,ho9⟩
 have hx19:=hx18.trans hx9
 refine zas c.procs.length (fun k us w'=>us=[.int .i64 (k:Int)]∧k≤c.procs.length∧Ext w9 w'∧∀ p,p<k→UsedP c p→¬zgM c p 4 (zbL c)) 0 (Nat.zero_le _) ⟨rfl,Nat.zero_le _,Ext.refl _,fun p h=>by omega⟩ ?_
 rintro p mk u w10 hkm ⟨hu,hkl,hx10,hD⟩
 simp only [List.map_cons,List.map_nil,List.cons.injEq,and_true] at hu
 rw [hu]
 have hx110:=hx19.trans hx10
 refine zaa za1 ?_
 refine zab zbN (zap hA) hx110 fun v54 h54=>?_
 refine zaf u22 h54 ?_
 refine zah ?_
 refine br (fun hlt=>?_) (fun hge=>?_)
 case refine_2=>
   have:zc8 c r:=(zgR hm).2 ⟨a,ha,Decidable.not_not.1 heq2,hnr,zdZ.1 hsm',fun ⟨p,h1,h2⟩=>hD p (by have:=zn3 hc h1;omega) h1 h2⟩
   exact ⟨hx1.trans hx110,by rw [decide_eq_true this]⟩
 have hp:p<c.procs.length:=by omega
 have hnext:(UsedP c p→¬zgM c p 4 (zbL c))→∀ q,q<p+1→UsedP c q→¬zgM c q 4 (zbL c):=fun h q hq=>by
   by_cases e:q=p
   · subst e;exact h
   exact hD q (by omega)
 have hmu:=zaI (n:=c.procs.length) (p:=UsedP c) (i:=p)
 rw [zaL (by rw [zak];exact hp)] at hmu
 refine zad zcm ty4 (i:=p) ho9.is (by rw [zak];exact hp) fun b11 o11 hA11=>?_
 refine zax ty4 hA11 hx10 ?_
 refine zbI (fun hf=>?_) (fun hf=>?_)
 case refine_2=>
   refine zag (by omega) ?_
   exact ⟨mk-1,by omega,p+1,by omega,rfl,by omega,hx10,hnext fun h=>by rw [hmu.2 ⟨hp,h⟩] at hf;cases hf⟩
 have hU:=(hmu.1 hf).2
 refine zab zbu hA hx110 fun v64 h64=>?_
 refine (zhq (p:=p) h64 hx110 hc (by rw [he];exact hp) (.inl rfl)).mono ?_
 rintro v66 w11 ⟨hx11,ho11⟩
 refine (zn2 (y:=(zbL c:Nat)) ho11.is (Ext.refl _)).mono ?_
 rintro _ w12 ⟨hx12,rfl⟩
 have hx112:=hx110.trans (hx11.trans hx12)
 have hin:((zbL c:Nat):Int)∈zaM (zbd c.procs.length (zgM c p 4))↔zgM c p 4 (zbL c):=by
   unfold zaM
   rw [List.mem_map]
   constructor
   · rintro ⟨x,hx,e⟩
     have:x=zbL c:=by omega
     subst this;exact (zaQ.1 hx).2
   intro h;exact ⟨_,zaQ.2 ⟨hml.2,h⟩,rfl⟩
 refine br (fun hy=>?_) (fun hno=>?_)
 · exact ⟨hx1.trans hx112,hnot fun ⟨a',h⟩=>h.2.2.2.2 ⟨p,hU,hin.1 hy⟩⟩
 refine zag (by omega) ?_
 exact ⟨mk-1,by omega,p+1,by omega,rfl,by omega,hx10.trans (hx11.trans hx12),hnext fun _ h=>hno (hin.2 h)⟩
noncomputable def zk2 (c:DCode):Nat:=zf1 (fun r=>RootP c r∧zc8 c r) c.procs.length
def RtP (c:DCode) (i r:Nat):Prop:=zdE c i∧RootP c r∧FromP c r (zar c i).toNat
noncomputable def rtN (c:DCode) (i:Nat):Nat:=zf1 (RtP c i) c.procs.length
theorem zn5 {c:DCode} (hc:CodeR c) (i:Nat):rtN c i<256:=zaU hc.1.procs8.1
theorem zo8 {c:DCode} (hc:CodeR c):zk2 c<256:=zaU hc.1.procs8.1
def AccB (U:List Nat) (P:Nat→Prop) (k m:Nat):Prop:=m<256∧∀ r,m.testBit r=true↔r∈U.take k∧P r
theorem AccB.yes {U:List Nat} {P:Nat→Prop} {k m:Nat} (h:AccB U P k m) (hk:k<U.length) (h8:U[k]<8) (hp:P U[k]):AccB U P (k+1) (m ||| 2^U[k]):=by
 refine ⟨Nat.or_lt_two_pow (n:=8) h.1 (Nat.pow_lt_pow_right (by omega) h8),fun r=>?_⟩
 rw [Nat.testBit_or,Bool.or_eq_true,h.2,za6 hk,Nat.testBit_two_pow,decide_eq_true_eq]
 constructor
 · rintro (⟨h1,h2⟩ | rfl)
   · exact ⟨.inl h1,h2⟩
   exact ⟨.inr rfl,hp⟩
 rintro ⟨h1 | rfl,h2⟩
 · exact .inl ⟨h1,h2⟩
 exact .inr rfl
theorem AccB.no {U:List Nat} {P:Nat→Prop} {k m:Nat} (h:AccB U P k m) (hk:k<U.length) (hp:¬P U[k]):AccB U P (k+1) m:=by
 refine ⟨h.1,fun r=>?_⟩
 rw [h.2,za6 hk]
 constructor
 · rintro ⟨h1,h2⟩;exact ⟨.inl h1,h2⟩
 rintro ⟨h1 | rfl,h2⟩
 · exact ⟨h1,h2⟩
 exact absurd h2 hp
theorem AccB.fin {n:Nat} {Q P:Nat→Prop} {k m:Nat} (h:AccB (zbd n Q) P k m) (hk:(zbd n Q).length≤k):m=zf1 (fun r=>Q r∧P r) n:=by
 refine zec fun r=>?_
 rw [h.2,List.take_of_length_le hk,zaQ]
 exact ⟨fun ⟨⟨a,b⟩,d⟩=>⟨a,b,d⟩,fun ⟨a,b,d⟩=>⟨⟨a,b⟩,d⟩⟩
theorem AccB.start (U:List Nat) (P:Nat→Prop):AccB U P 0 0:=⟨by omega,fun r=>by simp⟩
theorem zmt {w W0:World} {b:Nat} {c:DCode} (hW:WAt W0 b c) (e0:Ext W0 w) (hc:CodeR c) :
   CALL Tryz.prog 161 [.pointer (some ⟨b,0,none⟩)] w fun v w'=>Ext w w'∧v=.int .i64 (zk2 c:Nat):=by
 refine F161_call ?_
 unfold F161
 have h8:=hc.1.procs8
 have hr256:zbV c<256:=zaU h8.1
 refine NIL.mk rfl ?_
 refine zaa zfe ?_
 refine zac ty3 hW.roots e0 fun _=>?_
 refine (zcK (m:=zbV c) (by omega)).mono ?_
 rintro v10 w1 ⟨hx1,ho1⟩
 unfold zbV at ho1
 rw [zcx (by omega)] at ho1
 refine zaf u23 ho1.is ?_
 rw [zae]
 have hUl:=zaZ (n:=c.procs.length) (p:=RootP c)
 have hUm:∀ r∈zbd c.procs.length (RootP c),r<c.procs.length∧RootP c r:=fun r hr=>zaQ.1 hr
 have hfin:∀ {k m},AccB (zbd c.procs.length (RootP c)) (zc8 c) k m→(zbd c.procs.length (RootP c)).length≤k→m=zk2 c:=fun h hk=>h.fin hk
 generalize zbd c.procs.length (RootP c)=U at *
 refine zas U.length (fun k us w'=>∃ m:Nat,us=[.int .i64 (m:Int),.int .i64 (k:Int)]∧k≤U.length∧Ext w1 w'∧AccB U (zc8 c) k m) 0 (Nat.zero_le _) ⟨0,rfl,Nat.zero_le _,Ext.refl _,AccB.start _ _⟩ ?_
 rintro k mk u w2 hkm ⟨m,hu,hkl,hx2,hB⟩
 obtain ⟨hu1,hu2⟩:=zb9 hu
 rw [hu1,hu2]
 refine zah ?_
 refine br (fun hlt=>?_) (fun hge=>?_)
 case refine_2=>
   rw [hfin hB (by omega)]
   exact ⟨hx1.trans hx2,rfl⟩
 have hk:k<U.length:=by omega
 obtain ⟨hrl,hrR⟩:=hUm U[k] (List.getElem_mem _)
 refine zad u23 ty3 (i:=k) ho1.is (by rw [zae];exact hk) fun b3 o3 hA3=>?_
 rw [zaK] at hA3
 have hyes:=fun hp=>hB.yes hk (by omega) hp
 have hno:=fun hp=>hB.no hk hp
 generalize U[k]=r at *
 refine zac ty3 hA3 hx2 fun _=>?_
 have hm256:=hB.1
 refine (zn4 (r:=r) hW (e0.trans (hx1.trans hx2)) hc hrR).mono ?_
 rintro _ w3 ⟨hx3,rfl⟩
 refine br (fun hs=>?_) (fun hs=>?_)
 · refine zcP (by kernel_rfl) zmD (by omega) ?_
   refine zdA (by omega) ?_
   have:2^r<256:=Nat.pow_lt_pow_right (m:=r) (n:=8) (by omega) (by omega)
   refine zfd (by omega) (by omega) ?_
   refine zag (by omega) ?_
   exact ⟨mk-1,by omega,k+1,by omega,m ||| 2^r,rfl,by omega,hx2.trans hx3,hyes hs⟩
 refine zag (by omega) ?_
 exact ⟨mk-1,by omega,k+1,by omega,m,rfl,by omega,hx2.trans hx3,hno hs⟩
theorem zmu {w W0:World} {b i:Nat} {c:DCode} (hW:WAt W0 b c) (e0:Ext W0 w) (hc:CodeR c) (hi:i<c.ins.length) :
   CALL Tryz.prog 160 [.pointer (some ⟨b,0,none⟩),.int .i64 (i:Int)] w fun v w'=>Ext w w'∧v=.int .i64 (rtN c i:Nat):=by
 refine F160_call ?_
 unfold F160
 have h8:=hc.1.procs8
 have hr256:zbV c<256:=zaU h8.1
 obtain ⟨q,hq,hpq,_⟩:=zcN hc hi
 refine NIL.mk rfl ?_
 refine zaa zaY ?_
 refine zab zbu hW.wl.code e0 fun v11 h11=>?_
 refine (zmh (a:=(i:Int)) h11 e0).mono ?_
 rintro _ w1 ⟨hx1,rfl⟩
 refine zaA ?_
 refine br (fun h=>absurd ⟨by omega,by omega⟩ h) (fun _=>?_)
 refine NIL.mk rfl ?_
 refine zaa zir ?_
 refine zab zcq hW.wl.live (e0.trans hx1) fun v19 h19=>?_
 have hmk:=zaI (n:=c.ins.length) (p:=zdE c) (i:=i)
 rw [zaL (by rw [zak];exact hi)] at hmk
 refine zad zcm ty4 (i:=i) h19 (by rw [zak];exact hi) fun b2 o2 hA2=>?_
 refine zax ty4 hA2 (e0.trans hx1) ?_
 refine za0 ?_
 refine zbI (fun hf=>?_) (fun hf=>?_)
 · have hnl:¬zdE c i:=fun h=>by rw [hmk.2 ⟨hi,h⟩] at hf;cases hf
   have:rtN c i=0:=(zec (m:=0) fun r=>by simp;exact fun _ h=>hnl h.1).symm
   rw [this]
   exact ⟨hx1,rfl⟩
 have hL:zdE c i:=(hmk.1 (by simpa using hf)).2
 refine NIL.mk rfl ?_
 refine zaa zfe ?_
 refine zac ty3 hW.roots (e0.trans hx1) fun _=>?_
 refine (zcK (m:=zbV c) (by omega)).mono ?_
 rintro v29 w2 ⟨hx2,ho2⟩
 unfold zbV at ho2
 rw [zcx (by omega)] at ho2
 refine zaf u23 ho2.is ?_
 rw [zae]
 have hUl:=zaZ (n:=c.procs.length) (p:=RootP c)
 have hUm:∀ r∈zbd c.procs.length (RootP c),r<c.procs.length∧RootP c r:=fun r hr=>zaQ.1 hr
 have hfin:∀ {k m},AccB (zbd c.procs.length (RootP c)) (fun r=>FromP c r q) k m→(zbd c.procs.length (RootP c)).length≤k→m=rtN c i:=fun h hk=>by
   rw [h.fin hk]
   unfold rtN
   refine zcw fun r _=>?_
   unfold RtP
   rw [hpq]
   exact ⟨fun h=>⟨hL,h.1,h.2⟩,fun h=>h.2⟩
 generalize zbd c.procs.length (RootP c)=U at *
 have hx02:=hx1.trans hx2
 refine zas U.length (fun k us w'=>∃ m:Nat,us=[.int .i64 (m:Int),.int .i64 (k:Int)]∧k≤U.length∧Ext w2 w'∧AccB U (fun r=>FromP c r q) k m) 0 (Nat.zero_le _) ⟨0,rfl,Nat.zero_le _,Ext.refl _,AccB.start _ _⟩ ?_
 rintro k mk u w3 hkm ⟨m,hu,hkl,hx3,hB⟩
 obtain ⟨hu1,hu2⟩:=zb9 hu
 rw [hu1,hu2]
 refine zah ?_
 refine br (fun hlt=>?_) (fun hge=>?_)
 case refine_2=>
   rw [hfin hB (by omega)]
   exact ⟨hx02.trans hx3,rfl⟩
 have hk:k<U.length:=by omega
 obtain ⟨hrl,hrR⟩:=hUm U[k] (List.getElem_mem _)
 refine zad u23 ty3 (i:=k) ho2.is (by rw [zae];exact hk) fun b4 o4 hA4=>?_
 rw [zaK] at hA4
 have hyes:=fun hp=>hB.yes hk (by omega) hp
 have hno:=fun hp=>hB.no hk hp
 generalize U[k]=r at *
 refine zac ty3 hA4 hx3 fun _=>?_
 have hm256:=hB.1
 have hxd:=zan w3
 have hx23:=hx3.trans hxd
 generalize World.drew1 w3=w4 at *
 have e4:=e0.trans (hx02.trans hx23)
 refine NIL.mk rfl ?_
 refine zaa zg1 ?_
 refine zab zb6 hW.frm e4 fun v38 h38=>?_
 refine zad u23 ty3 (i:=r) h38 (by rw [zae,zgm];exact hrl) fun b5 o5 hA5=>?_
 rw [zaJ] at hA5
 refine zac ty3 hA5 e4 fun _=>?_
 refine NIL.mk rfl ?_
 refine zaa zaY ?_
 refine zab zbu hW.wl.code e4 fun v45 h45=>?_
 refine (zjM (a:=(i:Int)) h45 e4 hc (by omega) (by omega)).mono ?_
 rintro _ w5 ⟨hx5,rfl⟩
 refine ⟨hx5,?_⟩
 rw [hpq]
 have hfb:=zkP (c:=c) (r:=q) hrl
 have hf256:zau (frs c) r<256:=by rw [zlI hrl];exact zaU h8.1
 refine (zdR (m:=zau (frs c) r) (i:=q) (by omega) (by omega)).mono ?_
 rintro _ w6 ⟨hx6,rfl⟩
 have hx26:=hx23.trans (hx5.trans hx6)
 refine zbI (fun hs=>?_) (fun hs=>?_)
 · refine zcP (by kernel_rfl) zmD (by omega) ?_
   refine zdA (by omega) ?_
   have:2^r<256:=Nat.pow_lt_pow_right (m:=r) (n:=8) (by omega) (by omega)
   refine zfd (by omega) (by omega) ?_
   refine zag (by omega) ?_
   exact ⟨mk-1,by omega,k+1,by omega,m ||| 2^r,rfl,by omega,hx26,hyes (hfb.1 hs).2⟩
 refine zag (by omega) ?_
 exact ⟨mk-1,by omega,k+1,by omega,m,rfl,by omega,hx26,hno fun h=>by rw [hfb.2 ⟨hq,h⟩] at hs;cases hs⟩
end Go.Proofs.YtifonhplnmpgaaaGreat
namespace Go.Proofs.YtifonhplnmpgaaaGreat
open Go Go.Sh Go.Proofs Go.Sort
open Rep (rep)
structure DOrder where
 fr:Int
 to:Int
 at_:Int
theorem DOrder.ext_iff {x y:DOrder}:x=y↔(x.fr=y.fr∧x.to=y.to∧x.at_=y.at_):=⟨fun h=>by rw [h];exact ⟨rfl,rfl,rfl⟩,fun h=>by obtain ⟨h0,h1,h2⟩:=h;cases x;cases y;simp only at h0 h1 h2;simp only [h0,h1,h2]⟩
instance:DecidableEq DOrder:=fun x y=>decidable_of_iff (x.fr=y.fr∧x.to=y.to∧x.at_=y.at_) DOrder.ext_iff.symm
instance:Rep DOrder:=Rep.via fun x=>(x.fr,x.to,x.at_)
instance:RepZ DOrder:=⟨⟨(RepZ.zv:Int),(RepZ.zv:Int),(RepZ.zv:Int)⟩,RepZ.zc (Int×Int×Int),fun w=>RepZ.zr (α:=Int×Int×Int) w⟩
instance:Flat DOrder:=⟨fun h=>Flat.flat (α:=Int×Int×Int) h⟩
def ltO (x y:DOrder):Prop:=x.fr<y.fr∨(x.fr=y.fr∧(x.to<y.to∨(x.to=y.to∧x.at_<y.at_)))
instance (x y:DOrder):Decidable (ltO x y):=by unfold ltO;infer_instance
instance:Inhabited DOrder:=⟨⟨0,0,0⟩⟩
theorem MayP.locks {c:DCode} (hc:CodeR c) {i l:Nat} (h:MayP c i l):l<c.locks.length:=by
 induction h with
 | lock hm ho ha hj=>subst ha;exact (zeg hc (hm.lt hc) (.inl ho)).2.1
 | pass _ _ _ _ _ ih=>exact ih
 | call _ _ _ ih=>exact ih
 | back _ _ _ _ _ ih=>exact ih
open Classical in
open Classical in
def F159 (a0:Value) (w:World) (R:VW):Prop:=
 rN 101 3 a0 w fun x7=>
 LOOPI [3,8] [(Value.slice none 0 0),(iV 0)] w fun u3 w next3=>
 rC (u3 8) x7 w fun x9=>
 BR x9
 (rX 101 a0 (u3 8) w fun x11=>
 rL 4 x11 w fun x12=>
 BR x12
 (oP (Instr.buildSlice 23 1 #[(0,(u3 8))]) w fun x16 w=>
 oP (Builtin.append_ #[23,23] 23 [(u3 3),x16].toArray) w fun x17 w=>
 rA (u3 8) (iV 1) w fun x18=>
 next3 [x17,x18] w)
 (rA (u3 8) (iV 1) w fun x18=>
 next3 [(u3 3),x18] w))
 (R (u3 3) w)
def cfg159:Cfg:=⟨extL,[],[(3,524088,[3,8])],[],[],[],[]⟩
theorem F159_call {a0:Value} {w:World} {R:VW} (h:F159 a0 w R):cL 159 [a0] w R:=co (g:=cfg159) Tryz.func159 (by kernel_rfl) (by kernel_rfl) (by kernel_rfl) h
open Rep (rep)
theorem zn6 {w W0:World} {v0:Value} {ms:List Bool} (h0:Is W0 v0 ms) (e0:Ext W0 w) (hn:ms.length≤2000000) :
   CALL Tryz.prog 159 [v0] w fun r w'=>Ext w w'∧Own w.heap.size w' r (zaM (zoQ ms ms.length)):=by
 refine F159_call ?_
 unfold F159
 refine zaf zcm h0 ?_
 refine zas ms.length (fun k us w'=>∃ (v:Value),us=[v,.int .i64 (k:Int)]∧k≤ms.length∧Ext w w'∧RowI w.heap.size w'.heap.size 3 w' v (zaM (zoQ ms k))) 0 (Nat.zero_le _) ⟨_,rfl,Nat.zero_le _,Ext.refl _,zc0 _ _ _ _⟩ ?_
 rintro k mk u w2 hkm ⟨v,hu,hkl,hx2,hr2⟩
 obtain ⟨hu1,hu2⟩:=zb9 hu
 rw [hu1,hu2]
 refine zah ?_
 refine br (fun hlt=>?_) (fun hge=>?_)
 case refine_2=>
   have:k=ms.length:=by omega
   rw [this] at hr2
   exact ⟨hx2,hr2.own.own⟩
 have hk:k<ms.length:=by omega
 have hs2:=hx2.size
 have hg:ms.getD k false=ms[k]:=by rw [List.getD_eq_getElem?_getD,List.getElem?_eq_getElem hk];rfl
 have hil:=zly ms k
 refine zad zcm ty4 h0 hk fun b2 o2 hA2=>?_
 refine zax ty4 hA2 (e0.trans hx2) ?_
 refine zbI (fun hf=>?_) (fun hf=>?_)
 · refine zcb (lo2:=w2.heap.size) (hi2:=w2.heap.size) (x:=(k:Int)) u23 ty3 z3 zc3 (by decide) hr2 hs2 (ownI_int _ _ (by unfold I64;omega)) (Nat.le_refl _) hs2 (by rw [zao,zae];omega) (by rw [zae];omega) fun v54 w9 hc9 hr9=>?_
   refine zag (by omega) ?_
   refine ⟨mk-1,by omega,k+1,by omega,v54,rfl,by omega,hx2.chgI hc9 (Nat.le_refl _),?_⟩
   rw [zfQ,hg,hf,if_pos rfl,zcc]
   exact hr9
 refine zag (by omega) ?_
 refine ⟨mk-1,by omega,k+1,by omega,v,rfl,by omega,hx2,?_⟩
 rw [zfQ,hg,hf]
 simpa using hr2
def F109 (a0 a1 a2:Value) (w:World) (R:VW):Prop:=
 rB .eql 3 T0 U0 a0 (iV 0) w fun x8=>
 BR x8
 (R (Value.bool false) w)
 (rB .eql 3 T0 U0 a1 (iV 0) w fun x11=>
 BR x11
 (R (Value.bool false) w)
 (rB .and 3 T0 T0 a0 a1 w fun x15=>
 rB .andNot 3 T0 T0 x15 a2 w fun x17=>
 rB .neq 3 T0 U0 x17 (iV 0) w fun x18=>
 BR x18
 (R (Value.bool true) w)
 (rB .neq 3 T0 T0 a0 a1 w fun x22=>
 BR x22
 (R (Value.bool true) w)
 (rB .sub 3 T0 U0 a0 (iV 1) w fun x27=>
 rB .and 3 T0 T0 a0 x27 w fun x28=>
 rB .neq 3 T0 U0 x28 (iV 0) w fun x29=>
 R x29 w))))
def cfg109:Cfg:=⟨extL,[],[],[],[],[],[]⟩
theorem F109_call {a0 a1 a2:Value} {w:World} {R:VW} (h:F109 a0 a1 a2 w R):cL 109 [a0,a1,a2] w R:=co (g:=cfg109) Tryz.func109 (by kernel_rfl) (by kernel_rfl) (by kernel_rfl) h
def F107 (a0:Value) (w:World) (R:VW):Prop:=
 NIL a0 <|
 rF 114 a0 0 w fun x8=>
 rF 32 x8 4 w fun x9=>
 rL 30 x9 w fun x10=>
 rN 30 3 x10 w fun x11=>
 oP (Instr.makeSlice 23 x11 x11) w fun x12 w=>
 rN 23 3 x12 w fun x14=>
 LOOPI [15] [(iV 0)] w fun u3 w next3=>
 rC (u3 15) x14 w fun x16=>
 BR x16
 (cL 160 [a0,(u3 15)] w fun x22 w=>
 rX 23 x12 (u3 15) w fun x23=>
 oS 3 x23 x22 w fun w=>
 rA (u3 15) (iV 1) w fun x24=>
 next3 [x24] w)
 (cL 161 [a0] w fun x27 w=>
 R (Value.tuple #[x12,x27]) w)
def cfg107:Cfg:=⟨extL,[],[(3,33521696,[15])],[],[],[],[]⟩
theorem F107_call {a0:Value} {w:World} {R:VW} (h:F107 a0 w R):cL 107 [a0] w R:=co (g:=cfg107) Tryz.func107 (by kernel_rfl) (by kernel_rfl) (by kernel_rfl) h
def F106 (a0:Value) (w:World) (R:VW):Prop:=
 cL 158 [a0] w fun x8 w=>
 cL 86 [a0] w fun x10 w=>
 cL 159 [x10] w fun x11 w=>
 rN 23 3 x11 w fun x12=>
 LOOPI [4,13] [(Value.slice none 0 0),(iV 0)] w fun u4 w next4=>
 rC (u4 13) x12 w fun x14=>
 BR x14
 (rX 23 x11 (u4 13) w fun x15=>
 rL 3 x15 w fun x16=>
 (fun w=>NIL a0 <|
 rF 114 a0 0 w fun x20=>
 rL 32 x20 w fun x21=>
 rX 23 x8 x16 w fun x25=>
 rL 3 x25 w fun x26=>
 (fun w_=>cL 114 [x21,x16,x26] w_ fun x27 w=>
 Ext w_ w ∧
 oP (Builtin.append_ #[130,130] 130 [(u4 4),x27].toArray) w fun x28 w=>
 rA (u4 13) (iV 1) w fun x29=>
 next4 [x28,x29] w) w) (World.drew1 w))
 (R (u4 4) w)
def cfg106:Cfg:=⟨extL,[],[(4,1073733712,[4,13])],[(6,[0,1,2,3,4,5,6,7,8,9,10,11,12],1024)],[],[],[]⟩
theorem F106_call {a0:Value} {w:World} {R:VW} (h:F106 a0 w R):cL 106 [a0] w R:=co (g:=cfg106) Tryz.func106 (by kernel_rfl) (by kernel_rfl) (by kernel_rfl) h
def F95 (a0:Value) (w:World) (R:VW):Prop:=
 oP (Instr.box 32 a0) w fun x1 w=>
 oP (Instr.buildSlice 130 0 #[]) w fun x7 w=>
 rL 32 x1 w fun x8=>
 cL 150 [x8] w fun x9 w=>
 rL 32 x1 w fun x10=>
 cL 129 [x10] w fun x11 w=>
 NIL x11 <|
 rF 159 x11 1 w fun x13=>
 rL 101 x13 w fun x14=>
 LOOPI [3,6] [x7,(iV 0)] w fun u5 w next5=>
 rF 32 x1 4 w fun x16=>
 rL 30 x16 w fun x17=>
 rN 30 3 x17 w fun x18=>
 rC (u5 6) x18 w fun x19=>
 BR x19
 (rX 101 x14 (u5 6) w fun x24=>
 rL 4 x24 w fun x25=>
 BR x25
 ((fun w=>rL 32 x1 w fun x27=>
 rX 23 x9 (u5 6) w fun x31=>
 rL 3 x31 w fun x32=>
 (fun w_=>cL 100 [x27,(u5 6),x32] w_ fun x33 w=>
 Ext w_ w ∧
 oP (Builtin.append_ #[130,130] 130 [(u5 3),x33].toArray) w fun x34 w=>
 rA (u5 6) (iV 1) w fun x21=>
 next5 [x34,x21] w) w) (World.drew1 w))
 (rA (u5 6) (iV 1) w fun x21=>
 next5 [(u5 3),x21] w))
 (R (u5 3) w)
def cfg95:Cfg:=⟨extL,[],[(5,34359705672,[3,6])],[(8,[0,1,2,3,4,5,6,7,8,9],128)],[],[],[]⟩
theorem F95_call {a0:Value} {w:World} {R:VW} (h:F95 a0 w R):cL 95 [a0] w R:=co (g:=cfg95) Tryz.func95 (by kernel_rfl) (by kernel_rfl) (by kernel_rfl) h
open Rep (rep)
def zpN (a b s:Nat):Prop:=∃ r t,a.testBit r=true∧b.testBit t=true∧(r≠t∨s.testBit r=false)
theorem zo9:∀ a,a<256→a &&& (a-1)≠0→∃ r,r<8∧∃ t,t<8∧r≠t∧a.testBit r=true∧a.testBit t=true:=by decide +kernel
theorem zqm:∀ a,a<256→∀ r,r<8→∀ t,t<8→(a &&& (a-1)=0∧a.testBit r=true∧a.testBit t=true→r=t):=by decide +kernel
theorem zn7 {m l:Nat} (h:m<256) (hb:m.testBit l=true):l<8:=Decidable.byContradiction fun hc=>by
 have:=Nat.testBit_lt_two_pow (Nat.lt_of_lt_of_le (show m<2^8 from h) (Nat.pow_le_pow_right (by omega) (by omega:8≤l)))
 rw [this] at hb;cases hb
theorem zi8 {m:Nat} (h:m≠0):∃ i,m.testBit i=true:=Nat.exists_testBit_of_ne_zero h
theorem zn8 {m:Nat} (h:m=0) (i:Nat):¬m.testBit i=true:=by rw [h];simp
theorem zpa {w:World} {a b s:Nat} (ha:a<256) (hb:b<256) (hs:s<256) :
   CALL Tryz.prog 109 [.int .i64 (a:Int),.int .i64 (b:Int),.int .i64 (s:Int)] w fun v w'=>Ext w w'∧∃ x:Bool,v=.bool x∧(x=true↔zpN a b s):=by
 refine F109_call ?_
 unfold F109
 refine zaq ?_
 refine br (fun h=>?_) (fun hna=>?_)
 · exact ⟨Ext.refl _,false,rfl,⟨fun e=>(by cases e),fun ⟨r,t,h1,_⟩=>absurd h1 (zn8 (by omega) r)⟩⟩
 refine zaq ?_
 refine br (fun h=>?_) (fun hnb=>?_)
 · exact ⟨Ext.refl _,false,rfl,⟨fun e=>(by cases e),fun ⟨r,t,_,h1,_⟩=>absurd h1 (zn8 (by omega) t)⟩⟩
 have hle:=Nat.and_le_left (n:=a) (m:=b)
 refine zdl (m:=a) (n:=b) (by omega) (by omega) ?_
 refine zhr (m:=a &&& b) (n:=s) (by omega) (by omega) ?_
 refine zaz ?_
 refine br (fun h=>?_) (fun h=>?_)
 · obtain ⟨i,hi⟩:=zi8 (m:=zkD (a &&& b) s) (by omega)
   rw [zed,Nat.testBit_and] at hi
   simp only [Bool.and_eq_true,Bool.not_eq_true'] at hi
   exact ⟨Ext.refl _,true,rfl,⟨fun _=>⟨i,i,hi.1.1,hi.1.2,.inr hi.2⟩,fun _=>rfl⟩⟩
 have hz:zkD (a &&& b) s=0:=by have:=Decidable.not_not.1 h;omega
 refine zaz ?_
 refine br (fun hne=>?_) (fun heq=>?_)
 · refine ⟨Ext.refl _,true,rfl,⟨fun _=>?_,fun _=>rfl⟩⟩
   refine Classical.byContradiction fun hn=>?_
   have hall:∀ r t,a.testBit r=true→b.testBit t=true→r=t:=fun r t h1 h2=>Classical.byContradiction fun e=>hn ⟨r,t,h1,h2,.inl e⟩
   obtain ⟨r,hr⟩:=zi8 (m:=a) (by omega)
   obtain ⟨t,ht⟩:=zi8 (m:=b) (by omega)
   have hrt:=hall r t hr ht
   subst hrt
   have:a=b:=Nat.eq_of_testBit_eq fun i=>by
     cases e1:a.testBit i<;>cases e2:b.testBit i
     · rfl
     · have:=hall r i hr e2;subst this;rw [hr] at e1;cases e1
     · have:=hall i r e1 ht;subst this;rw [ht] at e2;cases e2
     rfl
   exact hne (by rw [this])
 have hab:a=b:=by have:=Decidable.not_not.1 heq;omega
 subst hab
 refine zbC (by unfold I64;omega) ?_
 rw [show (a:Int)-1=((a-1:Nat):Int) by omega]
 refine zdl (m:=a) (n:=a-1) (by omega) (by omega) ?_
 refine zaz ?_
 refine ⟨Ext.refl _,_,rfl,?_⟩
 rw [decide_eq_true_eq]
 constructor
 · intro h
   obtain ⟨r,_,t,_,h1,h2,h3⟩:=zo9 a ha (by omega)
   exact ⟨r,t,h2,h3,.inl h1⟩
 rintro ⟨r,t,h1,h2,h3⟩ hc
 have:=zqm a ha r (zn7 ha h1) t (zn7 ha h2) ⟨by omega,h1,h2⟩
 subst this
 have hb:=zn8 hz r
 rw [zed,Nat.testBit_and,h1] at hb
 rcases h3 with h3 | h3
 · exact h3 rfl
 rw [h3] at hb;simp at hb
theorem zmv {w W0:World} {b:Nat} {c:DCode} (hW:WAt W0 b c) (e0:Ext W0 w) (hc:CodeR c) :
   CALL Tryz.prog 107 [.pointer (some ⟨b,0,none⟩)] w fun v w'=>Ext w w'∧∃ u,v=.tuple #[u,.int .i64 (zk2 c:Nat)]∧Own w.heap.size w' u (zaM ((List.range c.ins.length).map (rtN c))):=by
 refine F107_call ?_
 unfold F107
 have hil:=hc.f.ins
 have hin0:0<c.ins.length:=by
   have:=hc.1.procs8
   have:=(zdw hc this.2).2.2
   omega
 refine NIL.mk rfl ?_
 refine zaa zaY ?_
 refine zaa zaD ?_
 refine zab zco (zai hW.wl.code) e0 fun v10 h10=>?_
 refine zaf u30 h10 ?_
 have hn:c.ins.length=c.ins.length:=rfl
 generalize hnn:c.ins.length=n at hn
 rw [hnn] at hil hin0
 refine zcD hin0 (by omega) fun w1 hx1 hM1=>?_
 refine zgk u23 ?_
 generalize hg:w.heap.size=g at *
 have hg1:=hM1.lt g (by simp)
 have hM0:Mine [g] w1 (.slice (some ⟨g,0,none⟩) n n) (zaM ((List.range n).map fun i=>if i<0 then rtN c i else 0)):=by
   have:(List.replicate n 0)=((List.range n).map fun i=>if i<0 then rtN c i else 0):=by
     apply List.ext_getElem
     · simp
     intro i h1 h2;simp
   rw [←this];exact hM1
 refine zas n (fun k us w'=>us=[.int .i64 (k:Int)]∧k≤n∧ChgI g (g+1) w1 w'∧Mine [g] w' (.slice (some ⟨g,0,none⟩) n n) (zaM ((List.range n).map fun i=>if i<k then rtN c i else 0))) 0 (Nat.zero_le _) ⟨rfl,Nat.zero_le _,ChgI.refl _,hM0⟩ ?_
 rintro k mk u w2 hkm ⟨hu,hkl,hc2,hM2⟩
 simp only [List.map_cons,List.map_nil,List.cons.injEq,and_true] at hu
 rw [hu]
 have hx2:Ext w w2:=hx1.chgI hc2 (by omega)
 refine zah ?_
 refine br (fun hlt=>?_) (fun hge=>?_)
 case refine_2=>
   have hke:k=n:=by omega
   refine (zmt hW (e0.trans hx2) hc).mono ?_
   rintro _ w3 ⟨hx3,rfl⟩
   refine ⟨hx2.trans hx3,_,rfl,[g],?_,fun b hb=>by simp at hb;omega⟩
   have:((List.range n).map fun i=>if i<k then rtN c i else 0)=(List.range n).map (rtN c):=List.map_congr_left fun i hi=>by
     have:=List.mem_range.1 hi
     rw [if_pos (by omega)]
   rw [this] at hM2
   exact hM2.ext hx3
 have hk:k<n:=by omega
 refine (zmu (i:=k) hW (e0.trans hx2) hc (by omega)).mono ?_
 rintro _ w3 ⟨hx3,rfl⟩
 have hrt:=zn5 hc k
 refine zbk (α:=Int) (i:=k) rfl u23 ty3 hk ?_
 refine zaW (α:=Int) rfl ty3 (hM2.ext hx3) (by simp [zaM]) hk (zbh (v:=rtN c k) (by omega)) fun w4 hc4 hM4=>?_
 have hc4':ChgI g (g+1) w3 w4:=zdm hc4
 refine zag (by omega) ?_
 refine ⟨mk-1,by omega,k+1,by omega,rfl,by omega,(hc2.trans hx3.toI).trans hc4',?_⟩
 have:(zaM ((List.range n).map fun i=>if i<k then rtN c i else 0)).set k (rtN c k:Nat)=zaM ((List.range n).map fun i=>if i<k+1 then rtN c i else 0):=by
   unfold zaM
   apply List.ext_getElem
   · simp
   intro i h1 h2
   simp only [List.length_map,List.length_range] at h2
   rw [List.getElem_set]
   by_cases e:k=i
   · subst e;simp
   rw [if_neg e]
   simp only [List.getElem_map,List.getElem_range]
   by_cases h:i<k
   · rw [if_pos h,if_pos (by omega)]
   rw [if_neg h,if_neg (by omega)]
 rw [←this];exact hM4
noncomputable def zmw (c:DCode) (i:Nat):List DTouch:=zcy c (i:Int) ((zau (zgi c) i:Nat):Int)
noncomputable def zjc (c:DCode):List DTouch:=(zbd c.ins.length (MetP c)).flatMap (zmw c)
theorem zel {c:DCode} (hc:CodeR c) (a h:Int):(zcy c a h).length≤12:=by
 have h1:=zkT c a h
 have h2:=hc.1.1
 simp only [Bool.and_eq_true,decide_eq_true_eq] at h2
 omega
theorem zhF {c:DCode} (hc:CodeR c) (U:List Nat) (hU:U.length≤1500):(U.flatMap (zmw c)).length≤18000:=by
 have h1:=ze3 (l:=U) (f:=zmw c) (B:=12) fun i _=>zel hc _ _
 omega
theorem zmx {w W0:World} {b:Nat} {c:DCode} (hW:WAt W0 b c) (e0:Ext W0 w) (hc:CodeR c) :
   CALL Tryz.prog 106 [.pointer (some ⟨b,0,none⟩)] w fun v w'=>Ext w w'∧Own w.heap.size w' v (zjc c):=by
 refine F106_call ?_
 unfold F106
 have hil:=hc.f.ins
 refine (zqd hW e0 hc).mono ?_
 rintro v8 w1 ⟨hx1,ho1⟩
 refine (zq7 hW (e0.trans hx1) hc).mono ?_
 rintro v10 w2 ⟨hx2,ho2⟩
 have hml:(zlG c).length=c.ins.length:=by unfold zlG;rw [zak]
 refine (zn6 ho2.is (Ext.refl _) (by rw [hml];omega)).mono ?_
 rintro v11 w3 ⟨hx3,ho3⟩
 have hx13:=hx1.trans (hx2.trans hx3)
 rw [hml] at ho3
 unfold zlG at ho3
 rw [zeK] at ho3
 have hMu:=ho1.is.ext (hx2.trans hx3)
 have hUl:=zaZ (n:=c.ins.length) (p:=MetP c)
 have hUm:∀ i∈zbd c.ins.length (MetP c),i<c.ins.length:=fun i hi=>(zaQ.1 hi).1
 unfold zjc
 generalize zbd c.ins.length (MetP c)=U at *
 refine zaf u23 ho3.is ?_
 rw [zae]
 have hs13:=hx13.size
 refine zas U.length (fun k us w'=>∃ out,us=[out,.int .i64 (k:Int)]∧k≤U.length∧Ext w3 w'∧RowI w3.heap.size w'.heap.size 134 w' out ((U.take k).flatMap (zmw c))) 0 (Nat.zero_le _) ⟨_,rfl,Nat.zero_le _,Ext.refl _,zc0 _ _ _ _⟩ ?_
 rintro k mk u w4 hkm ⟨out,hu,hkl,hx4,hr4⟩
 obtain ⟨hu1,hu2⟩:=zb9 hu
 rw [hu1,hu2]
 refine zah ?_
 refine br (fun hlt=>?_) (fun hge=>?_)
 case refine_2=>
   have hke:k=U.length:=by omega
   rw [hke,List.take_length] at hr4
   exact ⟨hx13.trans hx4,hr4.own.own.mono (by omega)⟩
 have hk:k<U.length:=by omega
 have hi:=hUm U[k] (List.getElem_mem _)
 have hfs:=zdy (f:=zmw c) hk
 have hlk:=zhF hc (U.take k) (by rw [List.length_take];omega)
 refine zad u23 ty3 (i:=k) ho3.is (by rw [zae];exact hk) fun b5 o5 hA5=>?_
 rw [zaK] at hA5
 generalize U[k]=i at *
 refine zac ty3 hA5 hx4 fun _=>?_
 have hxd:=zan w4
 have hx35:=hx4.trans hxd
 have hr5:=hr4.ext hxd
 have hsd:=hxd.size
 generalize World.drew1 w4=w5 at *
 have e5:=e0.trans (hx13.trans hx35)
 refine NIL.mk rfl ?_
 refine zaa zaY ?_
 refine zab zbu hW.wl.code e5 fun v21 h21=>?_
 refine zad u23 ty3 (i:=i) hMu (by rw [zae,zfU];exact hi) fun b6 o6 hA6=>?_
 rw [zaJ] at hA6
 refine zac ty3 hA6 hx35 fun _=>?_
 have hm64:=zcR (ziT c) i
 refine (zj1 (a:=(i:Int)) (held:=(zau (zgi c) i:Nat)) h21 e5 hc (by omega) (by omega) (by unfold I64;omega)).mono ?_
 rintro v27 w6 ⟨hx6,ho6⟩
 refine ⟨hx6,?_⟩
 have h12:(zmw c i).length≤12:=zel hc (i:Int) (zau (zgi c) i:Nat)
 have hs34:=hx4.size
 have hs56:=hx6.size
 refine zdN (m:=zmw c i) zjl zcs zl9 (hr5.ext hx6) (by omega) ho6.is (Ext.refl _) (by rw [zao];omega) (by omega) fun v28 w7 hc7 hr7=>?_
 refine zag (by omega) ?_
 refine ⟨mk-1,by omega,k+1,by omega,v28,rfl,by omega,(hx35.trans hx6).chgI hc7 (Nat.le_refl _),?_⟩
 rw [hfs];exact hr7
theorem zn9 {w W0:World} {v0:Value} {c:DCode} (h0:Is W0 v0 c) (e0:Ext W0 w) (hc:CodeR c) :
   CALL Tryz.prog 95 [v0] w fun v w'=>Ext w w'∧Own w.heap.size w' v (zjc c):=by
 refine F95_call ?_
 unfold F95
 have hil:=hc.f.ins
 refine zbq h0 e0 fun w1 hx1 hA=>?_
 refine zba (α:=DTouch) zjl zcs fun a7 w2 hx2 hr2=>?_
 refine zab zbu hA hx2 fun v8 h8=>?_
 refine (zmm h8 hx2 hc).mono ?_
 rintro v9 w3 ⟨hx3,ho3⟩
 have hx13:=hx2.trans hx3
 refine zab zbu hA hx13 fun v10 h10=>?_
 refine (znP h10 hx13 hc).mono ?_
 rintro _ w4 ⟨hx4,gw,rfl,hmet,hmay⟩
 have hx14:=hx13.trans hx4
 have hMu:=ho3.is.ext hx4
 refine NIL.mk rfl ?_
 refine zaa zf6 ?_
 refine zab zcq hmet (Ext.refl _) fun v14 hMe=>?_
 have hml:(zlG c).length=c.ins.length:=by unfold zlG;rw [zak]
 have hs1:=hx1.size
 have hs14:=hx14.size
 refine zas c.ins.length (fun k us w'=>∃ out,us=[out,.int .i64 (k:Int)]∧k≤c.ins.length∧Ext w4 w'∧RowI w4.heap.size w'.heap.size 134 w' out ((zbd k (MetP c)).flatMap (zmw c))) 0 (Nat.zero_le _) ⟨_,rfl,Nat.zero_le _,Ext.refl _,zdM _ _ _ _ _⟩ ?_
 rintro i mk u w5 hkm ⟨out,hu,hkl,hx5,hr5⟩
 obtain ⟨hu1,hu2⟩:=zb9 hu
 rw [hu1,hu2]
 have hx15:=hx14.trans hx5
 refine zaa zaD ?_
 refine zab zco (zai hA) hx15 fun v17 h17=>?_
 refine zaf u30 h17 ?_
 refine zah ?_
 refine br (fun hlt=>?_) (fun hge=>?_)
 case refine_2=>
   have hke:i=c.ins.length:=by omega
   rw [hke] at hr5
   exact ⟨hx1.trans hx15,hr5.own.own.mono (by omega)⟩
 have hi:i<c.ins.length:=by omega
 have hmk:=zaL (ms:=zlG c) (i:=i) (by rw [hml];exact hi)
 have hiff:(zlG c)[i]=true↔MetP c i:=by
   rw [←hmk];unfold zlG;rw [zaI];exact ⟨fun h=>h.2,fun h=>⟨hi,h⟩⟩
 refine zad zcm ty4 (i:=i) hMe (by rw [hml];exact hi) fun b6 o6 hA6=>?_
 refine zax ty4 hA6 hx5 ?_
 refine zbI (fun ht=>?_) (fun hf=>?_)
 case refine_2=>
   have hnm:¬MetP c i:=fun h=>by rw [hiff.2 h] at hf;cases hf
   refine zag (by omega) ?_
   exact ⟨mk-1,by omega,i+1,by omega,out,rfl,by omega,hx5,by rw [zeb hnm];exact hr5⟩
 have hM:=hiff.1 ht
 have hfs:(zbd (i+1) (MetP c)).flatMap (zmw c)=(zbd i (MetP c)).flatMap (zmw c)++zmw c i:=by
   rw [zea hM,List.flatMap_append];simp
 have hlk:=zhF hc (zbd i (MetP c)) (by have:=zaZ (n:=i) (p:=MetP c);omega)
 have hxd:=zan w5
 have hx46:=hx5.trans hxd
 have hr6:=hr5.ext hxd
 have hsd:=hxd.size
 generalize World.drew1 w5=w6 at *
 refine zab zbu hA (hx14.trans hx46) fun v27 h27=>?_
 refine zad u23 ty3 (i:=i) hMu (by rw [zae,zfU];exact hi) fun b7 o7 hA7=>?_
 rw [zaJ] at hA7
 refine zac ty3 hA7 hx46 fun _=>?_
 have hm64:=zcR (ziT c) i
 refine (zo0 (a:=(i:Int)) (held:=(zau (zgi c) i:Nat)) h27 (hx14.trans hx46) hc (by omega) (by omega) (by unfold I64;omega)).mono ?_
 rintro v33 w7 ⟨hx7,ho7⟩
 refine ⟨hx7,?_⟩
 have h12:(zmw c i).length≤12:=zel hc (i:Int) (zau (zgi c) i:Nat)
 have hs45:=hx5.size
 have hs67:=hx7.size
 refine zdN (m:=zmw c i) zjl zcs zl9 (hr6.ext hx7) (by omega) ho7.is (Ext.refl _) (by rw [zao];omega) (by omega) fun v34 w8 hc8 hr8=>?_
 refine zag (by omega) ?_
 refine ⟨mk-1,by omega,i+1,by omega,v34,rfl,by omega,(hx46.trans hx7).chgI hc8 (Nat.le_refl _),?_⟩
 rw [hfs];exact hr8
def F96 (a0:Value) (w:World) (R:VW):Prop:=
 oP (Instr.box 32 a0) w fun x1 w=>
 rL 32 x1 w fun x13=>
 cL 151 [x13] w fun x14 w=>
 oP (Instr.buildSlice 99 0 #[]) w fun x15 w=>
 oP (Instr.buildSlice 101 0 #[]) w fun x16 w=>
 LOOPI [4,5,6] [x15,x16,(iV 0)] w fun u5 w next5=>
 rF 32 x1 2 w fun x18=>
 rL 22 x18 w fun x19=>
 rN 22 3 x19 w fun x20=>
 rC (u5 6) x20 w fun x21=>
 BR x21
 (rL 32 x1 w fun x25=>
 cL 152 [x25,(u5 6)] w fun x27 w=>
 oP (Instr.buildSlice 99 1 #[(0,x27)]) w fun x28 w=>
 oP (Builtin.append_ #[99,99] 99 [(u5 4),x28].toArray) w fun x29 w=>
 rX 101 x14 (u5 6) w fun x33=>
 rL 4 x33 w fun x34=>
 BR x34
 (rL 32 x1 w fun x36=>
 cL 153 [x36,(u5 6)] w fun x38 w=>
 oP (Instr.buildSlice 101 1 #[(0,x38)]) w fun x40 w=>
 oP (Builtin.append_ #[101,101] 101 [(u5 5),x40].toArray) w fun x41 w=>
 rA (u5 6) (iV 1) w fun x23=>
 next5 [x29,x41,x23] w)
 (oP (Instr.buildSlice 101 1 #[(0,(Value.bool false))]) w fun x40 w=>
 oP (Builtin.append_ #[101,101] 101 [(u5 5),x40].toArray) w fun x41 w=>
 rA (u5 6) (iV 1) w fun x23=>
 next5 [x29,x41,x23] w))
 (oP (Instr.buildSlice 99 0 #[]) w fun x42 w=>
 LOOPI [7,8] [x42,(iV 0)] w fun u11 w next11=>
 rF 32 x1 2 w fun x44=>
 rL 22 x44 w fun x45=>
 rN 22 3 x45 w fun x46=>
 rC (u11 8) x46 w fun x47=>
 BR x47
 (rF 32 x1 2 w fun x50=>
 rL 22 x50 w fun x51=>
 rN 22 3 x51 w fun x52=>
 oP (Instr.makeSlice 101 x52 x52) w fun x53 w=>
 LOOPI [10] [(iV 0)] w fun u15 w next15=>
 rF 32 x1 2 w fun x55=>
 rL 22 x55 w fun x56=>
 rN 22 3 x56 w fun x57=>
 rC (u15 10) x57 w fun x58=>
 BR x58
 (LOOPI [11] [(iV 0)] w fun u18 w next18=>
 rF 32 x1 2 w fun x62=>
 rL 22 x62 w fun x63=>
 rN 22 3 x63 w fun x64=>
 rC (u18 11) x64 w fun x65=>
 BR x65
 (LOOPI [12] [(iV 0)] w fun u21 w next21=>
 rF 32 x1 2 w fun x69=>
 rL 22 x69 w fun x70=>
 rN 22 3 x70 w fun x71=>
 rC (u21 12) x71 w fun x72=>
 BR x72
 (rX 101 x14 (u18 11) w fun x77=>
 rL 4 x77 w fun x78=>
 BR x78
 (rX 101 x14 (u21 12) w fun x82=>
 rL 4 x82 w fun x83=>
 BR x83
 (rX 99 (u5 4) (u18 11) w fun x88=>
 rL 101 x88 w fun x89=>
 rX 101 x89 (u11 8) w fun x91=>
 rL 4 x91 w fun x92=>
 BR x92
 (rX 99 (u5 4) (u21 12) w fun x97=>
 rL 101 x97 w fun x98=>
 rX 101 x98 (u15 10) w fun x100=>
 rL 4 x100 w fun x101=>
 BR x101
 (rB .neq 3 T0 T0 (u18 11) (u21 12) w fun x106=>
 GBR x106
 (rX 101 x53 (u15 10) w fun x117=>
 oS 4 x117 (Value.bool true) w fun w=>
 rA (u21 12) (iV 1) w fun x74=>
 next21 [x74] w)
 (rX 101 (u5 5) (u18 11) w fun x110=>
 rL 4 x110 w fun x111=>
 rD (Op.unary .not x111) w fun x112=>
 BR x112
 (rX 101 x53 (u15 10) w fun x117=>
 oS 4 x117 (Value.bool true) w fun w=>
 rA (u21 12) (iV 1) w fun x74=>
 next21 [x74] w)
 (rA (u21 12) (iV 1) w fun x74=>
 next21 [x74] w))
 (BR undef
 (rX 101 x53 (u15 10) w fun x117=>
 oS 4 x117 (Value.bool true) w fun w=>
 rA (u21 12) (iV 1) w fun x74=>
 next21 [x74] w)
 (BR undef
 (rX 101 x53 (u15 10) w fun x117=>
 oS 4 x117 (Value.bool true) w fun w=>
 rA (u21 12) (iV 1) w fun x74=>
 next21 [x74] w)
 (rA (u21 12) (iV 1) w fun x74=>
 next21 [x74] w))))
 (rA (u21 12) (iV 1) w fun x74=>
 next21 [x74] w))
 (rA (u21 12) (iV 1) w fun x74=>
 next21 [x74] w))
 (rA (u21 12) (iV 1) w fun x74=>
 next21 [x74] w))
 (rA (u21 12) (iV 1) w fun x74=>
 next21 [x74] w))
 (rA (u18 11) (iV 1) w fun x67=>
 next18 [x67] w))
 (rA (u15 10) (iV 1) w fun x60=>
 next15 [x60] w))
 (oP (Instr.buildSlice 99 1 #[(0,x53)]) w fun x120 w=>
 oP (Builtin.append_ #[99,99] 99 [(u11 7),x120].toArray) w fun x121 w=>
 rA (u11 8) (iV 1) w fun x49=>
 next11 [x121,x49] w))
 (R (u11 7) w))
def cfg96:Cfg:=⟨extL,[],[(5,4398046380144,[4,5,6]),(11,5316911983139663491615219445028364160,[7,8]),(15,332306998946228968207937366560611328,[10]),(18,332306998946228965920108755856398336,[11]),(21,332306998946228673078046585717264384,[12])],[],[],[],[]⟩
theorem F96_call {a0:Value} {w:World} {R:VW} (h:F96 a0 w R):cL 96 [a0] w R:=co (g:=cfg96) Tryz.func96 (by kernel_rfl) (by kernel_rfl) (by kernel_rfl) h
open Rep (rep)
theorem zoa {b:Bool} {Q kt kf ks:Prop} (hq:b=true→Q) (key:Q→kt) (rest:(Q→kt)→b=false→kf):GBR (.bool b) kt kf ks:=
 zqI (fun h=>key (hq h)) (fun h=>rest key h)
structure KQ2 (Q:List Nat→World→Prop):Prop where
 keep:∀ {F:List Nat} {w w':World},Q F w→(∀ b∈F,w'.heap[b]?=w.heap[b]?)→Q F w'
 lt:∀ {F:List Nat} {w:World},Q F w→∀ b∈F,b<w.heap.size
structure TT (Q1 Q2:List Nat→World→Prop) (wb w:World) (F1 F2:List Nat):Prop where
 ext:Ext wb w
 q1:Q1 F1 w
 q2:Q2 F2 w
 b1:∀ b∈F1,wb.heap.size≤b
 b2:∀ b∈F2,wb.heap.size≤b
 dis:∀ b∈F1,b∉F2
section
variable {Q1 Q1' Q2:List Nat→World→Prop} {wb w w1 w':World} {F1 F2 F':List Nat}
theorem TT.swap (h:TT Q1 Q2 wb w F1 F2):TT Q2 Q1 wb w F2 F1:=⟨h.ext,h.q2,h.q1,h.b2,h.b1,fun b hb hF=>h.dis b hF hb⟩
theorem TT.step (k1:KQ2 Q1) (k2:KQ2 Q2) (h:TT Q1 Q2 wb w F1 F2) (hx:Ext w w'):TT Q1 Q2 wb w' F1 F2:=
 ⟨h.ext.trans hx,k1.keep h.q1 fun b hb=>hx.heap (k1.lt h.q1 b hb),k2.keep h.q2 fun b hb=>hx.heap (k2.lt h.q2 b hb),h.b1,h.b2,h.dis⟩
theorem TT.grow (k1:KQ2 Q1) (k2:KQ2 Q2) (h:TT Q1 Q2 wb w F1 F2) {GX:List Nat} (hx:Ext w w1) (hc:Chg F1 w1 w') (hr:Q1' F' w') (hs:∀ c∈F',c∈F1∨c∈GX∨w.heap.size≤c) (hG:∀ c∈GX,wb.heap.size≤c∧c∉F2):TT Q1' Q2 wb w' F' F2:=by
 have h1:=h.step k1 k2 hx
 refine ⟨h1.ext.chgF hc h.b1,hr,k2.keep h1.q2 fun b hb=>hc.block b (k2.lt h1.q2 b hb) fun hF=>h.dis b hF hb,fun b hb=>?_,h.b2,fun b hb hF=>?_⟩
 · rcases hs b hb with h2 | h2 | h2
   · exact h.b1 b h2
   · exact (hG b h2).1
   have:=h.ext.size;omega
 rcases hs b hb with h2 | h2 | h2
 · exact h.dis b h2 hF
 · exact (hG b h2).2 hF
 have:=k2.lt h.q2 b hF;omega
end
def zpb {α:Type} [Rep α] (e:TypeId) (v:Value) (L:List α) (F:List Nat) (w:World):Prop:=RowG F e w v L∧F.Nodup
theorem zgz {α:Type} [Rep α] (e:TypeId) (v:Value) (L:List α):KQ2 (zpb e v L):=⟨fun h hk=>⟨h.1.keep hk,h.2⟩,fun h=>h.1.lt⟩
def zf2 (c:DCode) (a b r s:Nat):Prop:=RootP c r∧RootP c s∧FromP c r a∧FromP c s b∧(r≠s∨¬zc8 c r)
def zft (c:DCode) (a b:Nat):Prop:=∃ r s,zf2 c a b r s
noncomputable instance (c:DCode) (r:Nat):Decidable (RootP c r):=Classical.propDecidable _
noncomputable def zf0 (c:DCode) (k:Nat):List (List Bool):=(List.range k).map fun r=>zbE c.procs.length (FromP c r)
noncomputable def zgo (c:DCode) (k:Nat):List Bool:=(List.range k).map fun r=>decide (RootP c r∧zc8 c r)
noncomputable def zmG (c:DCode) (k:Nat):List (List Bool):=(List.range k).map fun a=>zbE c.procs.length (zft c a)
theorem zmy (c:DCode) (k:Nat):zf0 c (k+1)=zf0 c k++[zbE c.procs.length (FromP c k)]:=by unfold zf0;rw [List.range_succ,List.map_append];rfl
theorem zmz (c:DCode) (k:Nat):zgo c (k+1)=zgo c k++[decide (RootP c k∧zc8 c k)]:=by unfold zgo;rw [List.range_succ,List.map_append];rfl
theorem zob (c:DCode) (k:Nat):zmG c (k+1)=zmG c k++[zbE c.procs.length (zft c k)]:=by unfold zmG;rw [List.range_succ,List.map_append];rfl
theorem mine_bool {w:World} (b:Bool):Mine [] w (.bool b) b:=by
 exact ⟨⟨_,⟨rfl,rfl⟩,rfl⟩,List.nodup_nil,Wr.nil _⟩
theorem zk3 {w W0:World} {v0:Value} {c:DCode} (h0:Is W0 v0 c) (e0:Ext W0 w) (hc:CodeR c) :
   CALL Tryz.prog 96 [v0] w fun v w'=>Ext w w'∧Own w.heap.size w' v (zmG c c.procs.length):=by
 refine F96_call ?_
 unfold F96
 have h8:=hc.1.procs8
 have he:=hc.2.1.1
 refine zbq h0 e0 fun w1 hx1 hA=>?_
 refine zab zbu hA (Ext.refl _) fun v13 h13=>?_
 refine (zei h13 (Ext.refl _) hc).mono ?_
 rintro v14 w2 ⟨hx2,ho2⟩
 refine zba (α:=List Bool) u99 zcq fun a15 w3 hx3 _=>?_
 refine zba (α:=Bool) zcm ty4 fun a16 wb hx4 _=>?_
 have hx24:=hx3.trans hx4
 have hx14:=hx2.trans hx24
 have hRt:=ho2.is.ext hx24
 have hs1:=hx1.size
 have hs14:=hx14.size
 have hT0:TT (zpb 101 (.slice (some a15) 0 0) (zf0 c 0)) (zpb 4 (.slice (some a16) 0 0) (zgo c 0)) wb wb [] []:=
   ⟨Ext.refl _,⟨.inl ⟨_,rfl,rfl,rfl⟩,List.nodup_nil⟩,⟨.inl ⟨_,rfl,rfl,rfl⟩,List.nodup_nil⟩,by simp,by simp,by simp⟩
 refine zas c.procs.length (fun k us w'=>∃ fv sv F1 F2,us=[fv,sv,.int .i64 (k:Int)]∧k≤c.procs.length∧TT (zpb 101 fv (zf0 c k)) (zpb 4 sv (zgo c k)) wb w' F1 F2) 0 (Nat.zero_le _) ⟨_,_,_,_,rfl,Nat.zero_le _,hT0⟩ ?_
 rintro k mk u w5 hkm ⟨fv,sv,F1,F2,hu,hkl,hT5⟩
 obtain ⟨hu1,hu2,hu3⟩:=zrG hu
 rw [hu1,hu2,hu3]
 have hx15:=hx14.trans hT5.ext
 refine zaa za1 ?_
 refine zab zbN (zap hA) hx15 fun v19 h19=>?_
 refine zaf u22 h19 ?_
 refine zah ?_
 have hfl:(zf0 c k).length=k:=by simp [zf0]
 have hsl:(zgo c k).length=k:=by simp [zgo]
 refine br (fun hlt=>?_) (fun hge=>?_)
 case refine_1=>
   have hk:k<c.procs.length:=by omega
   refine zab zbu hA hx15 fun v25 h25=>?_
   refine (zee (a:=k) h25 hx15 hc hk).mono ?_
   rintro v27 w6 ⟨hx6,m,rfl,hm6,hM6⟩
   have hT6:=hT5.step (zgz _ _ _) (zgz _ _ _) hx6
   have hm2:m∉F2:=fun hF=>by have:=hT5.q2.1.lt m hF;omega
   have hm1:m∉F1:=fun hF=>by have:=hT5.q1.1.lt m hF;omega
   have hs5:=hT5.ext.size
   have hMe:(zbE c.procs.length fun i=>i=k∨RP (zht c) k i)=zbE c.procs.length (FromP c k):=rfl
   rw [hMe] at hM6
   refine zgK (x:=zbE c.procs.length (FromP c k)) (K:=fun _=>_) u99 zcq zrz zqR (by decide) hT6.q1.1 hT6.q1.2 hM6 (fun b hb hF=>by simp at hb;subst hb;exact hm1 hF) (by rw [zao];omega) (by omega) (fun w7 v' w8 G' hx7 hc7 hr7 hn7 hs7=>?_) fun _ _ _ h=>h
   rw [←zmy] at hr7
   have hT8:=hT6.grow (Q1':=zpb 101 v' (zf0 c (k+1))) (zgz _ _ _) (zgz _ _ _) hx7 hc7 ⟨hr7,hn7⟩ hs7 fun b hb=>by
     simp only [List.mem_cons,List.not_mem_nil,or_false] at hb
     subst hb
     exact ⟨by omega,hm2⟩
   have hx58:Ext wb w8:=hT8.ext
   have hmk:=zaI (n:=c.procs.length) (p:=RootP c) (i:=k)
   rw [zaL (by rw [zak];exact hk)] at hmk
   have hfin:∀ {w9:World} (x:Bool),(x=decide (RootP c k∧zc8 c k))→Ext w8 w9→OP Tryz.prog (Instr.buildSlice 101 1 #[(0,.bool x)]) w9 fun x40 w=>OP Tryz.prog (Builtin.append_ #[101,101] 101 [sv,x40].toArray) w fun x41 w=>RD Tryz.prog (bin .add 3 (.tmp 0) (.const undef) (.int .i64 (k:Int)) (.int .i64 1)) w fun x23=>∃ m',m'<mk∧∃ k',k'+m'=c.procs.length∧∃ fv sv F1 F2,[v',x41,x23]=[fv,sv,.int .i64 (k':Int)]∧k'≤c.procs.length∧TT (zpb 101 fv (zf0 c k')) (zpb 4 sv (zgo c k')) wb w F1 F2:=fun {w9} x hx9e hx9=>by
     have hT9:=hT8.step (zgz _ _ _) (zgz _ _ _) hx9
     refine zgK (x:=x) (K:=fun _=>_) zcm ty4 z4 zc4 (by decide) hT9.q2.1 hT9.q2.2 (mine_bool x) (by simp) (by rw [zao];omega) (by omega) (fun w10 v'' w11 G'' hx10 hc10 hr10 hn10 hs10=>?_) fun _ _ _ h=>h
     rw [hx9e,←zmz] at hr10
     have hT11:=(hT9.swap.grow (Q1':=zpb 4 v'' (zgo c (k+1))) (zgz _ _ _) (zgz _ _ _) (GX:=[]) hx10 hc10 ⟨hr10,hn10⟩ hs10 (by simp)).swap
     refine zag (by omega) ?_
     exact ⟨mk-1,by omega,k+1,by omega,v',v'',_,_,rfl,by omega,hT11⟩
   refine zad zcm ty4 (i:=k) hRt (by rw [zak];exact hk) fun b9 o9 hA9=>?_
   refine zax ty4 hA9 hx58 ?_
   refine zbI (fun hf=>?_) (fun hf=>?_)
   · have hR:=(hmk.1 hf).2
     refine zab zbu hA (hx14.trans hx58) fun v36 h36=>?_
     refine (zj8 (r:=k) h36 (hx14.trans hx58) hc).mono ?_
     rintro _ w9 ⟨hx9,rfl⟩
     exact hfin _ (by rw [decide_eq_decide];exact ⟨fun h=>⟨hR,h⟩,fun h=>h.2⟩) hx9
   have hR:¬RootP c k:=fun h=>by rw [hmk.2 ⟨hk,h⟩] at hf;cases hf
   exact hfin false (by rw [decide_eq_false fun h=>hR h.1]) (Ext.refl _)
 have hke:k=c.procs.length:=by omega
 rw [hke] at hT5
 clear hfl hsl
 have hFr:=hT5.q1.1.own.is
 have hSi:=hT5.q2.1.own.is
 have hs5:=hT5.ext.size
 refine zba (α:=List Bool) u99 zcq fun a42 wT hx42 _=>?_
 have hx1T:=hx15.trans hx42
 have hx5T:=hx42
 have hsT:=hx42.size
 have hRtT:Ext wb wT:=hT5.ext.trans hx42
 refine zas c.procs.length (fun k us w'=>∃ ov FO,us=[ov,.int .i64 (k:Int)]∧k≤c.procs.length∧Ext wT w'∧RowG FO 101 w' ov (zmG c k)∧FO.Nodup∧∀ b∈FO,wT.heap.size≤b) 0 (Nat.zero_le _) ⟨_,[],rfl,Nat.zero_le _,Ext.refl _,.inl ⟨_,rfl,rfl,rfl⟩,List.nodup_nil,by simp⟩ ?_
 rintro a mk2 u2 w6 hkm2 ⟨ov,FO,hu6,hal,hx6,hr6,hn6,hb6⟩
 obtain ⟨hu61,hu62⟩:=zb9 hu6
 rw [hu61,hu62]
 refine zaa za1 ?_
 refine zab zbN (zap hA) (hx1T.trans hx6) fun v45 h45=>?_
 refine zaf u22 h45 ?_
 refine zah ?_
 refine br (fun hlt2=>?_) (fun hge2=>?_)
 case refine_2=>
   have hke2:a=c.procs.length:=by omega
   rw [hke2] at hr6
   exact ⟨hx1.trans (hx1T.trans hx6),FO,⟨hr6.own,hn6,hr6.wr⟩,fun b hb=>by have:=hb6 b hb;have:=hx1T.size;omega⟩
 have ha:a<c.procs.length:=by omega
 refine zaa za1 ?_
 refine zab zbN (zap hA) (hx1T.trans hx6) fun v51 h51=>?_
 refine zaf u22 h51 ?_
 refine zc2 h8.2 (by omega) fun w7 hx7 hM7=>?_
 have hs7:=hx7.size
 generalize hg:w6.heap.size=g at *
 have hgl:g<w7.heap.size:=hM7.lt g (by simp)
 have hs6T:=hx6.size
 have hgO:g∉FO:=fun hF=>by have:=hr6.lt g hF;omega
 rw [zcC c.procs.length (p:=fun q=>q<0∧zft c a q) (fun i h=>by omega)] at hM7
 generalize hn:c.procs.length=n at *
 refine zas n (fun b us w'=>us=[.int .i64 (b:Int)]∧b≤n∧ChgI g (g+1) w7 w'∧Mine [g] w' (.slice (some ⟨g,0,none⟩) n n) (zbE n fun q=>q<b∧zft c a q)) 0 (Nat.zero_le _) ⟨rfl,Nat.zero_le _,ChgI.refl _,hM7⟩ ?_
 rintro b mk3 u3 w8 hkm3 ⟨hu8,hbl,hc8,hM8⟩
 simp only [List.map_cons,List.map_nil,List.cons.injEq,and_true] at hu8
 rw [hu8]
 have hTx:∀ {w:World},ChgI g (g+1) w7 w→Ext wT w:=fun h=>(hx6.trans hx7).chgI h (by omega)
 refine zaa za1 ?_
 refine zab zbN (zap hA) (hx1T.trans (hTx hc8)) fun v56 h56=>?_
 refine zaf u22 h56 ?_
 rw [hn]
 refine zah ?_
 refine br (fun hlt3=>?_) (fun hge3=>?_)
 case refine_2=>
   have hbe:b=n:=by omega
   have:(zbE n fun q=>q<b∧zft c a q)=zbE n (zft c a):=zbo fun q hq=>⟨fun h=>h.2,fun h=>⟨by omega,h⟩⟩
   rw [this] at hM8
   have hr8:RowG FO 101 w8 ov (zmG c a):=hr6.keep fun q hq=>by
     have h1:=hr6.lt q hq
     rw [hc8.block q (by omega) (by have:q≠g:=fun e=>hgO (e▸hq);omega),hx7.heap (by omega)]
   have htl:(zmG c a).length=a:=by simp [zmG]
   refine zgK (x:=zbE n (zft c a)) (K:=fun _=>_) u99 zcq zrz zqR (by decide) hr8 hn6 hM8 (fun q hq hF=>by simp at hq;subst hq;exact hgO hF) (by rw [zao];omega) (by omega) (fun w9 v' w10 G' hx9 hc9 hr9 hn9 hs9=>?_) fun _ _ _ h=>h
   have hs8:=hc8.size
   refine zag (by omega) ?_
   refine ⟨mk2-1,by omega,a+1,by omega,v',G',rfl,by omega,((hTx hc8).trans hx9).chgF hc9 hb6,?_,hn9,fun q hq=>?_⟩
   · rw [zob,hn];exact hr9
   rcases hs9 q hq with h | h | h
   · exact hb6 q h
   · simp at h;omega
   have:=(hTx hc8).size;omega
 have hb:b<n:=by omega
 have hM8':Mine [g] w8 (.slice (some ⟨g,0,none⟩) n n) (zbE n fun q=>(q<b∧zft c a q)∨(q=b∧∃ r,r<0∧∃ s,zf2 c a b r s)):=by
   have:(zbE n fun q=>(q<b∧zft c a q)∨(q=b∧∃ r,r<0∧∃ s,zf2 c a b r s))=zbE n fun q=>q<b∧zft c a q:=zbo fun q _=>⟨fun h=>h.resolve_right fun ⟨_,r,h,_⟩=>by omega,.inl⟩
   rw [this];exact hM8
 refine zas n (fun r us w'=>us=[.int .i64 (r:Int)]∧r≤n∧ChgI g (g+1) w7 w'∧Mine [g] w' (.slice (some ⟨g,0,none⟩) n n) (zbE n fun q=>(q<b∧zft c a q)∨(q=b∧∃ r',r'<r∧∃ s,zf2 c a b r' s))) 0 (Nat.zero_le _) ⟨rfl,Nat.zero_le _,hc8,hM8'⟩ ?_
 rintro r mk4 u4 w9 hkm4 ⟨hu9,hrl,hc9,hM9⟩
 simp only [List.map_cons,List.map_nil,List.cons.injEq,and_true] at hu9
 rw [hu9]
 refine zaa za1 ?_
 refine zab zbN (zap hA) (hx1T.trans (hTx hc9)) fun v63 h63=>?_
 refine zaf u22 h63 ?_
 rw [hn]
 refine zah ?_
 have hlts:∀ {r s},zf2 c a b r s→r<n∧s<n:=fun h=>⟨hn▸h.1.lt hc,hn▸h.2.1.lt hc⟩
 refine br (fun hlt4=>?_) (fun hge4=>?_)
 case refine_2=>
   have:(zbE n fun q=>(q<b∧zft c a q)∨(q=b∧∃ r',r'<r∧∃ s,zf2 c a b r' s))=zbE n fun q=>q<b+1∧zft c a q:=zbo fun q _=>by
     constructor
     · rintro (h | ⟨rfl,r',_,s,h⟩)
       · exact ⟨by omega,h.2⟩
       exact ⟨by omega,r',s,h⟩
     rintro ⟨h1,h2⟩
     by_cases e:q=b
     · subst e
       obtain ⟨r',s,h⟩:=h2
       exact .inr ⟨rfl,r',by have:=(hlts h).1;omega,s,h⟩
     exact .inl ⟨by omega,h2⟩
   rw [this] at hM9
   refine zag (by omega) ?_
   exact ⟨mk3-1,by omega,b+1,by omega,rfl,by omega,hc9,hM9⟩
 have hr:r<n:=by omega
 have hM9':Mine [g] w9 (.slice (some ⟨g,0,none⟩) n n) (zbE n fun q=>(q<b∧zft c a q)∨(q=b∧((∃ r',r'<r∧∃ s,zf2 c a b r' s)∨∃ s,s<0∧zf2 c a b r s))):=by
   have:(zbE n fun q=>(q<b∧zft c a q)∨(q=b∧((∃ r',r'<r∧∃ s,zf2 c a b r' s)∨∃ s,s<0∧zf2 c a b r s)))=zbE n fun q=>(q<b∧zft c a q)∨(q=b∧∃ r',r'<r∧∃ s,zf2 c a b r' s):=zbo fun q _=>or_congr Iff.rfl (and_congr Iff.rfl ⟨fun h=>h.resolve_right fun ⟨s,h,_⟩=>by omega,.inl⟩)
   rw [this];exact hM9
 refine zas n (fun s us w'=>us=[.int .i64 (s:Int)]∧s≤n∧ChgI g (g+1) w7 w'∧Mine [g] w' (.slice (some ⟨g,0,none⟩) n n) (zbE n fun q=>(q<b∧zft c a q)∨(q=b∧((∃ r',r'<r∧∃ s,zf2 c a b r' s)∨∃ s',s'<s∧zf2 c a b r s')))) 0 (Nat.zero_le _) ⟨rfl,Nat.zero_le _,hc9,hM9'⟩ ?_
 rintro s mk5 u5 w10 hkm5 ⟨hu10,hsl,hc10,hM10⟩
 simp only [List.map_cons,List.map_nil,List.cons.injEq,and_true] at hu10
 rw [hu10]
 have hx10:=hTx hc10
 refine zaa za1 ?_
 refine zab zbN (zap hA) (hx1T.trans hx10) fun v70 h70=>?_
 refine zaf u22 h70 ?_
 rw [hn]
 refine zah ?_
 refine br (fun hlt5=>?_) (fun hge5=>?_)
 case refine_2=>
   have:(zbE n fun q=>(q<b∧zft c a q)∨(q=b∧((∃ r',r'<r∧∃ s,zf2 c a b r' s)∨∃ s',s'<s∧zf2 c a b r s')))=zbE n fun q=>(q<b∧zft c a q)∨(q=b∧∃ r',r'<r+1∧∃ s,zf2 c a b r' s):=zbo fun q _=>or_congr Iff.rfl (and_congr Iff.rfl (by
     constructor
     · rintro (⟨r',h,s',h2⟩ | ⟨s',_,h2⟩)
       · exact ⟨r',by omega,s',h2⟩
       exact ⟨r,by omega,s',h2⟩
     rintro ⟨r',h,s',h2⟩
     by_cases e:r'=r
     · subst e;exact .inr ⟨s',by have:=(hlts h2).2;omega,h2⟩
     exact .inl ⟨r',by omega,s',h2⟩))
   rw [this] at hM10
   refine zag (by omega) ?_
   exact ⟨mk4-1,by omega,r+1,by omega,rfl,by omega,hc10,hM10⟩
 have hs:s<n:=by omega
 have hskip:¬zf2 c a b r s→RD Tryz.prog (bin .add 3 (.tmp 0) (.const undef) (.int .i64 (s:Int)) (.int .i64 1)) w10 fun x74=>∃ m',m'<mk5∧∃ k',k'+m'=n∧[x74]=[.int .i64 (k':Int)]∧k'≤n∧ChgI g (g+1) w7 w10∧Mine [g] w10 (.slice (some ⟨g,0,none⟩) n n) (zbE n fun q=>(q<b∧zft c a q)∨(q=b∧((∃ r',r'<r∧∃ s,zf2 c a b r' s)∨∃ s',s'<k'∧zf2 c a b r s'))):=fun hno=>by
   refine zag (by omega) ?_
   refine ⟨mk5-1,by omega,s+1,by omega,rfl,by omega,hc10,?_⟩
   have:(zbE n fun q=>(q<b∧zft c a q)∨(q=b∧((∃ r',r'<r∧∃ s,zf2 c a b r' s)∨∃ s',s'<s+1∧zf2 c a b r s')))=zbE n fun q=>(q<b∧zft c a q)∨(q=b∧((∃ r',r'<r∧∃ s,zf2 c a b r' s)∨∃ s',s'<s∧zf2 c a b r s')):=zbo fun q _=>or_congr Iff.rfl (and_congr Iff.rfl (or_congr Iff.rfl (by
     constructor
     · rintro ⟨s',h,h2⟩
       by_cases e:s'=s
       · subst e;exact absurd h2 hno
       exact ⟨s',by omega,h2⟩
     rintro ⟨s',h,h2⟩;exact ⟨s',by omega,h2⟩)))
   rw [this];exact hM10
 have hmr:=zaI (n:=n) (p:=RootP c) (i:=r)
 have hms:=zaI (n:=n) (p:=RootP c) (i:=s)
 rw [zaL (by rw [zak];exact hr)] at hmr
 rw [zaL (by rw [zak];exact hs)] at hms
 have eRt:Ext wb w10:=hRtT.trans hx10
 refine zad zcm ty4 (i:=r) hRt (by rw [zak];exact hr) fun b1 o1 hA1=>?_
 refine zax ty4 hA1 eRt ?_
 refine zbI (fun hf=>?_) (fun hf=>hskip fun h=>by rw [hmr.2 ⟨hr,h.1⟩] at hf;cases hf)
 have hR:=(hmr.1 hf).2
 refine zad zcm ty4 (i:=s) hRt (by rw [zak];exact hs) fun b2 o2 hA2=>?_
 refine zax ty4 hA2 eRt ?_
 refine zbI (fun hf2=>?_) (fun hf2=>hskip fun h=>by rw [hms.2 ⟨hs,h.2.1⟩] at hf2;cases hf2)
 have hSr:=(hms.1 hf2).2
 have eF:Ext w5 w10:=hx5T.trans hx10
 have hfl2:(zf0 c n).length=n:=by simp [zf0]
 have hfget:∀ (i:Nat) (hi:i<(zf0 c n).length),(zf0 c n)[i]=zbE n (FromP c i):=fun i hi=>by simp [zf0,hn]
 have hma:=zaI (n:=n) (p:=FromP c r) (i:=a)
 have hmb:=zaI (n:=n) (p:=FromP c s) (i:=b)
 rw [zaL (by rw [zak];exact ha)] at hma
 rw [zaL (by rw [zak];exact hb)] at hmb
 refine zad u99 zcq (i:=r) hFr (by rw [hfl2];exact hr) fun b3 o3 hA3=>?_
 rw [hfget] at hA3
 refine zab zcq hA3 eF fun v89 h89=>?_
 refine zad zcm ty4 (i:=a) h89 (by rw [zak];exact ha) fun b4 o4 hA4=>?_
 refine zax ty4 hA4 eF ?_
 refine zbI (fun hf3=>?_) (fun hf3=>hskip fun h=>by rw [hma.2 ⟨ha,h.2.2.1⟩] at hf3;cases hf3)
 have hFa:=(hma.1 hf3).2
 refine zad u99 zcq (i:=s) hFr (by rw [hfl2];exact hs) fun b5 o5 hA5=>?_
 rw [hfget] at hA5
 refine zab zcq hA5 eF fun v98 h98=>?_
 refine zad zcm ty4 (i:=b) h98 (by rw [zak];exact hb) fun b6 o6 hA6=>?_
 refine zax ty4 hA6 eF ?_
 refine zbI (fun hf4=>?_) (fun hf4=>hskip fun h=>by rw [hmb.2 ⟨hb,h.2.2.2.1⟩] at hf4;cases hf4)
 have hFb:=(hmb.1 hf4).2
 refine zaz ?_
 refine zoa (Q:=zf2 c a b r s) (fun h=>⟨hR,hSr,hFa,hFb,.inl (by have:=of_decide_eq_true h;omega)⟩) (fun hB=>?_) (fun key h=>?_)
 · refine zbk (α:=Bool) (i:=b) rfl zcm ty4 hb ?_
   refine zaW (α:=Bool) rfl ty4 hM10 zak hb zbb fun w11 hc11 hM11=>?_
   refine zag (by omega) ?_
   refine ⟨mk5-1,by omega,s+1,by omega,rfl,by omega,hc10.trans (zdm hc11),?_⟩
   have hset:=zlz (n:=n) (q:=b) (p:=fun q=>(q<b∧zft c a q)∨(q=b∧((∃ r',r'<r∧∃ s,zf2 c a b r' s)∨∃ s',s'<s∧zf2 c a b r s'))) (p':=fun q=>(q<b∧zft c a q)∨(q=b∧((∃ r',r'<r∧∃ s,zf2 c a b r' s)∨∃ s',s'<s+1∧zf2 c a b r s'))) hb fun q=>by
     constructor
     · rintro (h | ⟨e,_⟩)
       · exact .inl (.inl h)
       exact .inr e
     rintro ((h | ⟨e,h | ⟨s',h1,h2⟩⟩) | e)
     · exact .inl h
     · exact .inr ⟨e,.inl h⟩
     · exact .inr ⟨e,.inr ⟨s',by omega,h2⟩⟩
     exact .inr ⟨e,.inr ⟨s,by omega,hB⟩⟩
   rw [←hset];exact hM11
 have hrs:r=s:=by have:=of_decide_eq_false h;omega
 have hsl2:(zgo c n).length=n:=by simp [zgo]
 refine zad zcm ty4 (i:=r) hSi (by rw [hsl2];exact hr) fun b7 o7 hA7=>?_
 rw [show (zgo c n)[r]'(by rw [hsl2];exact hr)=decide (RootP c r∧zc8 c r) by simp only [zgo,List.getElem_map,List.getElem_range]] at hA7
 refine zax ty4 hA7 eF ?_
 refine za0 ?_
 refine zbI (fun hf5=>key ⟨hR,hSr,hFa,hFb,.inr fun hS=>?_⟩) (fun hf5=>hskip fun hB=>?_)
 · rw [decide_eq_true (⟨hR,hS⟩:RootP c r∧zc8 c r)] at hf5;cases hf5
 rcases hB.2.2.2.2 with h2 | h2
 · exact h2 hrs
 rw [decide_eq_false (fun h3:RootP c r∧zc8 c r=>h2 h3.2)] at hf5;cases hf5
instance flatRawM:Flat Raw:=⟨fun h=>h.1⟩
section
variable {w0 w w':World} {lo hi g n:Nat} {out:Value} {L:List DRace} {vs:List Raw} {T:Nat→List DTouch}
end
end Go.Proofs.YtifonhplnmpgaaaGreat
