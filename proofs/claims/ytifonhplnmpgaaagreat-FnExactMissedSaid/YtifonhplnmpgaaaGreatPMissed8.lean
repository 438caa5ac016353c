/-
  Parts of the proof, put together by program.
-/
import Derived.Test.YtifonhplnmpgaaaGreatPMissed7
set_option linter.unusedVariables false
set_option linter.unusedSimpArgs false
set_option linter.unusedSectionVars false
namespace Go.Proofs.YtifonhplnmpgaaaGreat
open Go Go.Sh Go.Proofs
open Rep (rep)
def F139 (a0:Value) (w:World) (R:VW):Prop:=
 NIL a0 <|
 rF 114 a0 0 w λx5=>
 rF 32 x5 2 w λx6=>
 rL 22 x6 w λx7=>
 cL 186 [x7,(Value.string (ByteArray.mk #[109,97,105,110]))] w λx8 w=>
 R x8 w
theorem F139_call {a0 w R} (h:F139 a0 w R):cL 139 [a0] w R:=co (g:=(kf [] [] [])) Tryz.func139 h
def F80 (a0:Value) (w:World) (R:VW):Prop:=
 cL 139 [a0] w λx6 w=>
 rD (convert 3 121 x6) w λx7=>
 rB .shl 3 U0 T0 (iV 1) x7 w λx8=>
 LOOPI [2,3] [x8,vT] w λu2 w n2=>
 BR (u2 3)
 (NIL a0 <|
 rF 114 a0 4 w λx13=>
 rL 23 x13 w λx14=>
 cL 138 [x14,(u2 2)] w λx16 w=>
 NIL a0 <|
 rF 114 a0 6 w λx18=>
 oS 3 x18 x16 w λw=>
 (λw=>NIL a0 <|
 rF 114 a0 3 w λx22=>
 rL 23 x22 w λx23=>
 NIL a0 <|
 rF 114 a0 6 w λx26=>
 rL 3 x26 w λx27=>
 (λw_=>cL 138 [x23,x27] w_ λx28 w=>
 Ext w_ w ∧
 rB .or 3 T0 T0 (u2 2) x28 w λx29=>
 rB .neq 3 T0 T0 x29 (u2 2) w λx32=>
 n2 [x29,x32] w) w) (World.drew1 w))
 (NIL a0 <|
 rF 114 a0 5 w λx37=>
 oS 3 x37 (u2 2) w λw=>
 R (Value.tuple #[]) w)
theorem F80_call {a0 w R} (h:F80 a0 w R):cL 80 [a0] w R:=co (g:=(kf [] [(2,17179868700,[2,3])] [(4,[0,1,2,3,4,5,6,7,8,9,10,11],512)])) Tryz.func80 h
def F42 (a0:Value) (w:World) (R:VW):Prop:=
 oX 32 a0 w λx1 w=>
 rL 32 x1 w λx7=>
 cL 77 [x7] w λx8 w=>
 rT x8 w λx9=>
 BR x9
 (R (Value.tuple #[(Value.pointer none),vF]) w)
 ((λw=>rL 32 x1 w λx10=>
 rF 32 x1 4 w λx11=>
 rL 30 x11 w λx12=>
 rN 30 3 x12 w λx13=>
 (λw_=>oP (Instr.makeSlice 101 x13 x13) w_ λx14 w=>
 Ext w_ w ∧
 (rD (Instr.build 114 #[(0,x10),(1,x14)]) w λx15=>
 oX 114 x15 w λx16 w=>
 rF 32 x1 3 w λx17=>
 rL 23 x17 w λx18=>
 rN 23 3 x18 w λx19=>
 LOOPI [20] [(iV 0)] w λu5 w n5=>
 rC (u5 20) x19 w λx21=>
 BR x21
 (rX 23 x18 (u5 20) w λx22=>
 rL 3 x22 w λx23=>
 NIL x16 <|
 rF 114 x16 1 w λx26=>
 rL 101 x26 w λx27=>
 rX 101 x27 x23 w λx29=>
 oS 4 x29 vT w λw=>
 NIL x16 <|
 rF 114 x16 1 w λx33=>
 rL 101 x33 w λx34=>
 cL 78 [x16,x34,x23] w λx36 w=>
 rI (u5 20) w λx37=>
 n5 [x37] w)
 (cL 79 [x16] w λx39 w=>
 cL 80 [x16] w λx41 w=>
 R (Value.tuple #[x16,vT]) w))) w) (World.drew1 w))
theorem F42_call {a0 w R} (h:F42 a0 w R):cL 42 [a0] w R:=co (g:=(kf [] [(5,274876858432,[20])] [(3,[0,1,2,3,4,5,6,7],16)])) Tryz.func42 h
open Rep (rep)
theorem zuY {w:World} {g e o:Nat} {cs:List Value} {x:Int} (hB:Blk g e w cs) (ho:cs[o]?=some (.int .i64 x)) (hx:I64 x):At w g o x:=by
 refine ⟨[],[.int .i64 x],⟨rfl,rfl,hx⟩,λi u hi=>?_⟩
 have:i=0:=by
   cases i with
   | zero=>rfl
   | succ i=>simp at hi
 subst this;simp only [List.getElem?_cons_zero,Option.some.injEq] at hi;subst hi;have:=hB.range o _ ho;rw [Nat.zero_add] at this;exact this
section
variable {W0 w w':World} {b e m g6 g7 g8:Nat} {c:DCode} {kc:List Value} {c6 c7 c8:List Nat} {x9 x10 y9 y10:Value}
theorem FC.cells (h:FC W0 w b e c kc m g6 g7 g8 c6 c7 c8 x9 x10) (hc:ChgI b (b+1) w w') (hB:Blk b e w' (kc++[.slice (some ⟨m,0,none⟩) c.ins.length c.ins.length,sl g6 c.procs.length,sl g7 c.procs.length,sl g8 c.procs.length,y9,y10])):FC W0 w' b e c kc m g6 g7 g8 c6 c7 c8 y9 y10:=
 ⟨h.wb.cells hc hB,zd5 h.m6 hc.one (by simp [h.n6]),zd5 h.m7 hc.one (by simp [h.n7]),zd5 h.m8 hc.one (by simp [h.n8]),h.n6,h.n7,h.n8,h.d67,h.d68,h.d78⟩
theorem FC.store9 {x:Nat} {K:World→Prop} (h:FC W0 w b e c kc m g6 g7 g8 c6 c7 c8 x9 x10) (k:∀ w',FC W0 w' b e c kc m g6 g7 g8 c6 c7 c8 (.int .i64 (x:Int)) x10→K w'):OPU tp (Instr.storeAt 3 (.pointer (some ⟨b,0+9,none⟩)) (.int .i64 (x:Int))) w K:=by
 have hl:9<(kc++[Value.slice (some ⟨m,0,none⟩) c.ins.length c.ins.length,sl g6 c.procs.length,sl g7 c.procs.length,sl g8 c.procs.length,x9,x10]).length:=by rw [List.length_append,h.wb.k5];simp
 refine zdl (α:=Raw) (lo:=0) (hi:=0) ty3 rfl rfl h.wb.blk hl (zdo rfl) λw2 hc2 hB2=>?_;have:=h.wb.set 4 (.int .i64 (x:Int));rw [show 5+4=0+9 by omega] at this;rw [this] at hB2;exact k w2 (h.cells hc2 hB2)
theorem FC.store10 {x:Nat} {K:World→Prop} (h:FC W0 w b e c kc m g6 g7 g8 c6 c7 c8 x9 x10) (k:∀ w',FC W0 w' b e c kc m g6 g7 g8 c6 c7 c8 x9 (.int .i64 (x:Int))→K w'):OPU tp (Instr.storeAt 3 (.pointer (some ⟨b,0+10,none⟩)) (.int .i64 (x:Int))) w K:=by
 have hl:10<(kc++[Value.slice (some ⟨m,0,none⟩) c.ins.length c.ins.length,sl g6 c.procs.length,sl g7 c.procs.length,sl g8 c.procs.length,x9,x10]).length:=by rw [List.length_append,h.wb.k5];simp
 refine zdl (α:=Raw) (lo:=0) (hi:=0) ty3 rfl rfl h.wb.blk hl (zdo rfl) λw2 hc2 hB2=>?_;have:=h.wb.set 5 (.int .i64 (x:Int));rw [show 5+5=0+10 by omega] at this;rw [this] at hB2;exact k w2 (h.cells hc2 hB2)
end
theorem zgB {w:World} {b:Nat} {c:DCode} (hA:At w b 0 c) (hc:CodeR c) :
   CALL tp 139 [.pointer (some ⟨b,0,none⟩)] w λr w'=>Ext w w'∧r=.int .i64 (zcj c:Nat):=by
 refine F139_call ?_;unfold F139;refine NIL.mk rfl ?_;refine zab zaZ ?_;refine zab zbf ?_;refine zaa zb1 (zau hA) (Ext.refl _) λv15 h15=>?_;refine (zjf h15 (Ext.refl _)).mono ?_;rintro _ w2 ⟨hx2,rfl⟩;have:=(zd3 hc).1;unfold zkc at this;rw [this];exact ⟨hx2,rfl⟩
structure RM (c:DCode) (r:Nat):Prop where
 lt:r<2^c.procs.length
 self:r.testBit (zcj c)=true
 snd:∀ q,r.testBit q=true→RootP c q
noncomputable def usR (c:DCode) (r:Nat):Nat:=orL (frs c) (zbn r)
theorem zol {c:DCode} {q r:Nat} (hq:q<c.procs.length):(zax (frs c) q).testBit r=true↔r<c.procs.length∧FromP c q r:=by rw [zpy hq,zaT]
theorem zlW {c:DCode} (h8:c.procs.length≤8) {r p:Nat} (h:RM c r):(usR c r).testBit p=true↔∃ q,q<c.procs.length∧r.testBit q=true∧p<c.procs.length∧FromP c q p:=by
 unfold usR;rw [zhk h.lt (by omega)];exact ⟨λ⟨i,h1,h2,h3⟩=>⟨i,h1,h2,(zol h1).1 h3⟩,λ⟨i,h1,h2,h3⟩=>⟨i,h1,h2,(zol h1).2 h3⟩⟩
theorem zuZ {c:DCode} (h8:c.procs.length≤8) {r:Nat} (h:RM c r):usR c r<2^c.procs.length:=zok λp hp=>by
 obtain ⟨_,_,_,h3,_⟩:=(zlW h8 h).1 hp;exact h3
theorem RM.start {c:DCode} (hc:CodeR c):RM c (2^zcj c):=⟨Nat.pow_lt_pow_right (by omega) (zd3 hc).2,by simp [Nat.testBit_two_pow],λq hq=>by simp [Nat.testBit_two_pow] at hq;exact hq▸.main⟩
theorem RM.more_bit {c:DCode} (h8:c.procs.length≤8) {r q:Nat} (h:RM c r):(orL (cls c 5) (zbn (usR c r))).testBit q=true↔∃ p,p<c.procs.length∧(usR c r).testBit p=true∧q<c.procs.length∧zjq c p 5 q:=by
 rw [zhk (zuZ h8 h) (by omega)];exact ⟨λ⟨i,h1,h2,h3⟩=>⟨i,h1,h2,(zh0 h1).1 h3⟩,λ⟨i,h1,h2,h3⟩=>⟨i,h1,h2,(zh0 h1).2 h3⟩⟩
theorem RM.more {c:DCode} (h8:c.procs.length≤8) {r:Nat} (h:RM c r):RM c (r ||| orL (cls c 5) (zbn (usR c r))):=by
 refine ⟨Nat.or_lt_two_pow h.lt (zok λq hq=>by obtain ⟨_,_,_,h3,_⟩:=(h.more_bit h8).1 hq;exact h3),by rw [Nat.testBit_or,h.self];rfl,λq hq=>?_⟩;rw [Nat.testBit_or,Bool.or_eq_true] at hq;rcases hq with hq | hq
 · exact h.snd q hq
 obtain ⟨p,h1,h2,h3,h4⟩:=(h.more_bit h8).1 hq;obtain ⟨s,h5,h6,_,h7⟩:=(zlW h8 h).1 h2;exact .spawn (h.snd s h6) h7 h4 h3
theorem RM.fin {c:DCode} (hc:CodeR c) (h8:c.procs.length≤8) {r:Nat} (h:RM c r) (he:r ||| orL (cls c 5) (zbn (usR c r))=r):r=zcx c∧usR c r=zdT c:=by
 have hall:∀ q,RootP c q→r.testBit q=true:=λq hq=>by
   induction hq with
   | main=>exact h.self
   | @spawn s p q h0 h1 h2 hq ih=>
     have hs:=h0.lt hc;rw [←he,Nat.testBit_or,(h.more_bit h8).2 ⟨p,h1.lt hs,(zlW h8 h).2 ⟨s,hs,ih,h1.lt hs,h1⟩,hq,h2⟩];simp
 refine ⟨zdv λq=>⟨λhq=>⟨(h.snd q hq).lt hc,h.snd q hq⟩,λhq=>hall q hq.2⟩,zdv λp=>?_⟩;rw [zlW h8 h];constructor
 · rintro ⟨q,h1,h2,h3,h4⟩
   exact ⟨h3,q,h.snd q h2,h4⟩
 rintro ⟨h3,q,h1,h2⟩;exact ⟨q,h1.lt hc,hall q h1,h3,h2⟩
theorem znf {w W0:World} {b e m g6 g7 g8:Nat} {c:DCode} {kc:List Value} {x9 x10:Value} (H:FC W0 w b e c kc m g6 g7 g8 (cls c 4) (cls c 5) (frs c) x9 x10) (hc:CodeR c) :
   CALL tp 80 [.pointer (some ⟨b,0,none⟩)] w λr w'=>r=.tuple #[]∧FC W0 w' b e c kc m g6 g7 g8 (cls c 4) (cls c 5) (frs c) (.int .i64 (zcx c:Nat)) (.int .i64 (zdT c:Nat)):=by
 refine F80_call ?_;unfold F80;have h8:=hc.1.procs8;have hml:=(zd3 hc).2;refine (zgB H.wb.code_at hc).mono ?_;rintro _ w1 ⟨hx1,rfl⟩;have H1:=H.step hx1;refine zbI (by kernel_rfl) ziq (by omega) ?_;refine zds (by omega) ?_;have hR:=RM.start hc;have h8':2^c.procs.length≤256:=Nat.pow_le_pow_right (n:=2) (by omega) h8.1;refine LOOPI.mk (λmm us w'=>∃ (s:Nat) (ag:Bool) (y:Value),us=[.int .i64 (s:Int),.bool ag]∧mm=(256-s)+(if ag then 1 else 0)∧FC W0 w' b e c kc m g6 g7 g8 (cls c 4) (cls c 5) (frs c) x9 y∧RM c s∧(ag=false→s=zcx c∧y=.int .i64 (zdT c:Nat))) (256-2^zcj c+1) ⟨2^zcj c,true,x10,rfl,rfl,H1,hR,λe=>by cases e⟩ ?_;rintro mm u2 w2 ⟨s,ag,y,hu,hm,H2,hR2,hend⟩;obtain ⟨hu1,hu2⟩:=zbL hu;rw [hu1,hu2];have hs256:s<256:=Nat.lt_of_lt_of_le hR2.lt h8';refine zbz (λhag=>?_) (λhag=>?_)
 · rw [hag,if_pos rfl] at hm
   refine NIL.mk rfl ?_;refine zab ziV ?_;refine zaA za4 H2.wb.blk (H2.wb.cell 3) ?_;refine (zfZ H2.m8.is (Ext.refl _) (zwE h8.1) (by rw [zhY];exact h8.1) (m:=s) (by rw [zhY];exact hR2.lt)).mono ?_;rintro _ w3 ⟨hx3,rfl⟩;have H3:=H2.step hx3;have hul:=zuZ h8.1 hR2;have hu256:usR c s<256:=Nat.lt_of_lt_of_le hul h8';have hue:orL (frs c) (zbn s)=usR c s:=rfl;rw [hue];refine NIL.mk rfl ?_;refine zab zgk ?_;refine H3.store10 λw4 H4=>?_;have hxd:=zaj w4;have H5:=H4.step hxd;generalize World.drew1 w4=w5 at *;refine NIL.mk rfl ?_;refine zab znJ ?_;refine zaA za4 H5.wb.blk (H5.wb.cell 2) ?_;refine NIL.mk rfl ?_;refine zab zgk ?_;refine zaA ty3 H5.wb.blk (H5.wb.cell 5) ?_;refine (zfZ H5.m7.is (Ext.refl _) (zpG h8.1 5) (by rw [zfN];exact h8.1) (m:=usR c s) (by rw [zfN];exact hul)).mono ?_;rintro _ w6 ⟨hx6,rfl⟩;have H6:=H5.step hx6;have hor:=zph (zpG h8.1 5) (zbn (usR c s));have hR6:=hR2.more h8.1;have hfin:=hR2.fin hc h8.1;have hgt:=λh=>zt7 (m:=orL (cls c 5) (zbn (usR c s))) (n:=s) h;refine ⟨hx6,?_⟩;refine ze3 (m:=s) (n:=orL (cls c 5) (zbn (usR c s))) (by omega) (by omega) ?_;have hor2:s ||| orL (cls c 5) (zbn (usR c s))<256:=Nat.or_lt_two_pow (n:=8) hs256 hor;generalize s ||| orL (cls c 5) (zbn (usR c s))=t at *;refine zaB ?_;by_cases hts:t=s
   · refine ⟨256-t,by omega,t,_,_,rfl,?_,H6,hR6,λ_=>?_⟩
     · rw [hts];simp
     rw [(hfin hts).2];exact ⟨by rw [hts];exact (hfin hts).1,rfl⟩
   have hd:decide ((t:Int)≠(s:Int))=true:=decide_eq_true λh=>hts (Int.ofNat_inj.1 h);have:=hgt hts;rw [hd];exact ⟨256-t+1,by omega,t,true,_,rfl,rfl,H6,hR6,λe=>by cases e⟩
 obtain ⟨hse,hye⟩:=hend hag;rw [hye] at H2;refine NIL.mk rfl ?_;refine zab zgj ?_;refine H2.store9 λw3 H3=>?_;rw [hse] at H3;exact ⟨rfl,H3⟩
theorem FC.wat {W0 w:World} {b e m g6 g7 g8:Nat} {c:DCode} {kc:List Value} (H:FC W0 w b e c kc m g6 g7 g8 (cls c 4) (cls c 5) (frs c) (.int .i64 (zcx c:Nat)) (.int .i64 (zdT c:Nat))) (h8:c.procs.length≤8):WAt w b c:=by
 have h1:zcx c<256:=zba h8;have h2:zdT c<256:=zba h8;exact ⟨H.wb.wl,zeX H.wb.blk (H.wb.cell 1) H.m6.is,zeX H.wb.blk (H.wb.cell 2) H.m7.is,zeX H.wb.blk (H.wb.cell 3) H.m8.is,zuY H.wb.blk (H.wb.cell 4) (by unfold I64;omega),zuY H.wb.blk (H.wb.cell 5) (by unfold I64;omega)⟩
theorem zqy {w W0:World} {v0:Value} {c:DCode} (h0:Is W0 v0 c) (e0:Ext W0 w) :
   CALL tp 42 [v0] w λr w'=>Ext w w'∧((¬CodeR c∧r=.tuple #[.pointer none,.bool false])∨(CodeR c∧∃ b,r=.tuple #[.pointer (some ⟨b,0,none⟩),.bool true]∧WAt w' b c)):=by
 refine F42_call ?_;unfold F42;refine zbj h0 e0 λw1 hx1 hA=>?_;refine zaa zbq hA (Ext.refl _) λv7 h7=>?_;refine (zlt h7 (Ext.refl _)).mono ?_;rintro _ w2 ⟨hx2,rfl⟩;refine zaq ?_;refine br (λhn=>?_) (λhy=>?_)
 · exact ⟨hx1.t hx2,.inl ⟨hn,rfl⟩⟩
 have hc:CodeR c:=Decidable.not_not.1 hy;have h8:=hc.1.procs8;have hil:=hc.f.ins;have hz0:=(zdY hc h8.2).2.2;have hxd:=zaj w2;have hx3:=hx2.t hxd;generalize World.drew1 w2=w3 at *;refine zaa zbq hA hx3 λv10 h10=>?_;refine zab zaD ?_;refine zaa zcu (zai hA) hx3 λv12 h12=>?_;refine zae u30 h12 ?_;refine zd2 (by omega) (by omega) λw4 hx4 hM4=>?_;have hs4:=hx4.size;have hm4:=hM4.lt _ (List.mem_singleton.2 rfl);generalize hm:w3.heap.size=m at *;have h10':=h10.ext hx3;have hcells:=zkJ h10';obtain ⟨F,kc,hr,hkc⟩:=h10';obtain ⟨a0,a1,a2,a3,a4,n0,n1,n2,n3,n4,k0,k1,k2,k3,k4,hcv⟩:=hcells
 have hkce:kc=[.slice a0 n0 k0,.slice a1 n1 k1,.slice a2 n2 k2,.slice a3 n3 k3,.slice a4 n4 k4]:=by
   rw [hkc] at hcv;have:(Value.agg kc.toArray)=.agg #[.slice a0 n0 k0,.slice a1 n1 k1,.slice a2 n2 k2,.slice a3 n3 k3,.slice a4 n4 k4]:=hcv;simpa using this
 rw [hcv];refine ⟨hx4,?_⟩;refine zch (cells:=#[.slice a0 n0 k0,.slice a1 n1 k1,.slice a2 n2 k2,.slice a3 n3 k3,.slice a4 n4 k4,sl m c.ins.length,.slice none 0 0,.slice none 0 0,.slice none 0 0,.int .i64 0,.int .i64 0]) (by kernel_rfl) ?_;refine zla λw5 hx5 hB5=>?_;have hB5':Blk w4.heap.size 114 w5 (kc++[sl m c.ins.length,.slice none 0 0,.slice none 0 0,.slice none 0 0,.int .i64 0,.int .i64 0]):=by rw [hkce];exact hB5
 have hk5:kc.length=5:=Rep.len hr;clear hB5 hcv hkc;have hM5:=hM4.ext hx5;have hx35:Ext w3 w5:=hx4.t hx5;generalize hb:w4.heap.size=b at *;refine zab za6 ?_;refine zaa za4 (zap hA) (hx3.t hx35) λv18 h18=>?_;have h18:=h18.ext hx3;refine zae u23 h18 ?_;have hel:c.entry.length=c.procs.length:=hc.2.1.1;rw [hel];have hrep0:List.replicate c.ins.length false=zby c.ins.length (λi=>∃ p,p<0∧zaG c p i):=zcT _ λi ⟨p,h,_⟩=>by omega
 rw [hrep0] at hM5;have hcell0:∀ {x1 x2 x3 x4 x5:Value},(kc++[sl m c.ins.length,x1,x2,x3,x4,x5])[0+5]?=some (sl m c.ins.length):=by intros;rw [List.getElem?_append_right (by rw [hk5];omega),hk5];rfl
 refine zam c.procs.length (λk us w'=>us=[.int .i64 (k:Int)]∧k≤c.procs.length∧Ext w3 w'∧Blk b 114 w' (kc++[sl m c.ins.length,.slice none 0 0,.slice none 0 0,.slice none 0 0,.int .i64 0,.int .i64 0])∧Mine [m] w' (sl m c.ins.length) (zby c.ins.length λi=>∃ p,p<k∧zaG c p i)) 0 (z0 _) ⟨rfl,z0 _,hx35,hB5',hM5⟩ ?_;rintro k mk u w6 hkm ⟨hu,hkl,hx6,hB6,hM6⟩;try replace hu:=zbi hu
 rw [hu];refine zag ?_;refine br (λhlt=>?_) (λhge=>?_)
 · have hk:k<c.procs.length:=by omega
   have hke:k<c.entry.length:=by omega
   obtain ⟨he1,he2,he3⟩:=zfg hc hke;refine zac u23 ty3 (i:=k) h18 hke λb5 o5 hA5=>?_;rw [zbm hke,he1] at hA5;refine zad ty3 hA5 hx6 λ_=>?_;refine NIL.mk rfl ?_;refine zab zk5 ?_;refine zaA zcd hB6 hcell0 ?_;refine zbE (α:=Bool) rfl zcy ty4 he2 ?_;refine za9 (α:=Bool) rfl ty4 hM6 zak he2 zbu λw7 hc7 hm7=>?_;have hB7:=hB6.chgF hc7 (by simp;omega);have hx7:Ext w3 w7:=hx6.chgF hc7 (by simp [hm])
   have hmk7:∀ i,mkd ((zby c.ins.length λi=>∃ p,p<k∧zaG c p i).set (eN c k) true) i↔(i<c.ins.length∧∃ p,p<k∧zaG c p i)∨i=eN c k:=λi=>by
     rw [zcp (by rw [zak];exact he2),zaF]
   have hl7:((zby c.ins.length λi=>∃ p,p<k∧zaG c p i).set (eN c k) true).length=c.ins.length:=by rw [List.length_set,zak]
   generalize (zby c.ins.length λi=>∃ p,p<k∧zaG c p i).set (eN c k) true=ms7 at *;refine NIL.mk rfl ?_;refine zab zk5 ?_;refine zaA zcd hB7 hcell0 ?_;have hK7:KAt w3 w7 b c:=⟨F,kc,hr,zpF hB7,hB7.lt⟩;refine (zmP hK7 hx7 hc rfl he2 hm7 hl7 (by omega) (by omega) ?_).mono ?_
   · intro i hi hne j hj
     rcases (hmk7 i).1 hi with ⟨h1,p,h2,h3⟩ | h
     · have hil:=zcJ hc h1 hj
       exact (hmk7 j).2 (.inl ⟨hil.1,p,h2,zrY h3 hj⟩)
     exact absurd h hne
   rintro _ w8 ⟨rfl,hc8,hM8⟩
   have hset:(zby c.ins.length λi=>mkd ms7 i∨RP (zaC c) (eN c k) i)=zby c.ins.length λi=>∃ p,p<k+1∧zaG c p i:=zaN λi hi=>by
     rw [hmk7];constructor
     · rintro ((⟨_,p,h2,h3⟩ | h) | h)
       · exact ⟨p,by omega,h3⟩
       · exact ⟨k,by omega,.inl h⟩
       exact ⟨k,by omega,.inr h⟩
     rintro ⟨p,h2,h3⟩;by_cases e:p=k
     · subst e
       rcases h3 with h3 | h3
       · exact .inl (.inr h3)
       exact .inr h3
     exact .inl (.inl ⟨hi,p,by omega,h3⟩)
   rw [hset] at hM8;refine zas ?_;exact ⟨mk-1,by omega,k+1,by omega,rfl,by omega,hx7.chgI hc8 (by omega),hB7.chgI hc8 (by omega),hM8⟩
 have hke:k=c.procs.length:=by omega
 have hal:(zby c.ins.length λi=>∃ p,p<k∧zaG c p i)=zby c.ins.length (zeI c):=by rw [hke];rfl
 rw [hal] at hM6;have HW:WB w3 w6 b 114 c kc m (.slice none 0 0) (.slice none 0 0) (.slice none 0 0) (.int .i64 0) (.int .i64 0):=⟨hx6,hB6,⟨F,hr⟩,hM6,by omega,by omega,by omega⟩;refine (zne HW hc).mono ?_;rintro _ w7 ⟨rfl,g6,g7,g8,H7⟩;refine (znf H7 hc).mono ?_;rintro _ w8 ⟨rfl,H8⟩;exact ⟨hx1.t (hx3.t H8.wb.ext),.inr ⟨hc,b,rfl,H8.wat h8.1⟩⟩
def F46 (a0:Value) (w:World) (R:VW):Prop:=
 cL 86 [a0] w λx11 w=>
 cL 87 [a0,x11] w λx14 w=>
 NIL a0 <|
 rF 114 a0 0 w λx17=>
 rF 32 x17 4 w λx18=>
 rL 30 x18 w λx19=>
 rN 30 3 x19 w λx20=>
 LOOPI [5,21] [(Value.slice none 0 0),(iV 0)] w λu5 w n5=>
 rC (u5 21) x20 w λx22=>
 BR x22
 (rX 30 x19 (u5 21) w λx24=>
 rL 111 x24 w λx25=>
 oP (aL 111) w λx7 w=>
 oS 111 x7 x25 w λw=>
 rF 111 x7 0 w λx26=>
 rL 3 x26 w λx27=>
 rB .neq 3 T0 U0 x27 (iV 6) w λx28=>
 BR x28
 (rI (u5 21) w λx55=>
 n5 [(u5 5),x55] w)
 (rX 101 x11 (u5 21) w λx32=>
 rL 4 x32 w λx33=>
 rT x33 w λx34=>
 BR x34
 (rI (u5 21) w λx55=>
 n5 [(u5 5),x55] w)
 (rX 23 x14 (u5 21) w λx38=>
 rL 3 x38 w λx39=>
 cL 66 [x39] w λx40 w=>
 rN 23 3 x40 w λx41=>
 LOOPI [5,42] [(u5 5),(iV 0)] w λu9 w n9=>
 rC (u9 42) x41 w λx43=>
 BR x43
 (rX 23 x40 (u9 42) w λx44=>
 rL 3 x44 w λx45=>
 rF 111 x7 1 w λx48=>
 rL 3 x48 w λx49=>
 rD (Instr.build 104 #[(0,x45),(1,x49),(2,(u5 21))]) w λx51=>
 oP (bS 72 x51) w λx52 w=>
 oP (aP 72 (u9 5) x52) w λx53 w=>
 rI (u9 42) w λx54=>
 n9 [x53,x54] w)
 (rI (u5 21) w λx55=>
 n5 [(u9 5),x55] w))))
 (cL 88 [(u5 5),(Value.func (.func 89) #[] #[])] w λx57 w=>
 R (u5 5) w)
theorem F46_call {a0 w R} (h:F46 a0 w R):cL 46 [a0] w R:=co (g:=(kf [] [(5,72057594035831520,[5,21]),(9,36024398972453408,[5,42])] [])) Tryz.func46 h
open Rep (rep)
theorem zu0 {w:World} {a b d:Int} (ha:I64 a) (hb:I64 b) (hd:I64 d):Is w (.agg #[.int .i64 a,.int .i64 b,.int .i64 d]) (⟨a,b,d⟩:DOrder):=
 ⟨[],_,⟨[],[],[.int .i64 a],_,rfl,rfl,⟨rfl,rfl,ha⟩,⟨[],[],[.int .i64 b],_,rfl,rfl,⟨rfl,rfl,hb⟩,⟨rfl,rfl,hd⟩⟩⟩,rfl⟩
structure OI (wb w:World) (out:Value) (L:List DOrder):Prop where
 ext:Ext wb w
 row:∃ lo hi,wb.heap.size≤lo∧hi≤w.heap.size∧RowI lo hi 104 w out L
theorem OI.step {wb w w':World} {out:Value} {L:List DOrder} (h:OI wb w out L) (hx:Ext w w'):OI wb w' out L:=by
 obtain ⟨lo,hi,h1,h2,hr⟩:=h.row;exact ⟨h.ext.trans hx,lo,hi,h1,Nat.le_trans h2 hx.size,hr.ext hx⟩
theorem OI.own {wb w:World} {out:Value} {L:List DOrder} (h:OI wb w out L):Own wb.heap.size w out L:=by
 obtain ⟨lo,hi,h1,h2,hr⟩:=h.row;exact hr.own.own.mono (by omega)
theorem zsC {w W0:World} {b:Nat} {c:DCode} (hW:WAt W0 b c) (e0:Ext W0 w) (hc:CodeR c) :
   CALL tp 46 [.pointer (some ⟨b,0,none⟩)] w λr w'=>Ext w w'∧Own w.heap.size w' r (zd4 c):=by
 refine F46_call ?_;unfold F46;have hil:=hc.f.ins;have hcode:=hW.wl.code;refine (zuW hW e0 hc).mono ?_;rintro v11 w1 ⟨hx1,ho1⟩;refine (zwD hW (e0.t hx1) ho1.is (Ext.refl _) hc).mono ?_;rintro v14 w2 ⟨hx2,ho2⟩;have hx12:=hx1.t hx2;have hMe:=ho1.is.ext hx2;have hMa:=ho2.is;have hs12:=hx12.size;refine NIL.mk rfl ?_;refine zab zaZ ?_;refine zab zaD ?_;refine zaa zcu (zai hcode) (e0.t hx12) λv19 h19=>?_;refine zae u30 h19 ?_;have hml:(zfq c).length=c.ins.length:=by unfold zfq;rw [zak]
 have hbl:=zt0 c;have hO0:OI w2 w2 (.slice none 0 0) (znz c 0):=⟨Ext.refl _,w2.heap.size,w2.heap.size,lr _,Nat.le_refl _,zcv _ _ _ _⟩;refine zam c.ins.length (λk us w'=>∃ out,us=[out,.int .i64 (k:Int)]∧k≤c.ins.length∧OI w2 w' out (znz c k)) 0 (z0 _) ⟨_,rfl,z0 _,hO0⟩ ?_;rintro k mk u w3 hkm ⟨out,hu,hkl,hO3⟩;obtain ⟨hu1,hu2⟩:=zbL hu;rw [hu1,hu2];have hsuc:znz c (k+1)=znz c k++zqS c k:=zdD k;have hblk:=hbl k;refine zag ?_;refine br (λhlt=>?_) (λhge=>?_)
 case refine_2=>
   have hke:k=c.ins.length:=by omega
   rw [hke] at hO3 hblk;obtain ⟨lo,hi,h1,h2,hr⟩:=hO3.row;refine (ztW hr.own (by omega)).mono ?_;rintro _ w4 ⟨hc4,ho4⟩;rw [zsg hc] at ho4;exact ⟨(hx12.t hO3.ext).chgI hc4 (by omega),ho4.own.mono (by omega)⟩
 have hk:k<c.ins.length:=by omega
 refine zac u30 zaO h19 hk λb3 o3 hA3=>?_;rw [zaz] at hA3;refine zaa zaO hA3 ((e0.t hx12).trans hO3.ext) λv25 h25=>?_;refine zb7 zfx rfl zaO rfl h25 ((e0.t hx12).trans hO3.ext) λw4 hx4 hAI hV4=>?_;have hO4:=hO3.step hx4;have hgl:w3.heap.size<w4.heap.size:=hV4.lt;have hAB4:=zfA h25 hV4 rfl;have hmk:=zaQ (ms:=zfq c) (i:=k) (by rw [hml];exact hk)
 have hiff:(zfq c)[k]=true↔MetP c k:=by
   rw [←hmk];unfold zfq;rw [zaF];exact ⟨λh=>h.2,λh=>⟨by omega,h⟩⟩
 refine zab zaM ?_;refine zad ty3 (zav hAI) (Ext.refl _) λ_=>?_;refine zaB ?_
 have hno:¬(MetP c k∧(zal c k).op=6)→znz c (k+1)=znz c k:=λh=>by
   rw [hsuc];unfold zqS;rw [if_neg h,List.append_nil]
 refine br (λhne=>?_) (λheq=>?_)
 · refine zas ?_
   exact ⟨mk-1,by omega,k+1,by omega,out,rfl,by omega,by rw [hno λh=>hne h.2];exact hO4⟩
 have h6:(zal c k).op=6:=Decidable.not_not.1 heq;refine zac zcy ty4 (i:=k) hMe (by rw [hml];exact hk) λb4 o4 hA4=>?_;refine zay ty4 hA4 hO4.ext ?_;refine zaX ?_;refine zbz (λhf=>?_) (λhf=>?_)
 · have hnm:¬MetP c k:=λh=>by rw [hiff.2 h] at hf;cases hf
   refine zas ?_;exact ⟨mk-1,by omega,k+1,by omega,out,rfl,by omega,by rw [hno λh=>hnm h.1];exact hO4⟩
 have hMk:MetP c k:=hiff.1 (by simpa using hf);have hag:=(zcN hc hk (.inl h6)).1;have hA:zqS c k=(zbn (zax (zmR c) k)).map (zuR c k):=by unfold zqS;rw [if_pos ⟨hMk,h6⟩]
 rw [hA] at hsuc;refine zac u23 ty3 (i:=k) hMa (by rw [zaf,ziA];exact hk) λb5 o5 hA5=>?_;rw [zaL] at hA5;refine zad ty3 hA5 hO4.ext λ_=>?_;have hm64:=zcY (zr4 c) k;generalize hmm:zax (zmR c) k=m at *;refine (zcU (m:=m) (by omega)).mono ?_;rintro v40 w5 ⟨hx5,ho5⟩;have hO5:=hO4.step hx5;have hBl:=zdA m 64;have hbL:(zbn m).length≤64:=hBl;refine zae u23 ho5.is ?_;obtain ⟨Fb,hmb,hFb⟩:=ho5;have hs5:=hx5.size;have hlb:=hmb.lt;refine zam (zbn m).length (λj us w'=>∃ out',us=[out',.int .i64 (j:Int)]∧j≤(zbn m).length∧Ext w2 w'∧w5.heap.size≤w'.heap.size∧Mine Fb w' v40 (zbn m)∧AtB W0 w' w3.heap.size 0 (zal c k)∧∃ lo hi,w2.heap.size≤lo∧hi≤w'.heap.size∧RowI lo hi 104 w' out' (znz c k++((zbn m).take j).map (zuR c k))∧(w3.heap.size<lo∨hi≤w3.heap.size)∧∀ b∈Fb,b<lo∨hi≤b) 0 (z0 _) ⟨out,rfl,z0 _,hO5.ext,lr _,hmb,hAB4.ext hx5,?_⟩ ?_
 · obtain ⟨lo,hi,h1,h2,hr⟩:=hO3.row
   refine ⟨lo,hi,h1,by omega,by simpa using (hr.ext (hx4.t hx5)),.inr h2,λb hb=>.inr ?_⟩;have:=hFb b hb;omega
 rintro j mj u6 w6 hjm ⟨out6,hu6,hjl,hx26,hs56,hM6,hAB6,lo,hi,h1,h2,hr6,hd3,hdb⟩;obtain ⟨hu61,hu62⟩:=zbL hu6;rw [hu61,hu62];refine zag ?_;refine br (λhlt6=>?_) (λhge6=>?_)
 case refine_2=>refine zas ?_;refine ⟨mk-1,by omega,k+1,by omega,out6,rfl,by omega,?_⟩;rw [hsuc];rw [List.take_of_length_le (by omega)] at hr6;exact ⟨hx26,lo,hi,h1,h2,hr6⟩
 have hj:j<(zbn m).length:=by omega
 refine zac u23 ty3 (i:=j) hM6.is hj λb6 o6 hA6=>?_;refine zad ty3 hA6 (Ext.refl _) λ_=>?_;have hAI6:=hAB6.at ((e0.t hx12).trans hx26);refine zab zaK ?_;refine zad ty3 (zat hAI6) (Ext.refl _) λ_=>?_;refine zch (cells:=#[.int .i64 (zbn m)[j],.int .i64 (zal c k).arg,.int .i64 (k:Int)]) (by kernel_rfl) ?_;obtain ⟨l,hl,hbit⟩:=(zm6 hm64).1 (List.getElem_mem hj);have hl6:=zfe hm64 hbit;have hW:zuR c k (zbn m)[j]=⟨(zbn m)[j],(zal c k).arg,k⟩:=by unfold zuR;rw [hag]
 have hag6:=(zcN hc hk (.inl h6)).2.2
 have hlen:(znz c k++((zbn m).take j).map (zuR c k)).length≤200000:=by
   simp only [List.length_append,List.length_map,List.length_take];omega
 refine zcS (x:=(⟨(zbn m)[j],(zal c k).arg,k⟩:DOrder)) u72 zmf zw9 zwo (by decide) hr6 (lo2:=0) (hi2:=0) (zdH (zu0 (by unfold I64;omega) (by unfold I64;omega) (by unfold I64;omega))) (by rw [zan];omega) (by omega) λv' w' lo' hi' hc7 hr' hd7=>?_;have hs7:=hc7.size;have hs26:=hx26.size;refine zas ?_;refine ⟨mj-1,by omega,j+1,by omega,v',rfl,by omega,hx26.chgI hc7 h1,by omega,hM6.keep λb hb=>?_,hAB6.keep ?_,lo',hi',by omega,by omega,?_,by omega,λb hb=>?_⟩
 · exact hc7.block b (hM6.lt b hb) (hdb b hb)
 · exact hc7.block _ (by omega) hd3
 · rw [tk hj,List.map_append,←List.append_assoc]
   simp only [List.map_cons,List.map_nil];rw [hW];exact hr'
 have:=hdb b hb;have:=hM6.lt b hb;omega
def F45 (a0:Value) (w:World) (R:VW):Prop:=
 rN 72 3 a0 w λx8=>
 LOOPI [3,9] [(Value.slice none 0 0),(iV 0)] w λu3 w n3=>
 rC (u3 9) x8 w λx10=>
 BR x10
 (rX 72 a0 (u3 9) w λx11=>
 rL 104 x11 w λx12=>
 oP (aL 104) w λx5 w=>
 oS 104 x5 x12 w λw=>
 rF 104 x5 0 w λx13=>
 rL 3 x13 w λx14=>
 rF 104 x5 1 w λx15=>
 rL 3 x15 w λx16=>
 rD (Instr.build 106 #[(0,x14),(1,x16)]) w λx17=>
 oP (aL 106) w λx6 w=>
 oS 106 x6 x17 w λw=>
 rL 106 x6 w λx19=>
 cL 85 [(u3 3),x19] w λx20 w=>
 rT x20 w λx21=>
 BR x21
 (rL 106 x6 w λx23=>
 oP (bS 62 x23) w λx24 w=>
 oP (aP 62 (u3 3) x24) w λx25 w=>
 rI (u3 9) w λx26=>
 n3 [x25,x26] w)
 (rI (u3 9) w λx26=>
 n3 [(u3 3),x26] w))
 (R (u3 3) w)
theorem F45_call {a0 w R} (h:F45 a0 w R):cL 45 [a0] w R:=co (g:=(kf [] [(3,134217320,[3,9])] [])) Tryz.func45 h
open Rep (rep)
theorem zom {w W1:World} {v1:Value} {c:DCode} (h1:Is W1 v1 (zd4 c)) (e1:Ext W1 w) (hc:CodeR c) :
   CALL tp 45 [v1] w λr w'=>Ext w w'∧∃ A,AInv (zd4 c) A∧Own w.heap.size w' r A:=by
 refine F45_call ?_;unfold F45;have hol:=zpw hc;have h6l:=hc.1.locks6;refine zae u72 h1 ?_;refine zam (zd4 c).length (λk us w'=>∃ out A,us=[out,.int .i64 (k:Int)]∧k≤(zd4 c).length∧Ext w w'∧RowI w.heap.size w'.heap.size 106 w' out A∧AInv ((zd4 c).take k) A) 0 (z0 _) ⟨_,[],rfl,z0 _,Ext.refl _,zcv _ _ _ _,by rw [List.take_zero];exact AInv.start⟩ ?_;rintro k mk q w2 hkm ⟨out,A,hq,hkl,hx2,hr2,hI⟩;obtain ⟨hq1,hq2⟩:=zbL hq;rw [hq1,hq2];have hs2:=hx2.size;refine zag ?_;refine br (λhlt=>?_) (λhge=>?_)
 case refine_2=>
   have hke:k=(zd4 c).length:=by omega
   rw [hke,List.take_length] at hI;exact ⟨hx2,A,hI,hr2.own.own⟩
 have hk:k<(zd4 c).length:=by omega
 have hso:((zd4 c).take k++[(zd4 c)[k]]).Pairwise ltO:=by
   rw [←tk hk];exact (zoe c).sublist (List.take_sublist _ _)
 have hlenA:=zlN h6l hI.pw (hI.rng hc);refine zac u72 zmf h1 hk λb3 o3 hA3=>?_;refine zaa zmf hA3 (e1.trans hx2) λv12 h12=>?_;refine zb7 zwW rfl zmf rfl h12 (e1.trans hx2) λw3 hx3 hAt3 hV3=>?_;refine zab zk3 ?_;refine zad ty3 (zjB hAt3) (Ext.refl _) λhI0=>?_;refine zab zk4 ?_;refine zad ty3 (zjC hAt3) (Ext.refl _) λhI1=>?_;refine zch (cells:=#[.int .i64 (zd4 c)[k].fr,.int .i64 (zd4 c)[k].to]) (by kernel_rfl) ?_;have hIs:Is w3 (.agg #[.int .i64 (zd4 c)[k].fr,.int .i64 (zd4 c)[k].to]) (zf8 (zd4 c)[k]):=zkt.2 ⟨rfl,hI0,hI1⟩;refine zb7 ztm rfl zdQ rfl hIs (Ext.refl _) λw4 hx4 hAt4 hV4=>?_;refine zaa zdQ hAt4 (Ext.refl _) λv19 h19=>?_;have hr4:=(hr2.ext hx3).ext hx4;refine (zkb hr4.is (Ext.refl _) h19 (Ext.refl _)).mono ?_;rintro _ w5 ⟨hx5,rfl⟩;have hx25:=(hx3.t hx4).trans hx5;refine zaq ?_;refine br (λhno=>?_) (λhyes=>?_)
 · refine zaa zdQ hAt4 hx5 λv23 h23=>?_
   have hs25:=hx25.size;refine zbF (lo2:=w5.heap.size) (hi2:=w5.heap.size) (x:=zf8 (zd4 c)[k]) u62 zdQ zxa zwp (by decide) (hr4.ext hx5) (by omega) (zdH (h23.ext hx5)) (by omega) (by omega) (by rw [zan];omega) (by omega) λv' w9 hc9 hr9=>?_;refine zas ?_;refine ⟨mk-1,by omega,k+1,by omega,v',A++[zf8 (zd4 c)[k]],rfl,by omega,(hx2.t hx25).chgI hc9 (lr _),hr9,?_⟩;rw [tk hk];exact hI.new hso hno
 have hyes:=Decidable.not_not.1 hyes;refine zas ?_;refine ⟨mk-1,by omega,k+1,by omega,out,A,rfl,by omega,hx2.t hx25,(hr4.ext hx5).mono (lr _) hx25.size,?_⟩;rw [tk hk];exact hI.old hyes
theorem zpH {c:DCode} (hc:CodeR c) {A:List DArc} (h:AInv (zd4 c) A):(∀ a∈A,(0≤a.fr∧a.fr<c.locks.length)∧0≤a.to∧a.to<c.locks.length)∧A.length≤2000:=by
 have h1:AInv ((zd4 c).take (zd4 c).length) A:=by rw [List.take_length];exact h
 have h2:=h1.rng hc;have:=zlN hc.1.locks6 h.pw h2;exact ⟨h2,by omega⟩
open Classical in
noncomputable def zon (c:DCode) (k:Nat):List (List Nat):=((zbC c).take k).filter λp=>decide (zoV (nxL c) p)
theorem zt8 {c:DCode} {k:Nat} (hk:k<(zbC c).length) (h:zoV (nxL c) (zbC c)[k]):zon c (k+1)=zon c k++[(zbC c)[k]]:=by
 unfold zon;rw [tk hk,List.filter_append];simp [h]
theorem zvK {c:DCode} {k:Nat} (hk:k<(zbC c).length) (h:¬zoV (nxL c) (zbC c)[k]):zon c (k+1)=zon c k:=by
 unfold zon;rw [tk hk,List.filter_append];simp [h]
theorem zpI (c:DCode) (k:Nat):(zon c k).length≤k:=Nat.le_trans (List.length_filter_le _ _) (by rw [List.length_take];omega)
theorem zoo {c:DCode} {cs:List (List Int)} (hp:cs.Perm ((zon c (zbC c).length).map zaI)) (hs:cs.Pairwise λa b=>hd0 a<hd0 b):cs=(zid c).map zaI:=by
 refine zjQ hs (by rw [List.pairwise_map];exact zsi c) λx=>?_;rw [hp.mem_iff];simp only [List.mem_map,zqr];unfold zon;rw [List.take_length];simp only [List.mem_filter,decide_eq_true_eq]
theorem zt9 {α:Type} {f:α→List Nat} {Z:List α} {z:α} (hz:z∈Z) (h:(Z.flatMap f).Nodup):(f z).Nodup:=by
 obtain ⟨l1,l2,rfl⟩:=List.append_of_mem hz;rw [List.flatMap_append,List.nodup_append] at h;have h2:=h.2.1;rw [List.flatMap_cons,List.nodup_append] at h2;exact h2.1
theorem zsD {w:World} {v:Value} {l:List (List Int)} {F:List Nat} (hM:Mine F w v l):∃ Z:List (List Nat×Value×List Int),l=Z.map (·.2.2)∧(∀ z∈Z,Mine z.1 w z.2.1 z.2.2)∧(Z.flatMap (·.1)).Nodup∧(∀ c∈Z.flatMap (·.1),c∈F) ∧
   (Z≠[]→∃ b o cap,v=.slice (some ⟨b,o,none⟩) l.length cap∧b∈F∧b∉Z.flatMap (·.1)∧w.rangeAt b o (Z.map (·.2.1))):=by
 obtain ⟨⟨c0,⟨a,cap,Fi,xs,rfl,h1,h2,hc,h4⟩,rfl⟩,hnd,hw⟩:=hM;obtain ⟨Z,rfl,rfl,rfl,hZ⟩:=zgy hc;rcases h4 with ⟨h4,rfl⟩ | ⟨b,o,rfl,rfl,hr,hbl⟩
 · have:Z=[]:=by simpa using h4
   subst this;exact ⟨[],rfl,by simp,by simp,by simp,λh=>absurd rfl h⟩
 rw [List.nodup_cons] at hnd;have hsub:∀ z∈Z,∀ c∈z.1,c∈Z.flatMap (·.1):=λz hz c hc=>List.mem_flatMap.2 ⟨z,hz,hc⟩;refine ⟨Z,rfl,λz hz=>⟨⟨_,hZ z hz,rfl⟩,?_,hw.sub λc hc=>List.mem_cons_of_mem _ (hsub z hz c hc)⟩,hnd.2,λc hc=>List.mem_cons_of_mem _ hc,λ_=>⟨b,o,cap,rfl,by simp,hnd.1,hr⟩⟩;exact zt9 (f:=(·.1)) hz hnd.2
def F43 (a0:Value) (w:World) (R:VW):Prop:=
 (λw=>NIL a0 <|
 rF 114 a0 0 w λx10=>
 rF 32 x10 1 w λx11=>
 rL 22 x11 w λx12=>
 rN 22 3 x12 w λx13=>
 (λw_=>cL 46 [a0] w_ λx15 w=>
 Ext w_ w ∧
 (λw_=>cL 45 [x15] w_ λx16 w=>
 Ext w_ w ∧
 cL 44 [x13,x16] w λx19 w=>
 rN 39 3 x19 w λx20=>
 LOOPI [5,21] [(Value.slice none 0 0),(iV 0)] w λu4 w n4=>
 rC (u4 21) x20 w λx22=>
 BR x22
 (rX 39 x19 (u4 21) w λx23=>
 rL 23 x23 w λx24=>
 cL 81 [x13,x16,x24] w λx28 w=>
 BR x28
 (oP (bS 39 x24) w λx31 w=>
 oP (aP 39 (u4 5) x31) w λx32 w=>
 rI (u4 21) w λx33=>
 n4 [x32,x33] w)
 (rI (u4 21) w λx33=>
 n4 [(u4 5),x33] w))
 (cL 82 [(u4 5),(Value.func (.func 83) #[] #[])] w λx35 w=>
 R (u4 5) w)) w) w) (World.drew1 w)
theorem F43_call {a0 w R} (h:F43 a0 w R):cL 43 [a0] w R:=co (g:=(kf [] [(4,17177772192,[5,21])] [(1,[0,1,2,3,4,5,6,7,8,9,10],384)])) Tryz.func43 h
def F10 (a0:Value) (w:World) (R:VW):Prop:=
 oX 32 a0 w λx1 w=>
 rL 32 x1 w λx10=>
 cL 42 [x10] w λx11 w=>
 rE x11 0 w λx12=>
 rE x11 1 w λx13=>
 rT x13 w λx15=>
 BR x15
 (R (Value.tuple #[(Value.slice none 0 0),vF]) w)
 (cL 43 [x12] w λx18 w=>
 rN 39 3 x18 w λx19=>
 rB .gtr 3 T0 U0 x19 (iV 0) w λx20=>
 BR x20
 (R (Value.tuple #[(Value.slice none 0 0),vF]) w)
 ((λw=>rF 32 x1 1 w λx22=>
 rL 22 x22 w λx23=>
 rN 22 3 x23 w λx24=>
 (λw_=>cL 46 [x12] w_ λx26 w=>
 Ext w_ w ∧
 (λw_=>cL 45 [x26] w_ λx27 w=>
 Ext w_ w ∧
 (λw_=>cL 44 [x24,x27] w_ λx28 w=>
 Ext w_ w ∧
 rN 39 3 x28 w λx29=>
 LOOPI [6,30] [(Value.slice none 0 0),(iV 0)] w λu6 w n6=>
 rC (u6 30) x29 w λx31=>
 BR x31
 (rX 39 x28 (u6 30) w λx32=>
 rL 23 x32 w λx33=>
 oP (aP 23 (u6 6) x33) w λx36 w=>
 rI (u6 30) w λx37=>
 n6 [x36,x37] w)
 (R (Value.tuple #[(u6 6),vT]) w)) w) w) w) (World.drew1 w)))
open Rep (rep)
theorem zng {α β:Type} {f:α→List β} {l:List α} {k:Nat} {x:β} (h:x∈(l.take k).flatMap f):x∈l.flatMap f:=by
 obtain ⟨z,hz,hx⟩:=List.mem_flatMap.1 h;exact List.mem_flatMap.2 ⟨z,List.mem_of_mem_take hz,hx⟩
theorem zqz {α:Type} {f:α→List Nat} {l:List α} {k:Nat} (hk:k<l.length) (hn:(l.flatMap f).Nodup):∀ c∈f l[k],c∉(l.take k).flatMap f:=λc hc h=>by
 have e:l=l.take k++l[k] :: l.drop (k+1):=by rw [←List.drop_eq_getElem_cons hk,List.take_append_drop]
 rw [e,List.flatMap_append,List.nodup_append] at hn;exact hn.2.2 c h c (by rw [List.flatMap_cons];exact List.mem_append_left _ hc) rfl
theorem zdI {α β:Type} {f:α→List β} {l:List α} {k:Nat} (hk:k<l.length):(l.take (k+1)).flatMap f=(l.take k).flatMap f++f l[k]:=by
 rw [tk hk,List.flatMap_append];simp
theorem zsE {w W0:World} {b:Nat} {c:DCode} (hW:WAt W0 b c) (e0:Ext W0 w) (hc:CodeR c) :
   CALL tp 43 [.pointer (some ⟨b,0,none⟩)] w λr w'=>Ext w w'∧Own w.heap.size w' r ((zid c).map zaI):=by
 refine F43_call ?_;unfold F43;have h6l:=hc.1.locks6;have hcode:=hW.wl.code;have hxd:=zaj w;generalize World.drew1 w=w1 at *;refine NIL.mk rfl ?_;refine zab zaZ ?_;refine zab zc5 ?_;refine zaa zb1 (za5 hcode) (e0.t hxd) λv12 h12=>?_;refine zae u22 h12 ?_;refine (zsC hW (e0.t hxd) hc).mono ?_;rintro v15 w2 ⟨hx2,ho2⟩;refine ⟨hx2,?_⟩;refine (zom ho2.is (Ext.refl _) hc).mono ?_;rintro v16 w3 ⟨hx3,A,hAI,ho3⟩;refine ⟨hx3,?_⟩;obtain ⟨hAr,hAl⟩:=zpH hc hAI;refine (znO ho3.is (Ext.refl _) (by omega) hAr hAl).mono ?_;rintro v19 w4 ⟨hx4,ho4⟩;rw [ziC hc hAI] at ho4;have hx03:=(hxd.t hx2).trans hx3;have hs3:=hx03.size;have hs4:=hx4.size;obtain ⟨F,hM,hF⟩:=ho4;change Mine F w4 v19 ((zbC c).map zaI) at hM;have hll:=zjR c;refine zae u39 hM.is ?_;rw [List.length_map];obtain ⟨Z,hZl,hZ,hZn,hZF,hZs⟩:=zsD hM;have hZlen:Z.length=(zbC c).length:=by have:=congrArg List.length hZl;simpa using this.symm
 refine zam (zbC c).length (λk us w'=>∃ out FO,us=[out,.int .i64 (k:Int)]∧k≤(zbC c).length∧Ext w3 w'∧w4.heap.size≤w'.heap.size∧RowG FO 23 w' out ((zon c k).map zaI)∧FO.Nodup∧(∀ x∈FO,x∈(Z.take k).flatMap (·.1)∨w4.heap.size≤x)∧∀ x,x<w4.heap.size→x∉(Z.take k).flatMap (·.1)→w'.heap[x]?=w4.heap[x]?) 0 (z0 _) ⟨_,[],rfl,z0 _,hx4,lr _,.inl ⟨none,rfl,by simp [zon],rfl⟩,List.nodup_nil,by simp,λ_ _ _=>rfl⟩ ?_;rintro k mk q w5 hkm ⟨out,FO,hq,hkl,hx5,hs5,hr5,hn5,hFO,hkeep⟩;obtain ⟨hq1,hq2⟩:=zbL hq;rw [hq1,hq2];have hcl:=zpI c k
 have hFOge:∀ x∈FO,w3.heap.size≤x:=λx hx=>by
   rcases hFO x hx with h | h
   · exact hF x (hZF x (zng h))
   omega
 refine zag ?_;refine br (λhlt=>?_) (λhge=>?_)
 case refine_2=>
   have hke:k=(zbC c).length:=by omega
   rw [hke] at hr5;have hown:OwnI w3.heap.size w5.heap.size w5 out ((zon c (zbC c).length).map zaI):=⟨FO,⟨hr5.own,hn5,hr5.wr⟩,λx hx=>⟨hFOge x hx,hr5.lt x hx⟩⟩
   have hin:∀ p∈zon c (zbC c).length,p∈zbC c:=λp hp=>by
     unfold zon at hp;exact List.mem_of_mem_take (List.mem_filter.1 hp).1
   refine (zt1 hown (by rw [List.length_map];have:=zpI c (zbC c).length;omega) (λx hx=>?_) (λx hx=>?_) ?_).mono ?_
   · obtain ⟨p,hp,rfl⟩:=List.mem_map.1 hx
     obtain ⟨n,_,h2,_⟩:=zf4 (hin p hp);intro e;have h3:p=[]:=List.eq_nil_of_length_eq_zero (by rw [←zaf,e];rfl);rw [h3] at h2;cases h2
   · obtain ⟨p,hp,rfl⟩:=List.mem_map.1 hx
     obtain ⟨n,h1,_,h2⟩:=zf4 (hin p hp);rw [zey h1];omega
   · rw [List.pairwise_map]
     unfold zon;exact ((zm9 c).sublist (List.take_sublist _ _)).filter _
   rintro _ w6 ⟨hc6,cs',ho6,hp6,hs6⟩;rw [zoo hp6 hs6] at ho6;exact ⟨(hx03.t hx5).chgI hc6 hs3,ho6.own.mono hs3⟩
 have hk:k<(zbC c).length:=by omega
 have hkZ:k<Z.length:=by omega
 obtain ⟨b9,o9,cap,rfl,hbF,hbZ,hrZ⟩:=hZs (List.ne_nil_of_length_pos (by omega));have hzk:=hZ _ (List.getElem_mem hkZ)
 have hlk:Z[k].2.2=zaI (zbC c)[k]:=by
   have h1:((zbC c).map zaI)[k]?=(Z.map (·.2.2))[k]?:=by rw [hZl]
   rw [List.getElem?_map,List.getElem?_map,List.getElem?_eq_getElem hk,List.getElem?_eq_getElem hkZ] at h1;simpa using h1.symm
 have hap:=zqz (f:=(·.1)) hkZ hZn;have hzk5:Mine Z[k].1 w5 Z[k].2.1 Z[k].2.2:=hzk.keep λx hx=>hkeep x (hzk.lt x hx) (hap x hx);have hb5:w5.heap[b9]?=w4.heap[b9]?:=hkeep b9 (hM.lt b9 hbF) λh=>hbZ (zng h)
 have hr9:w5.rangeAt b9 (o9+k*1) [Z[k].2.1]:=λj v hj=>by
   cases j with
   | zero=>
     simp only [List.getElem?_cons_zero,Option.some.injEq] at hj;subst hj;rw [World.cell?_of_block (w:=w4) hb5,Nat.mul_one,Nat.add_zero];exact hrZ k _ (by rw [List.getElem?_map,List.getElem?_eq_getElem hkZ];rfl)
   | succ j=>simp at hj
 refine za7 (v:=.pointer (some ⟨b9,o9+k*1,none⟩)) (λw' _=>by rw [zc0 u39 za4 (by omega) (by rw [List.length_map];omega)];simp) ?_
 refine zoQ (α:=List Int) za4 (by
   obtain ⟨cs,hr,hv⟩:=hzk5.own;obtain ⟨v,rfl⟩:∃ v,cs=[v]:=List.length_eq_one_iff.1 (Rep.len hr);have:Z[k].2.1=v:=hv;rw [this];exact hr) hr9 ?_
 change CALL tp _ [_,_,Z[k].2.1] w5 _;rw [hlk] at hzk5;refine (zlx ho3.is hx5 hzk5.is (Ext.refl _) (by omega) hAr hAl (zhU (List.getElem_mem hk)).2 (by have:=(zhU (List.getElem_mem hk)).1;omega)).mono ?_;rintro _ w6 ⟨hx6,bb,rfl,hbb⟩;rw [ziC hc hAI] at hbb;have hs6:=hx6.size;have hr6:=hr5.keep λx hx=>hx6.heap (hr5.lt x hx);have hkeep6:∀ x,x<w4.heap.size→x∉(Z.take k).flatMap (·.1)→w6.heap[x]?=w4.heap[x]?:=λx hx hn=>(hx6.heap (by omega)).trans (hkeep x hx hn);refine zbz (λhy=>?_) (λhn=>?_)
 · have hcy:=hbb.1 hy
   refine zgY (K:=λw1 r w2=>_) u39 za4 z23 zwL (by decide) hr6 hn5 (hzk5.ext hx6) (λx hx hxF=>?_) (by rw [List.length_map,zan];omega) (by rw [List.length_map];omega) (λw7 v' w8 G' hx7 hc8 hR8 hN8 hs8=>?_) λs w7 _ h=>h
   · rcases hFO x hxF with h | h
     · exact hap x hx h
     have:=hzk.lt x hx;omega
   refine zas ?_;refine ⟨mk-1,by omega,k+1,by omega,v',G',rfl,by omega,((hx5.t hx6).trans hx7).chg_trans hc8 hFOge,?_,?_,hN8,λx hx=>?_,λx hx hn=>?_⟩
   · have:=hx7.size;have:=hc8.size;omega
   · rw [zt8 hk hcy,List.map_append];exact hR8
   · rw [zdI hkZ]
     rcases hs8 x hx with h | h | h
     · rcases hFO x h with h | h
       · exact .inl (List.mem_append_left _ h)
       exact .inr h
     · exact .inl (List.mem_append_right _ h)
     exact .inr (by omega)
   rw [zdI hkZ] at hn;have hn1:x∉(Z.take k).flatMap (·.1):=λh=>hn (List.mem_append_left _ h)
   have hnF:x∉FO:=λh=>by
     rcases hFO x h with h | h
     · exact hn1 h
     omega
   have h7:=hx7.size;rw [hc8.block x (by omega) hnF,hx7.heap (by omega)];exact hkeep6 x hx hn1
 have hcy:¬zoV (nxL c) (zbC c)[k]:=λh=>by rw [hbb.2 h] at hn;cases hn
 refine zas ?_;refine ⟨mk-1,by omega,k+1,by omega,out,FO,rfl,by omega,hx5.t hx6,by omega,by rw [zvK hk hcy];exact hr6,hn5,λx hx=>?_,λx hx hn=>?_⟩
 · rw [zdI hkZ]
   rcases hFO x hx with h | h
   · exact .inl (List.mem_append_left _ h)
   exact .inr h
 rw [zdI hkZ] at hn;exact hkeep6 x hx λh=>hn (List.mem_append_left _ h)
open Classical in
open Classical in
open Classical in
def F75 (a0:Value) (w:World) (R:VW):Prop:=
 oX 32 a0 w λx1 w=>
 oP (Instr.buildSlice 72 0 #[]) w λx8 w=>
 rL 32 x1 w λx9=>
 cL 129 [x9] w λx10 w=>
 LOOPI [3,5] [x8,(iV 0)] w λu4 w n4=>
 rF 32 x1 1 w λx12=>
 rL 22 x12 w λx13=>
 rN 22 3 x13 w λx14=>
 rC (u4 5) x14 w λx15=>
 BR x15
 (LOOPI [3,6] [(u4 3),(iV 0)] w λu7 w n7=>
 rF 32 x1 1 w λx19=>
 rL 22 x19 w λx20=>
 rN 22 3 x20 w λx21=>
 rC (u7 6) x21 w λx22=>
 BR x22
 (LOOPI [3,7] [(u7 3),(iV 0)] w λu10 w n10=>
 rF 32 x1 4 w λx26=>
 rL 30 x26 w λx27=>
 rN 30 3 x27 w λx28=>
 rC (u10 7) x28 w λx29=>
 BR x29
 (NIL x10 <|
 rF 159 x10 1 w λx34=>
 rL 101 x34 w λx35=>
 rX 101 x35 (u10 7) w λx37=>
 rL 4 x37 w λx38=>
 BR x38
 (rF 32 x1 4 w λx40=>
 rL 30 x40 w λx41=>
 rX 30 x41 (u10 7) w λx43=>
 rF 111 x43 0 w λx44=>
 rL 3 x44 w λx45=>
 rQ x45 (iV 6) w λx46=>
 BR x46
 (rF 32 x1 4 w λx49=>
 rL 30 x49 w λx50=>
 rX 30 x50 (u10 7) w λx52=>
 rF 111 x52 1 w λx53=>
 rL 3 x53 w λx54=>
 rB .eql 3 T0 T0 x54 (u7 6) w λx56=>
 BR x56
 (NIL x10 <|
 rF 159 x10 2 w λx61=>
 rL 23 x61 w λx62=>
 rX 23 x62 (u10 7) w λx64=>
 rL 3 x64 w λx65=>
 cL 130 [x65,(u4 5)] w λx67 w=>
 BR x67
 (rD (Instr.build 104 #[(0,(u4 5)),(1,(u7 6)),(2,(u10 7))]) w λx73=>
 oP (bS 72 x73) w λx74 w=>
 oP (aP 72 (u10 3) x74) w λx75 w=>
 rI (u10 7) w λx31=>
 n10 [x75,x31] w)
 (rI (u10 7) w λx31=>
 n10 [(u10 3),x31] w))
 (rI (u10 7) w λx31=>
 n10 [(u10 3),x31] w))
 (rI (u10 7) w λx31=>
 n10 [(u10 3),x31] w))
 (rI (u10 7) w λx31=>
 n10 [(u10 3),x31] w))
 (rI (u7 6) w λx24=>
 n7 [(u10 3),x24] w))
 (rI (u4 5) w λx17=>
 n4 [(u7 3),x17] w))
 (R (u4 3) w)
theorem F75_call {a0 w R} (h:F75 a0 w R):cL 75 [a0] w R:=co (g:=(kf [] [(4,75557863725914323417320,[3,5]),(7,75557863725914323157192,[3,6]),(10,75557863725914289864840,[3,7])] [])) Tryz.func75 h
open Rep (rep)
theorem zsF {w W0:World} {v0:Value} {c:DCode} (h0:Is W0 v0 c) (e0:Ext W0 w) (hc:CodeR c) :
   CALL tp 75 [v0] w λr w'=>Ext w w'∧Own w.heap.size w' r (zd4 c):=by
 refine F75_call ?_;unfold F75;have hil:=hc.f.ins;have h6l:=hc.1.locks6;refine zbj h0 e0 λw1 hx1 hA=>?_;refine zaH (α:=DOrder) u72 zmf λa8 w2 hx2 hr2=>?_;have hx12:=hx1.t hx2;refine zaa zbq hA hx2 λv9 h9=>?_;refine (znd h9 hx2 hc).mono ?_;rintro _ w3 ⟨hx3,gw,rfl,hmet,hmay⟩;have hx13:=hx12.t hx3;have hx23:=hx2.t hx3;have hs2:=hx12.size;have hml:(zfq c).length=c.ins.length:=by unfold zfq;rw [zak]
 generalize hwb:w3=wb at *;have hI0:OI wb wb (.slice (some a8) 0 0) ((List.range 0).flatMap (zhi c)):=⟨Ext.refl _,wb.heap.size,wb.heap.size,lr _,Nat.le_refl _,zb8 _ _ _ _ _⟩;refine zam c.locks.length (λk us w'=>∃ out,us=[out,.int .i64 (k:Int)]∧k≤c.locks.length∧OI wb w' out ((List.range k).flatMap (zhi c))) 0 (z0 _) ⟨_,rfl,z0 _,hI0⟩ ?_;rintro fr mk u w4 hkm ⟨out,hu,hkl,hO4⟩;obtain ⟨hu1,hu2⟩:=zbL hu;rw [hu1,hu2];refine zab zc5 ?_;refine zaa zb1 (za5 hA) (hx23.t hO4.ext) λv13 h13=>?_;refine zae u22 h13 ?_;refine zag ?_;refine br (λhlt=>?_) (λhge=>?_)
 case refine_2=>
   have hke:fr=c.locks.length:=by omega
   rw [hke] at hO4;exact ⟨hx13.t hO4.ext,hO4.own.mono (by have:=hx13.size;omega)⟩
 have hfr:fr<c.locks.length:=by omega
 refine zam c.locks.length (λk us w'=>∃ out,us=[out,.int .i64 (k:Int)]∧k≤c.locks.length∧OI wb w' out ((List.range fr).flatMap (zhi c)++(List.range k).flatMap (zjN c fr))) 0 (z0 _) ⟨_,rfl,z0 _,by simpa using hO4⟩ ?_;rintro to mk7 u7 w7 hkm7 ⟨out7,hu7,hkl7,hO7⟩;obtain ⟨hu71,hu72⟩:=zbL hu7;rw [hu71,hu72];refine zab zc5 ?_;refine zaa zb1 (za5 hA) (hx23.t hO7.ext) λv20 h20=>?_;refine zae u22 h20 ?_;refine zag ?_;refine br (λhlt7=>?_) (λhge7=>?_)
 case refine_2=>
   have hke:to=c.locks.length:=by omega
   rw [hke] at hO7;refine zas ?_;exact ⟨mk-1,by omega,fr+1,by omega,out7,rfl,by omega,by rw [zdD];exact hO7⟩
 have hto:to<c.locks.length:=by omega
 refine zam c.ins.length (λk us w'=>∃ out,us=[out,.int .i64 (k:Int)]∧k≤c.ins.length∧OI wb w' out ((List.range fr).flatMap (zhi c)++(List.range to).flatMap (zjN c fr)++(List.range k).flatMap (zfo c fr to))) 0 (z0 _) ⟨_,rfl,z0 _,by simpa using hO7⟩ ?_;rintro i mk10 u10 w10 hkm10 ⟨out10,hu10,hkl10,hO10⟩;obtain ⟨hu101,hu102⟩:=zbL hu10;rw [hu101,hu102];have hx210:=hx23.t hO10.ext;refine zab zaD ?_;refine zaa zcu (zai hA) hx210 λv27 h27=>?_;refine zae u30 h27 ?_;refine zag ?_;refine br (λhlt10=>?_) (λhge10=>?_)
 case refine_2=>
   have hke:i=c.ins.length:=by omega
   rw [hke] at hO10;refine zas ?_;exact ⟨mk7-1,by omega,to+1,by omega,out10,rfl,by omega,by rw [zdD,←List.append_assoc];exact hO10⟩
 have hi:i<c.ins.length:=by omega
 have hsuc:(List.range fr).flatMap (zhi c)++(List.range to).flatMap (zjN c fr)++(List.range (i+1)).flatMap (zfo c fr to)=(List.range fr).flatMap (zhi c)++(List.range to).flatMap (zjN c fr)++(List.range i).flatMap (zfo c fr to)++zfo c fr to i:=by
   rw [zdD,←List.append_assoc]
 have hlen:((List.range fr).flatMap (zhi c)++(List.range to).flatMap (zjN c fr)++(List.range i).flatMap (zfo c fr to)).length≤100000:=by
   have h1:=zm5 hil h6l fr;have h2:=zm4 hil fr to;have h3:=zm3 c fr to i;simp only [List.length_append];omega
 generalize (List.range fr).flatMap (zhi c)++(List.range to).flatMap (zjN c fr)=Lp at *
 have hno:¬OrdP c fr to i→Lp++(List.range (i+1)).flatMap (zfo c fr to)=Lp++(List.range i).flatMap (zfo c fr to):=λh=>by
   rw [hsuc];unfold zfo;rw [if_neg h,List.append_nil]
 have hyes:OrdP c fr to i→Lp++(List.range (i+1)).flatMap (zfo c fr to)=Lp++(List.range i).flatMap (zfo c fr to)++[mkO fr to i]:=λh=>by
   rw [hsuc];congr 1;unfold zfo;rw [if_pos h]
 refine NIL.mk rfl ?_;refine zab zgl ?_;refine zaa zcd hmet hO10.ext λv35 hMe=>?_;have hmk:=zaQ (ms:=zfq c) (i:=i) (by rw [hml];exact hi)
 have hiff:(zfq c)[i]=true↔MetP c i:=by
   rw [←hmk];unfold zfq;rw [zaF];exact ⟨λh=>h.2,λh=>⟨by omega,h⟩⟩
 refine zac zcy ty4 (i:=i) hMe (by rw [hml];exact hi) λb4 o4 hA4=>?_;refine zay ty4 hA4 hO10.ext ?_;refine zbz (λht=>?_) (λhf=>?_)
 case refine_2=>
   have hnm:¬MetP c i:=λh=>by rw [hiff.2 h] at hf;cases hf
   refine zas ?_;exact ⟨mk10-1,by omega,i+1,by omega,out10,rfl,by omega,by rw [hno λh=>hnm h.1];exact hO10⟩
 have hM:=hiff.1 ht;refine zab zaD ?_;refine zaa zcu (zai hA) hx210 λv41 h41=>?_;refine zac u30 zaO h41 hi λb3 o3 hA3=>?_;rw [zaz] at hA3;refine zab zaM ?_;refine zad ty3 (zav hA3) hx210 λ_=>?_;refine zao ?_;refine br (λh6=>?_) (λh6=>?_)
 case refine_2=>refine zas ?_;exact ⟨mk10-1,by omega,i+1,by omega,out10,rfl,by omega,by rw [hno λh=>h6 h.2.1];exact hO10⟩
 obtain ⟨hag,_,hag6⟩:=zcN hc hi (.inl h6);refine zab zaD ?_;refine zaa zcu (zai hA) hx210 λv50 h50=>?_;refine zac u30 zaO h50 hi λb5 o5 hA5=>?_;rw [zaz] at hA5;refine zab zaK ?_;refine zad ty3 (zat hA5) hx210 λ_=>?_;refine zao ?_;refine br (λhto'=>?_) (λhto'=>?_)
 case refine_2=>refine zas ?_;exact ⟨mk10-1,by omega,i+1,by omega,out10,rfl,by omega,by rw [hno λh=>hto' (by rw [hag,h.2.2.1])];exact hO10⟩
 refine NIL.mk rfl ?_;refine zab ze7 ?_;refine zaa za4 hmay hO10.ext λv62 hMa=>?_;refine zac u23 ty3 (i:=i) hMa (by rw [zaf,ziA];exact hi) λb6 o6 hA6=>?_;rw [zaL] at hA6;refine zad ty3 hA6 hO10.ext λ_=>?_;have hm64:=zcY (zr4 c) i;refine (zpf (m:=zax (zmR c) i) (i:=fr) (by omega) (by omega)).mono ?_;rintro _ w11 ⟨hx11,rfl⟩
 have hbit:(zax (zmR c) i).testBit fr=true↔MayP c i fr:=by
   rw [zn8 hi,zkB];exact ⟨λh=>h.2,λh=>⟨by omega,h⟩⟩
 have hO11:=hO10.step hx11;refine zbz (λhb=>?_) (λhb=>?_)
 case refine_2=>refine zas ?_;exact ⟨mk10-1,by omega,i+1,by omega,out10,rfl,by omega,by rw [hno λh=>by rw [hbit.2 h.2.2.2] at hb;cases hb];exact hO11⟩
 have hP:OrdP c fr to i:=⟨hM,h6,by omega,hbit.1 hb⟩;refine zch (cells:=#[.int .i64 fr,.int .i64 to,.int .i64 i]) (by kernel_rfl) ?_;obtain ⟨lo,hi',h1,h2,hr⟩:=hO11.row;refine zcS (x:=(mkO fr to i:DOrder)) u72 zmf zw9 zwo (by decide) hr (lo2:=0) (hi2:=0) (zdH (zu0 (by unfold I64;omega) (by unfold I64;omega) (by unfold I64;omega))) (by rw [zan];omega) (by omega) λv' w' lo' hi2' hc7 hr' hd7=>?_;have hs7:=hc7.size;have hs11:=hO11.ext.size;refine zas ?_;refine ⟨mk10-1,by omega,i+1,by omega,v',rfl,by omega,hO11.ext.chgI hc7 h1,lo',hi2',by omega,by omega,?_⟩;rw [hyes hP];exact hr'
open Classical in
def F38 (a0:Value) (w:World) (R:VW):Prop:=
 oX 32 a0 w λx1 w=>
 oP (Instr.buildSlice 62 0 #[]) w λx7 w=>
 rL 32 x1 w λx8=>
 cL 75 [x8] w λx9 w=>
 LOOPI [3,5] [x7,(iV 0)] w λu4 w n4=>
 rN 72 3 x9 w λx12=>
 rC (u4 5) x12 w λx13=>
 BR x13
 ((λw=>rX 72 x9 (u4 5) w λx18=>
 rF 104 x18 0 w λx19=>
 rL 3 x19 w λx20=>
 rX 72 x9 (u4 5) w λx23=>
 rF 104 x23 1 w λx24=>
 rL 3 x24 w λx25=>
 rD (Instr.build 106 #[(0,x20),(1,x25)]) w λx26=>
 (λw_=>oP (aL 106) w_ λx6 w=>
 Ext w_ w ∧
 (oS 106 x6 x26 w λw=>
 (λw=>rN 62 3 (u4 3) w λx28=>
 rQ x28 (iV 0) w λx29=>
 BR x29
 (rL 106 x6 w λx41=>
 oP (bS 62 x41) w λx42 w=>
 oP (aP 62 (u4 3) x42) w λx43 w=>
 rI (u4 5) w λx15=>
 n4 [x43,x15] w)
 (rN 62 3 (u4 3) w λx33=>
 rB .sub 3 T0 U0 x33 (iV 1) w λx34=>
 rX 62 (u4 3) x34 w λx35=>
 rL 106 x35 w λx36=>
 rL 106 x6 w λx37=>
 rB .neq 106 T0 T0 x36 x37 w λx38=>
 BR x38
 (rL 106 x6 w λx41=>
 oP (bS 62 x41) w λx42 w=>
 oP (aP 62 (u4 3) x42) w λx43 w=>
 rI (u4 5) w λx15=>
 n4 [x43,x15] w)
 (rI (u4 5) w λx15=>
 n4 [(u4 3),x15] w))) (World.drew1 w))) w) (World.drew1 w))
 (R (u4 3) w)
theorem F38_call {a0 w R} (h:F38 a0 w R):cL 38 [a0] w R:=co (g:=(kf [] [(4,17592186043496,[3,5])] [(6,[0,1,2,3,4,5,6,7,8,9,10,11,12],2048),(7,[0,1,2,3,4,5,6,7,8,9,10,11,12],0)])) Tryz.func38 h
def F36 (a0:Value) (w:World) (R:VW):Prop:=
 oX 32 a0 w λx1 w=>
 rL 32 x1 w λx8=>
 cL 38 [x8] w λx9 w=>
 rF 32 x1 1 w λx10=>
 rL 22 x10 w λx11=>
 rN 22 3 x11 w λx12=>
 cL 37 [x12,x9] w λx14 w=>
 oP (Instr.buildSlice 39 0 #[]) w λx15 w=>
 LOOPI [5,6] [x15,(iV 0)] w λu5 w n5=>
 rF 32 x1 1 w λx17=>
 rL 22 x17 w λx18=>
 rN 22 3 x18 w λx19=>
 rC (u5 6) x19 w λx20=>
 BR x20
 (LOOPI [5,7] [(u5 5),(iV 0)] w λu8 w n8=>
 rN 39 3 x14 w λx25=>
 rC (u8 7) x25 w λx26=>
 BR x26
 ((λw=>rX 39 x14 (u8 7) w λx31=>
 rL 23 x31 w λx32=>
 rX 23 x32 (iV 0) w λx33=>
 rL 3 x33 w λx34=>
 rB .eql 3 T0 T0 x34 (u5 6) w λx36=>
 BR x36
 (rF 32 x1 1 w λx38=>
 rL 22 x38 w λx39=>
 rN 22 3 x39 w λx40=>
 rX 39 x14 (u8 7) w λx44=>
 rL 23 x44 w λx45=>
 cL 72 [x40,x9,x45] w λx46 w=>
 BR x46
 (oP (Instr.buildSlice 23 0 #[]) w λx49 w=>
 rX 39 x14 (u8 7) w λx52=>
 rL 23 x52 w λx53=>
 oP (aP 23 x49 x53) w λx54 w=>
 oP (bS 39 x54) w λx55 w=>
 oP (aP 39 (u8 5) x55) w λx56 w=>
 rI (u8 7) w λx28=>
 n8 [x56,x28] w)
 (rI (u8 7) w λx28=>
 n8 [(u8 5),x28] w))
 (rI (u8 7) w λx28=>
 n8 [(u8 5),x28] w)) (World.drew1 w))
 (rI (u5 6) w λx22=>
 n5 [(u8 5),x22] w))
 (R (u5 5) w)
theorem F36_call {a0 w R} (h:F36 a0 w R):cL 36 [a0] w R:=co (g:=(kf [] [(5,144115188075790560,[5,6]),(8,144115188067467424,[5,7])] [(10,[0,1,2,3,4,5,6,7,8,9,10,11,12,13,14,15,16,17,18],0)])) Tryz.func36 h
def F8 (a0:Value) (w:World) (R:VW):Prop:=
 oX 32 a0 w λx1 w=>
 oP (Instr.buildSlice 23 0 #[]) w λx7 w=>
 rL 32 x1 w λx8=>
 cL 35 [x8] w λx9 w=>
 rT x9 w λx10=>
 BR x10
 (R (Value.tuple #[x7,vF]) w)
 (rL 32 x1 w λx12=>
 cL 36 [x12] w λx13 w=>
 rN 39 3 x13 w λx14=>
 rB .gtr 3 T0 U0 x14 (iV 0) w λx15=>
 BR x15
 (R (Value.tuple #[x7,vF]) w)
 ((λw=>rF 32 x1 1 w λx18=>
 rL 22 x18 w λx19=>
 rN 22 3 x19 w λx20=>
 rL 32 x1 w λx21=>
 (λw_=>cL 38 [x21] w_ λx22 w=>
 Ext w_ w ∧
 cL 37 [x20,x22] w λx23 w=>
 LOOPI [4,6] [x7,(iV 0)] w λu6 w n6=>
 rN 39 3 x23 w λx26=>
 rC (u6 6) x26 w λx27=>
 BR x27
 (rX 39 x23 (u6 6) w λx33=>
 rL 23 x33 w λx34=>
 oP (aP 23 (u6 4) x34) w λx35 w=>
 rI (u6 6) w λx29=>
 n6 [x35,x29] w)
 (R (Value.tuple #[(u6 4),vT]) w)) w) (World.drew1 w)))
open Rep (rep)
theorem zqA {w W0:World} {v0:Value} {c:DCode} (h0:Is W0 v0 c) (e0:Ext W0 w) (hc:CodeR c) :
   CALL tp 38 [v0] w λr w'=>Ext w w'∧∃ A,AInv (zd4 c) A∧Own w.heap.size w' r A:=by
 refine F38_call ?_;unfold F38;have hol:=zpw hc;have h6l:=hc.1.locks6;refine zbj h0 e0 λw1 hx1 hA=>?_;refine zaH (α:=DArc) u62 zdQ λa8 w2 hx2 hr2=>?_;refine zaa zbq hA hx2 λv8 h8=>?_;refine (zsF h8 hx2 hc).mono ?_;rintro v9 w3 ⟨hx3,ho3⟩;have h9:=ho3.is;have hx13:=(hx1.t hx2).trans hx3;have hs13:=hx13.size;refine zam (zd4 c).length (λk us w'=>∃ out A,us=[out,.int .i64 (k:Int)]∧k≤(zd4 c).length∧Ext w3 w'∧RowI w3.heap.size w'.heap.size 106 w' out A∧AInv ((zd4 c).take k) A) 0 (z0 _) ⟨_,[],rfl,z0 _,Ext.refl _,zb8 _ _ _ _ _,by rw [List.take_zero];exact AInv.start⟩ ?_;rintro k mk q w4 hkm ⟨out,A,hq,hkl,hx4,hr4,hI⟩;obtain ⟨hq1,hq2⟩:=zbL hq;rw [hq1,hq2];have hs4:=hx4.size;refine zae u72 h9 ?_;refine zag ?_;refine br (λhlt=>?_) (λhge=>?_)
 case refine_2=>
   have hke:k=(zd4 c).length:=by omega
   rw [hke,List.take_length] at hI;exact ⟨hx13.t hx4,A,hI,hr4.own.own.mono hs13⟩
 have hk:k<(zd4 c).length:=by omega
 have hso:((zd4 c).take k++[(zd4 c)[k]]).Pairwise ltO:=by
   rw [←tk hk];exact (zoe c).sublist (List.take_sublist _ _)
 have hlenA:=zlN h6l hI.pw (hI.rng hc);have hxd:=zaj w4;generalize World.drew1 w4=w5 at *;have e5:=hx4.t hxd;refine zac u72 zmf h9 hk λb3 o3 hA3=>?_;refine zab zk3 ?_;refine zad ty3 (zjB hA3) e5 λhI0=>?_;refine zac u72 zmf h9 hk λb4 o4 hA4=>?_;refine zab zk4 ?_;refine zad ty3 (zjC hA4) e5 λhI1=>?_;refine zch (cells:=#[.int .i64 (zd4 c)[k].fr,.int .i64 (zd4 c)[k].to]) (by kernel_rfl) ?_;have hIs:Is w5 (.agg #[.int .i64 (zd4 c)[k].fr,.int .i64 (zd4 c)[k].to]) (zf8 (zd4 c)[k]):=zkt.2 ⟨rfl,hI0,hI1⟩;refine zq7 ztm rfl zdQ rfl hIs (Ext.refl _) λw6 hx6 hAt6 hV6=>?_;have hxd2:=zaj w6;generalize World.drew1 w6=w7 at *;have hr7:=((hr4.ext hxd).ext hx6).ext hxd2;have hx47:=(hxd.t hx6).trans hxd2;have hs47:=hx47.size
 have hpush:zf8 (zd4 c)[k]∉A→RD tp (Instr.loadAt 106 (.pointer (some ⟨w5.heap.size,0,none⟩))) w7 λx41=>OP tp (Instr.buildSlice 62 1 #[(0,x41)]) w7 λx42 w=>OP tp (Builtin.append_ #[62,62] 62 [out,x42].toArray) w λx43 w=>RD tp (bin .add 3 (.tmp 0) (.const undef) (.int .i64 (k:Int)) (.int .i64 1)) w λx15=>∃ m',m'<mk∧∃ k',k'+m'=(zd4 c).length∧∃ out A,[x43,x15]=[out,.int .i64 (k':Int)]∧k'≤(zd4 c).length∧Ext w3 w∧RowI w3.heap.size w.heap.size 106 w out A∧AInv ((zd4 c).take k') A:=λhno=>by
   refine zaa zdQ hAt6 hxd2 λv23 h23=>?_;refine zbF (lo2:=w7.heap.size) (hi2:=w7.heap.size) (x:=zf8 (zd4 c)[k]) u62 zdQ zxa zwp (by decide) hr7 (by omega) (zdH (h23.ext hxd2)) (by omega) (by omega) (by rw [zan];omega) (by omega) λv' w9 hc9 hr9=>?_;refine zas ?_;refine ⟨mk-1,by omega,k+1,by omega,v',A++[zf8 (zd4 c)[k]],rfl,by omega,(hx4.t hx47).chgI hc9 (lr _),hr9,?_⟩;rw [tk hk];exact hI.new hso hno
 refine zae u62 hr7.is ?_;refine zao ?_;refine br (λh0=>?_) (λhn0=>?_)
 · have:A=[]:=List.eq_nil_of_length_eq_zero (by omega)
   exact hpush (by rw [this];simp)
 have hlast:=hI.last hso (by omega);refine zae u62 hr7.is ?_;refine zbd (by unfold I64;omega) ?_;rw [show ((A.length:Int)-1)=((A.length-1:Nat):Int) by omega];refine zac (i:=A.length-1) u62 zdQ hr7.is (by omega) λb8 o8 hA8=>?_;refine zaa zdQ hA8 (Ext.refl _) λv36 h36=>?_;refine zaa zdQ hAt6 hxd2 λv37 h37=>?_;refine zqg h36 h37 ?_;refine br (λhne=>?_) (λheq=>?_)
 · exact hpush λh=>hne (hlast.2 h)
 have hyes:=hlast.1 (Decidable.not_not.1 heq);refine zas ?_;refine ⟨mk-1,by omega,k+1,by omega,out,A,rfl,by omega,hx4.t hx47,hr7.mono (lr _) hs47,?_⟩;rw [tk hk];exact hI.old hyes
open Classical in
noncomputable def zjX (c:DCode) (n:Nat):List (List Nat):=(List.range n).flatMap λn=>(zbC c).filter λp=>decide (p.head?=some n∧zoV (nxL c) p)
open Classical in
noncomputable def zfm (c:DCode) (n k:Nat):List (List Nat):=((zbC c).take k).filter λp=>decide (p.head?=some n∧zoV (nxL c) p)
theorem zop (c:DCode) (n:Nat):zjX c (n+1)=zjX c n++zfm c n (zbC c).length:=by
 unfold zjX zfm;rw [List.range_succ,List.flatMap_append,List.take_length];simp
theorem zqB {c:DCode} {n k:Nat} (hk:k<(zbC c).length) (h:(zbC c)[k].head?=some n∧zoV (nxL c) (zbC c)[k]):zfm c n (k+1)=zfm c n k++[(zbC c)[k]]:=by
 unfold zfm;rw [tk hk,List.filter_append];simp [h]
theorem zsG {c:DCode} {n k:Nat} (hk:k<(zbC c).length) (h:¬((zbC c)[k].head?=some n∧zoV (nxL c) (zbC c)[k])):zfm c n (k+1)=zfm c n k:=by
 unfold zfm;rw [tk hk,List.filter_append];simp [h]
theorem zqC (c:DCode) (n k:Nat):(zfm c n k).length≤k:=Nat.le_trans (List.length_filter_le _ _) (by rw [List.length_take];omega)
open Classical in
theorem zqD {c:DCode} (hc:CodeR c) (n:Nat):(zjX c n).length≤n*6:=by
 have h6:=hc.1.locks6;have hll:=zjR c;have:=zhT (l:=List.range n) (B:=6) (f:=λn=>(zbC c).filter λp=>decide (p.head?=some n∧zoV (nxL c) p)) λa _=>Nat.le_trans (List.length_filter_le _ _) (by omega);rw [List.length_range] at this;exact this
theorem znh {w W0:World} {v0:Value} {c:DCode} (h0:Is W0 v0 c) (e0:Ext W0 w) (hc:CodeR c) :
   CALL tp 36 [v0] w λr w'=>Ext w w'∧Own w.heap.size w' r ((zid c).map zaI):=by
 refine F36_call ?_;unfold F36;have h6l:=hc.1.locks6;refine zbj h0 e0 λw1 hx1 hA=>?_;refine zaa zbq hA (Ext.refl _) λv8 h8=>?_;refine (zqA h8 (Ext.refl _) hc).mono ?_;rintro v9 w2 ⟨hx2,A,hAI,ho2⟩;obtain ⟨hAr,hAl⟩:=zpH hc hAI;refine zab zc5 ?_;refine zaa zb1 (za5 hA) hx2 λv11 h11=>?_;refine zae u22 h11 ?_;refine (zqn ho2.is (Ext.refl _) (by omega) hAr hAl).mono ?_;rintro v14 w3 ⟨hx3,ho3⟩;rw [ziC hc hAI] at ho3;change Own w2.heap.size w3 v14 ((zbC c).map zaI) at ho3;have hx13:=(hx1.t hx2).trans hx3;have hs13:=hx13.size;have hll:=zjR c;refine zaH (α:=List Int) u39 za4 λa9 w4 hx4 hr4=>?_;refine zam c.locks.length (λn us w'=>∃ out,us=[out,.int .i64 (n:Int)]∧n≤c.locks.length∧Ext w3 w'∧RowI w3.heap.size w'.heap.size 23 w' out ((zjX c n).map zaI)) 0 (z0 _) ⟨_,rfl,z0 _,hx4,zb8 _ _ _ _ _⟩ ?_;rintro n mn q w5 hnm ⟨out,hq,hnl,hx5,hr5⟩;obtain ⟨hq1,hq2⟩:=zbL hq;rw [hq1,hq2];refine zab zc5 ?_;refine zaa zb1 (za5 hA) ((hx2.t hx3).trans hx5) λv18 h18=>?_;refine zae u22 h18 ?_;refine zag ?_;refine br (λhlt=>?_) (λhge=>?_)
 case refine_2=>
   have hne:n=c.locks.length:=by omega
   rw [hne] at hr5;exact ⟨hx13.t hx5,hr5.own.own.mono hs13⟩
 have hn:n<c.locks.length:=by omega
 have hKl:=zqD hc n;refine zam (zbC c).length (λk us w'=>∃ out,us=[out,.int .i64 (k:Int)]∧k≤(zbC c).length∧Ext w3 w'∧RowI w3.heap.size w'.heap.size 23 w' out ((zjX c n++zfm c n k).map zaI)) 0 (z0 _) ⟨_,rfl,z0 _,hx5,by simpa [zfm] using hr5⟩ ?_;rintro k mk q8 w6 hkm ⟨out8,hq8,hkl,hx6,hr6⟩;obtain ⟨hq81,hq82⟩:=zbL hq8;rw [hq81,hq82];have hIl:=zqC c n k;refine zae u39 ho3.is ?_;rw [List.length_map];refine zag ?_;refine br (λhlt6=>?_) (λhge6=>?_)
 case refine_2=>
   have hke:k=(zbC c).length:=by omega
   rw [hke,←zop] at hr6;refine zas ?_;exact ⟨mn-1,by omega,n+1,by omega,out8,rfl,by omega,hx6,hr6⟩
 have hk:k<(zbC c).length:=by omega
 obtain ⟨hpl,hpb⟩:=zhU (List.getElem_mem hk);obtain ⟨hd,hhd,hdm,hdl⟩:=zf4 (List.getElem_mem hk);have hkm2:k<((zbC c).map zaI).length:=by rw [List.length_map];exact hk
 have hxd:=zaj w6;generalize World.drew1 w6=w7 at *;have hx7:=hx6.t hxd;have hr7:=hr6.ext hxd;have hs7:=hxd.size;have hs36:=hx6.size
 have hpos:0<(zaI (zbC c)[k]).length:=by
   rw [zaf];exact List.length_pos_of_mem hdm
 have hg0:(zaI (zbC c)[k])[0]'hpos=(hd:Int):=by
   rw [←zof (List.ne_nil_of_length_pos hpos)];exact zey hhd
 have hnext:¬((zbC c)[k].head?=some n∧zoV (nxL c) (zbC c)[k])→∀ w8,Ext w7 w8→∃ m',m'<mk∧∃ k',k'+m'=(zbC c).length∧∃ out,[out8,Value.int .i64 ((k+1:Nat):Int)]=[out,.int .i64 (k':Int)]∧k'≤(zbC c).length∧Ext w3 w8∧RowI w3.heap.size w8.heap.size 23 w8 out ((zjX c n++zfm c n k').map zaI):=λh w8 hx8=>
   ⟨mk-1,by omega,k+1,by omega,out8,rfl,by omega,hx7.t hx8,by rw [zsG hk h];exact (hr7.ext hx8).mono (lr _) (by have:=hx8.size;omega)⟩
 refine zac (i:=k) u39 za4 ho3.is hkm2 λb3 o3 hA3=>?_;rw [List.getElem_map] at hA3;refine zaa za4 hA3 hx7 λv32 h32=>?_;refine zac (i:=0) u23 ty3 h32 hpos λb4 o4 hA4=>?_;rw [hg0] at hA4;refine zad ty3 hA4 hx7 λ_=>?_;refine zao ?_;refine br (λheq=>?_) (λhne=>?_)
 case refine_2=>refine zas ?_;refine hnext (λh=>hne ?_) _ (Ext.refl _);rw [hhd] at h;have:=Option.some.inj h.1;omega
 have hdn:hd=n:=by omega
 rw [hdn] at hhd;refine zab zc5 ?_;refine zaa zb1 (za5 hA) ((hx2.t hx3).trans hx7) λv39 h39=>?_;refine zae u22 h39 ?_;refine zac (i:=k) u39 za4 ho3.is hkm2 λb5 o5 hA5=>?_;rw [List.getElem_map] at hA5;refine zaa za4 hA5 hx7 λv45 h45=>?_;refine (zly ho2.is (hx3.t hx7) h45 hx7 (by omega) hAr hAl hpb (by omega)).mono ?_;rintro _ w8 ⟨hx8,bb,rfl,hbb⟩;rw [ziC hc hAI] at hbb;refine zbz (λhy=>?_) (λhno=>?_)
 case refine_2=>refine zas ?_;exact hnext (λh=>by rw [hbb.2 h.2] at hno;cases hno) _ hx8
 have hcy:=hbb.1 hy;have hs8:=hx8.size;refine zaH (α:=Int) u23 ty3 λa10 w9 hx9 hr9=>?_;have hs9:=hx9.size;have hx39:=(hx7.t hx8).trans hx9;refine zac (i:=k) u39 za4 ho3.is hkm2 λb6 o6 hA6=>?_;rw [List.getElem_map] at hA6;refine zaa za4 hA6 hx39 λv53 h53=>?_;refine zc6 u23 ty3 zc3 hr9 (lr _) h53 hx39 (by rw [zaf,zan];simp;omega) (by rw [zaf];simp;omega) λv54 w10 hc10 hr10=>?_;rw [List.nil_append] at hr10;have hs10:=hc10.size;have hr10':=((hr7.ext hx8).ext hx9).chg hc10 (by omega);have hx3x:=hx39.chgI hc10 (by omega);have hsx:=hx3x.size;refine zbF (lo2:=w9.heap.size) (hi2:=w10.heap.size) (x:=zaI (zbC c)[k]) u39 za4 z23 zwL (by decide) hr10' (by omega) hr10.own (by omega) (by omega) (by rw [List.length_map,List.length_append,zan];omega) (by rw [List.length_map,List.length_append];omega) λv56 w11 hc11 hr11=>?_;refine zas ?_;refine ⟨mk-1,by omega,k+1,by omega,v56,rfl,by omega,hx3x.chgI hc11 (lr _),?_⟩;rw [zqB hk ⟨hhd,hcy⟩,←List.append_assoc,List.map_append];exact hr11
def F240 (a0 a1 a2 a3:Value) (w:World) (R:VW):Prop:=
 cL 66 [a1] w λx15 w=>
 rN 23 3 x15 w λx16=>
 LOOPI [9,17] [(Value.slice none 0 0),(iV 0)] w λu3 w n3=>
 rC (u3 17) x16 w λx18=>
 BR x18
 (rX 23 x15 (u3 17) w λx19=>
 rL 3 x19 w λx20=>
 cL 137 [a0,x20] w λx23 w=>
 rN 23 3 x23 w λx24=>
 LOOPI [9,25] [(u3 9),(iV 0)] w λu6 w n6=>
 rC (u6 25) x24 w λx26=>
 BR x26
 (rX 23 x23 (u6 25) w λx27=>
 rL 3 x27 w λx28=>
 NIL a0 <|
 rF 114 a0 0 w λx31=>
 rF 32 x31 4 w λx32=>
 rL 30 x32 w λx33=>
 rX 30 x33 x28 w λx35=>
 rF 111 x35 0 w λx36=>
 rL 3 x36 w λx37=>
 rB .eql 3 T0 T0 x37 a2 w λx39=>
 BR x39
 (NIL a0 <|
 rF 114 a0 0 w λx43=>
 rF 32 x43 4 w λx44=>
 rL 30 x44 w λx45=>
 rX 30 x45 x28 w λx47=>
 rF 111 x47 1 w λx48=>
 rL 3 x48 w λx49=>
 rB .eql 3 T0 T0 x49 a3 w λx51=>
 BR x51
 (oP (bS 23 x28) w λx55 w=>
 oP (aP 23 (u6 9) x55) w λx56 w=>
 rI (u6 25) w λx57=>
 n6 [x56,x57] w)
 (rI (u6 25) w λx57=>
 n6 [(u6 9),x57] w))
 (rI (u6 25) w λx57=>
 n6 [(u6 9),x57] w))
 (rI (u3 17) w λx58=>
 n3 [(u6 9),x58] w))
 (R (u3 9) w)
theorem F240_call {a0 a1 a2 a3 w R} (h:F240 a0 a1 a2 a3 w R):cL 240 [a0,a1,a2,a3] w R:=co (g:=(kf [] [(3,576460752303303168,[9,17]),(6,288230376118166016,[9,25])] [])) Tryz.func240 h
def F213 (a0 a1:Value) (w:World) (R:VW):Prop:=
 oX 32 a0 w λx2 w=>
 oP (Instr.buildSlice 23 0 #[]) w λx10 w=>
 rL 32 x2 w λx11=>
 cL 209 [x11] w λx12 w=>
 LOOPI [5,7] [x10,(iV 0)] w λu4 w n4=>
 rF 32 x2 2 w λx14=>
 rL 22 x14 w λx15=>
 rN 22 3 x15 w λx16=>
 rC (u4 7) x16 w λx17=>
 BR x17
 (rX 101 x12 (u4 7) w λx22=>
 rL 4 x22 w λx23=>
 rT x23 w λx24=>
 BR x24
 (rI (u4 7) w λx19=>
 n4 [(u4 5),x19] w)
 (rL 32 x2 w λx25=>
 cL 234 [x25,(u4 7)] w λx27 w=>
 rF 32 x2 3 w λx28=>
 rL 23 x28 w λx29=>
 rX 23 x29 (u4 7) w λx31=>
 rL 3 x31 w λx32=>
 LOOPI [5,9] [(u4 5),x32] w λu9 w n9=>
 rL 32 x2 w λx34=>
 cL 124 [x34,(u4 7)] w λx36 w=>
 rB .leq 3 T0 T0 (u9 9) x36 w λx37=>
 BR x37
 (rX 101 x27 (u9 9) w λx42=>
 rL 4 x42 w λx43=>
 BR x43
 (rF 32 x2 4 w λx45=>
 rL 30 x45 w λx46=>
 rX 30 x46 (u9 9) w λx48=>
 rF 111 x48 0 w λx49=>
 rL 3 x49 w λx50=>
 rQ x50 (iV 5) w λx51=>
 BR x51
 (rF 32 x2 4 w λx54=>
 rL 30 x54 w λx55=>
 rX 30 x55 (u9 9) w λx57=>
 rF 111 x57 1 w λx58=>
 rL 3 x58 w λx59=>
 rB .eql 3 T0 T0 x59 a1 w λx61=>
 BR x61
 (oP (bS 23 (u9 9)) w λx65 w=>
 oP (aP 23 (u9 5) x65) w λx66 w=>
 rI (u9 9) w λx39=>
 n9 [x66,x39] w)
 (rI (u9 9) w λx39=>
 n9 [(u9 5),x39] w))
 (rI (u9 9) w λx39=>
 n9 [(u9 5),x39] w))
 (rI (u9 9) w λx39=>
 n9 [(u9 5),x39] w))
 (rI (u4 7) w λx19=>
 n4 [(u9 5),x19] w)))
 (R (u4 5) w)
theorem F213_call {a0 a1 w R} (h:F213 a0 a1 w R):cL 213 [a0,a1] w R:=co (g:=(kf [] [(4,147573952589676405664,[5,7]),(9,147573952581086478880,[5,9])] [])) Tryz.func213 h
open Rep (rep)
def StP (c:DCode) (r p i:Nat):Prop:=zaG c p i∧(zal c i).op=5∧agN c i=r
noncomputable def zeo (c:DCode) (r:Nat):List Nat:=(zaY c.procs.length (UsedP c)).flatMap λp=>zaY c.ins.length (StP c r p)
theorem zoq {n:Nat} {p q:Nat→Prop} {f:Nat→Bool} (h:∀ i,i<n→(f i=true↔q i)):(zaY n p).filter f=zaY n λi=>p i∧q i:=by
 induction n with
 | zero=>rfl
 | succ n ih=>
   have ih:=ih λi hi=>h i (by omega);by_cases hp:p n
   · rw [zct hp,List.filter_append,ih]
     by_cases hq:q n
     · rw [zct ⟨hp,hq⟩];simp [(h n (by omega)).2 hq]
     rw [zcM λe=>hq e.2]
     have:f n=false:=by
       cases e:f n
       · rfl
       exact absurd ((h n (by omega)).1 e) hq
     simp [this]
   rw [zcM hp,zcM λe=>hp e.1,ih]
theorem zf7 {α β:Type} {f:α→List β} {B:Nat}:∀ {l:List α},(∀ a∈l,(f a).length≤B)→(l.flatMap f).length≤l.length*B
 | [],_=>by simp
 | a :: l,h=>by
   have h1:=h a (by simp);have h2:=zf7 (l:=l) λb hb=>h b (by simp [hb]);simp only [List.flatMap_cons,List.length_append,List.length_cons,Nat.add_mul];omega
theorem zkK {c:DCode} (hc:CodeR c) {r i:Nat} (h:i∈zeo c r):i<c.ins.length:=by
 unfold zeo at h;obtain ⟨p,_,h⟩:=List.mem_flatMap.1 h;exact (zaJ.1 h).1
theorem zkL {w W0:World} {b r:Nat} {c:DCode} (hW:WAt W0 b c) (e0:Ext W0 w) (hc:CodeR c) :
   CALL tp 240 [.pointer (some ⟨b,0,none⟩),.int .i64 (zdT c:Nat),.int .i64 5,.int .i64 (r:Int)] w λv w'=>Ext w w'∧Own w.heap.size w' v (zaI (zeo c r)):=by
 refine F240_call ?_;unfold F240;have h8:=hc.1.procs8;have hil:=hc.f.ins;have hu256:zdT c<256:=zba h8.1;refine (zcU (m:=zdT c) (by omega)).mono ?_;rintro v15 w1 ⟨hx1,ho1⟩;unfold zdT at ho1;rw [zdE (by omega)] at ho1;have hup:∀ p∈zaY c.procs.length (UsedP c),p<c.procs.length:=λp hp=>(zaJ.1 hp).1;have hul:=za0 (n:=c.procs.length) (p:=UsedP c);unfold zeo;generalize zaY c.procs.length (UsedP c)=U at *;refine zae u23 ho1.is ?_;rw [zaf]
 have hfl:∀ k,((U.take k).flatMap λp=>zaY c.ins.length (StP c r p)).length≤20000:=λk=>by
   have:=zf7 (l:=U.take k) (f:=λp=>zaY c.ins.length (StP c r p)) (B:=1500) λa _=>Nat.le_trans za0 hil;have h2:=List.length_take_le' k U;have:(U.take k).length*1500≤8*1500:=Nat.mul_le_mul_right _ (by omega);omega
 refine zam U.length (λk us w'=>∃ out,us=[out,.int .i64 (k:Int)]∧k≤U.length∧Ext w1 w'∧RowI w1.heap.size w'.heap.size 3 w' out (zaI ((U.take k).flatMap λp=>zaY c.ins.length (StP c r p)))) 0 (z0 _) ⟨_,rfl,z0 _,Ext.refl _,zcv _ _ _ _⟩ ?_;rintro k mk u w2 hkm ⟨out,hu,hkl,hx2,hr2⟩;obtain ⟨hu1,hu2⟩:=zbL hu;rw [hu1,hu2];refine zag ?_;refine br (λhlt=>?_) (λhge=>?_)
 case refine_2=>
   have hke:k=U.length:=by omega
   rw [hke,List.take_length] at hr2;exact ⟨hx1.t hx2,hr2.own.own.mono (by have:=hx1.size;omega)⟩
 have hk:k<U.length:=by omega
 have hp:=hup U[k] (List.getElem_mem _);have hfs:=zbA (f:=λp=>zaY c.ins.length (StP c r p)) hk;refine zac u23 ty3 (i:=k) ho1.is (by rw [zaf];exact hk) λb3 o3 hA3=>?_;rw [zaP] at hA3;generalize U[k]=p at *;refine zad ty3 hA3 hx2 λ_=>?_;refine (zfM hW.wl (e0.t (hx1.t hx2)) hc hp).mono ?_;rintro v23 w3 ⟨hx3,ho3⟩;have hLin:∀ i∈zaY c.ins.length (zaG c p),i<c.ins.length:=λi hi=>(zaJ.1 hi).1;have hLf:(zaY c.ins.length (zaG c p)).filter (λi=>decide ((zal c i).op=5∧agN c i=r))=zaY c.ins.length (StP c r p):=zoq λi hi=>by rw [decide_eq_true_eq]
 have hLl:=za0 (n:=c.ins.length) (p:=zaG c p);rw [←hLf] at hfs;have hfk:=hfl k;generalize zaY c.ins.length (zaG c p)=L at *;generalize (U.take k).flatMap (λp=>zaY c.ins.length (StP c r p))=Op at *;refine zae u23 ho3.is ?_;rw [zaf];have hs3:=hx3.size;have hs2:=hx2.size;obtain ⟨F3,hM3,hF3⟩:=ho3;refine zam L.length (λj us w'=>∃ out lo hi,us=[out,.int .i64 (j:Int)]∧j≤L.length∧Ext w1 w'∧Mine F3 w' v23 (zaI L)∧w1.heap.size≤lo∧hi≤w'.heap.size∧RowI lo hi 3 w' out (zaI (Op++(L.take j).filter (λi=>decide ((zal c i).op=5∧agN c i=r))))∧∀ b∈F3,b<lo∨hi≤b) 0 (z0 _) ⟨out,w1.heap.size,w2.heap.size,rfl,z0 _,hx2.t hx3,hM3,lr _,hs3,by simpa using hr2.ext hx3,λb hb=>.inr (hF3 b hb)⟩ ?_;rintro j mj u6 w6 hjm ⟨out6,lo,hi,hu6,hjl,hx6,hM6,hlo,hhi,hr6,hd⟩;obtain ⟨hu61,hu62⟩:=zbL hu6;rw [hu61,hu62];refine zag ?_;refine br (λhlt6=>?_) (λhge6=>?_)
 case refine_2=>refine zas ?_;refine ⟨mk-1,by omega,k+1,by omega,out6,rfl,by omega,hx6,?_⟩;rw [List.take_of_length_le (by omega)] at hr6;rw [hfs];exact hr6.mono hlo hhi
 have hj:j<L.length:=by omega
 have hi':=hLin L[j] (List.getElem_mem _);have htk:L.take (j+1)=L.take j++[L[j]]:=tk hj;refine zac u23 ty3 (i:=j) hM6.is (by rw [zaf];exact hj) λb4 o4 hA4=>?_;rw [zaP] at hA4
 have hlen:(Op++(L.take j).filter (λi=>decide ((zal c i).op=5∧agN c i=r))).length≤100000:=by
   have:=List.length_filter_le (λi=>decide ((zal c i).op=5∧agN c i=r)) (L.take j);have h2:=List.length_take_le' j L;rw [List.length_append];omega
 generalize L[j]=i at *;refine zad ty3 hA4 (Ext.refl _) λ_=>?_;have ex6:=e0.t (hx1.t hx6)
 have hno:¬((zal c i).op=5∧agN c i=r)→(L.take (j+1)).filter (λi=>decide ((zal c i).op=5∧agN c i=r))=(L.take j).filter (λi=>decide ((zal c i).op=5∧agN c i=r)):=λh=>by
   rw [htk,List.filter_append];simp [h]
 have hyes:((zal c i).op=5∧agN c i=r)→(L.take (j+1)).filter (λi=>decide ((zal c i).op=5∧agN c i=r))=(L.take j).filter (λi=>decide ((zal c i).op=5∧agN c i=r))++[i]:=λh=>by
   rw [htk,List.filter_append];simp [h]
 refine NIL.mk rfl ?_;refine zab zaZ ?_;refine zab zaD ?_;refine zaa zcu (zai hW.wl.code) ex6 λv33 h33=>?_;refine zac u30 zaO (i:=i) h33 hi' λb5 o5 hA5=>?_;rw [zaz] at hA5;refine zab zaM ?_;refine zad ty3 (zav hA5) ex6 λ_=>?_;refine zao ?_;refine br (λh5=>?_) (λh5=>?_)
 case refine_2=>refine zas ?_;exact ⟨mj-1,by omega,j+1,by omega,out6,lo,hi,rfl,by omega,hx6,hM6,hlo,hhi,by rw [hno λh=>h5 h.1];exact hr6,hd⟩
 obtain ⟨hag,_⟩:=zbZ hc hi' (.inr h5);refine NIL.mk rfl ?_;refine zab zaZ ?_;refine zab zaD ?_;refine zaa zcu (zai hW.wl.code) ex6 λv45 h45=>?_;refine zac u30 zaO (i:=i) h45 hi' λb7 o7 hA7=>?_;rw [zaz] at hA7;refine zab zaK ?_;refine zad ty3 (zat hA7) ex6 λ_=>?_;refine zao ?_;refine br (λha=>?_) (λha=>?_)
 case refine_2=>refine zas ?_;exact ⟨mj-1,by omega,j+1,by omega,out6,lo,hi,rfl,by omega,hx6,hM6,hlo,hhi,by rw [hno λh=>ha (by rw [hag,h.2])];exact hr6,hd⟩
 refine zcS (x:=(i:Int)) u23 ty3 z3 zc3 (by decide) hr6 (lo2:=0) (hi2:=0) (ownI_int _ _ (by unfold I64;omega)) (by rw [zan,zaf];omega) (by rw [zaf];omega) λv' w' lo' hi2 hc7 hr' hd7=>?_;have hs7:=hc7.size;have hs6:=hx6.size;refine zas ?_;refine ⟨mj-1,by omega,j+1,by omega,v',lo',hi2,rfl,by omega,hx6.chgI hc7 hlo,hM6.keep λb hb=>hc7.block b (hM6.lt b hb) (hd b hb),by omega,by omega,?_,λb hb=>?_⟩
 · rw [hyes ⟨h5,by omega⟩,←List.append_assoc,zbW]
   exact hr'
 have:=hd b hb;have:=hM6.lt b hb;omega
theorem zig {w W0:World} {v0:Value} {r:Nat} {c:DCode} (h0:Is W0 v0 c) (e0:Ext W0 w) (hc:CodeR c) :
   CALL tp 213 [v0,.int .i64 (r:Int)] w λv w'=>Ext w w'∧Own w.heap.size w' v (zaI (zeo c r)):=by
 refine F213_call ?_;unfold F213;have h8:=hc.1.procs8;have hil:=hc.f.ins;have he:=hc.2.1.1;refine zbj h0 e0 λw1 hx1 hA=>?_;refine zaH (α:=Int) u23 ty3 λa10 w2 hx2 hr2=>?_;refine zaa zbq hA hx2 λv11 h11=>?_;refine (zf5 h11 hx2 hc).mono ?_;rintro v12 w3 ⟨hx3,ho3⟩;have hx13:=hx2.t hx3;have hs1:=hx1.size;have hs13:=hx13.size
 have hfl:∀ k,k≤8→((zaY k (UsedP c)).flatMap λp=>zaY c.ins.length (StP c r p)).length≤20000:=λk hk=>by
   have h1:=zf7 (l:=zaY k (UsedP c)) (f:=λp=>zaY c.ins.length (StP c r p)) (B:=1500) λa _=>Nat.le_trans za0 hil;have h2:=za0 (n:=k) (p:=UsedP c);have:(zaY k (UsedP c)).length*1500≤8*1500:=Nat.mul_le_mul_right _ (by omega);omega
 refine zam c.procs.length (λk us w'=>∃ out,us=[out,.int .i64 (k:Int)]∧k≤c.procs.length∧Ext w3 w'∧RowI w3.heap.size w'.heap.size 3 w' out (zaI ((zaY k (UsedP c)).flatMap λp=>zaY c.ins.length (StP c r p)))) 0 (z0 _) ⟨_,rfl,z0 _,Ext.refl _,zb8 _ _ _ _ _⟩ ?_;rintro p mk u w4 hkm ⟨out,hu,hkl,hx4,hr4⟩;obtain ⟨hu1,hu2⟩:=zbL hu;rw [hu1,hu2];have hx14:=hx13.t hx4;refine zab zbf ?_;refine zaa zb1 (zau hA) hx14 λv15 h15=>?_;refine zae u22 h15 ?_;refine zag ?_;refine br (λhlt=>?_) (λhge=>?_)
 case refine_2=>
   have hke:p=c.procs.length:=by omega
   rw [hke] at hr4;exact ⟨hx1.t hx14,hr4.own.own.mono (by omega)⟩
 have hp:p<c.procs.length:=by omega
 have hmk:=zaF (n:=c.procs.length) (p:=UsedP c) (i:=p);rw [zaQ (by rw [zak];exact hp)] at hmk;refine zac zcy ty4 (i:=p) ho3.is (by rw [zak];exact hp) λb3 o3 hA3=>?_;refine zay ty4 hA3 hx4 ?_;refine zaX ?_;refine zbz (λhf=>?_) (λhf=>?_)
 · have hnu:¬UsedP c p:=λh=>by rw [hmk.2 ⟨hp,h⟩] at hf;cases hf
   refine zas ?_;exact ⟨mk-1,by omega,p+1,by omega,out,rfl,by omega,hx4,by rw [zcM hnu];exact hr4⟩
 have hU:UsedP c p:=(hmk.1 (by simpa using hf)).2
 have hfs:(zaY (p+1) (UsedP c)).flatMap (λp=>zaY c.ins.length (StP c r p))=(zaY p (UsedP c)).flatMap (λp=>zaY c.ins.length (StP c r p))++zaY c.ins.length (StP c r p):=by
   rw [zct hU,List.flatMap_append];simp
 have hfk:=hfl p (by omega);refine zaa zbq hA hx14 λv25 h25=>?_;refine (zeS h25 hx14 hc (by rw [he];exact hp)).mono ?_;rintro v27 w5 ⟨hx5,ho5⟩;have hx15:=hx14.t hx5;obtain ⟨hen,heN,_⟩:=zfg hc (p:=p) (by rw [he];exact hp);obtain ⟨hzB,hzO,hzN⟩:=zdY hc hp;have hze:=(zkf hc (p:=p) (by rw [he];exact hp)).2.1
 have hlv:∀ i,zaG c p i→eN c p≤i∧i≤zN c p:=λi hi=>by
   have h1:=zbJ hc (by rw [he];exact hp) hi;obtain ⟨q,hq,h3,h4⟩:=zdO hc h1.1;have:q=p:=by have:=h1.2;omega
   subst this;exact h4
 have hz0:zaY (eN c p) (StP c r p)=[]:=by
   rw [zhj (n:=0) (z0 _) λi _ h2 hs=>by have:=hlv i hs.1;omega];rfl
 have hzz:zaY c.ins.length (StP c r p)=zaY (zN c p+1) (StP c r p):=zhj (by omega) λi h1 _ hs=>by have:=hlv i hs.1;omega
 rw [hzz] at hfs;refine zab za6 ?_;refine zaa za4 (zap hA) hx15 λv29 h29=>?_;refine zac u23 ty3 (i:=p) h29 (by rw [he];exact hp) λb6 o6 hA6=>?_;refine zad ty3 hA6 hx15 λ_=>?_;rw [zbm,hen];generalize hOp:(zaY p (UsedP c)).flatMap (λp=>zaY c.ins.length (StP c r p))=Op at *;obtain ⟨F5,hM5,hF5⟩:=ho5;have hs45:=hx5.size;have hs34:=hx4.size;have hr5:RowI w3.heap.size w4.heap.size 3 w5 out (zaI (Op++zaY (eN c p) (StP c r p))):=by rw [hz0];simpa using hr4.ext hx5
 refine zam (zN c p+1) (λj us w'=>∃ out lo hi,us=[out,.int .i64 (j:Int)]∧eN c p≤j∧j≤zN c p+1∧Ext w3 w'∧Mine F5 w' v27 (zby c.ins.length (zaG c p))∧w3.heap.size≤lo∧hi≤w'.heap.size∧RowI lo hi 3 w' out (zaI (Op++zaY j (StP c r p)))∧∀ b∈F5,b<lo∨hi≤b) (eN c p) (by omega) ⟨out,w3.heap.size,w4.heap.size,rfl,lr _,by omega,hx4.t hx5,hM5,lr _,hs45,hr5,λb hb=>.inr (hF5 b hb)⟩ ?_;rintro i mj u6 w6 hjm ⟨out6,lo,hi,hu6,hie,hjl,hx6,hM6,hlo,hhi,hr6,hd⟩;obtain ⟨hu61,hu62⟩:=zbL hu6;rw [hu61,hu62];have hx16:=hx13.t hx6;refine zaa zbq hA hx16 λv34 h34=>?_;refine (zeg h34 hx16 (p:=(p:Int)) (by omega) (by omega) hc.2.1.nonneg).mono ?_;rintro _ w7 ⟨hx7,rfl⟩;rw [hzO];have hx17:=hx16.t hx7;have hx37:=hx6.t hx7;have hM7:=hM6.ext hx7;have hr7:=hr6.ext hx7;have hs67:=hx7.size;refine zdV ?_;refine br (λhlt6=>?_) (λhge6=>?_)
 case refine_2=>
   have hie:i=zN c p+1:=by omega
   refine zas ?_;refine ⟨mk-1,by omega,p+1,by omega,out6,rfl,by omega,hx37,?_⟩;rw [hfs,←hie];exact hr7.mono hlo (by omega)
 have hi':i<c.ins.length:=by omega
 have hlen:(Op++zaY i (StP c r p)).length≤100000:=by
   have:=za0 (n:=i) (p:=StP c r p);rw [List.length_append];omega
 have hml:=zaF (n:=c.ins.length) (p:=zaG c p) (i:=i);rw [zaQ (by rw [zak];exact hi')] at hml
 have hskip:¬StP c r p i→∃ m',m'<mj∧∃ k',k'+m'=zN c p+1∧∃ out lo hi,[out6,Value.int .i64 ((i+1:Nat):Int)]=[out,.int .i64 (k':Int)]∧eN c p≤k'∧k'≤zN c p+1∧Ext w3 w7∧Mine F5 w7 v27 (zby c.ins.length (zaG c p))∧w3.heap.size≤lo∧hi≤w7.heap.size∧RowI lo hi 3 w7 out (zaI (Op++zaY k' (StP c r p)))∧∀ b∈F5,b<lo∨hi≤b:=λhn=>
   ⟨mj-1,by omega,i+1,by omega,out6,lo,hi,rfl,by omega,by omega,hx37,hM7,hlo,by omega,by rw [zcM hn];exact hr7,hd⟩
 refine zac zcy ty4 (i:=i) hM7.is (by rw [zak];exact hi') λb8 o8 hA8=>?_;refine zay ty4 hA8 (Ext.refl _) ?_;refine zbz (λhf=>?_) (λhf=>?_)
 case refine_2=>refine zas ?_;exact hskip λh=>by rw [hml.2 ⟨hi',h.1⟩] at hf;cases hf
 have hL:=(hml.1 hf).2;refine zab zaD ?_;refine zaa zcu (zai hA) hx17 λv46 h46=>?_;refine zac u30 zaO (i:=i) h46 hi' λb9 o9 hA9=>?_;rw [zaz] at hA9;refine zab zaM ?_;refine zad ty3 (zav hA9) hx17 λ_=>?_;refine zao ?_;refine br (λh5=>?_) (λh5=>?_)
 case refine_2=>refine zas ?_;exact hskip λh=>h5 h.2.1
 obtain ⟨hag,_⟩:=zbZ hc hi' (.inr h5);refine zab zaD ?_;refine zaa zcu (zai hA) hx17 λv55 h55=>?_;refine zac u30 zaO (i:=i) h55 hi' λb10 o10 hA10=>?_;rw [zaz] at hA10;refine zab zaK ?_;refine zad ty3 (zat hA10) hx17 λ_=>?_;refine zao ?_;refine br (λha=>?_) (λha=>?_)
 case refine_2=>refine zas ?_;exact hskip λh=>ha (by rw [hag,h.2.2])
 refine zcS (x:=(i:Int)) u23 ty3 z3 zc3 (by decide) hr7 (lo2:=0) (hi2:=0) (ownI_int _ _ (by unfold I64;omega)) (by rw [zan,zaf];omega) (by rw [zaf];omega) λv' w' lo' hi2 hc8 hr' hd8=>?_;have hs8:=hc8.size;have hs37:=hx37.size;refine zas ?_;refine ⟨mj-1,by omega,i+1,by omega,v',lo',hi2,rfl,by omega,by omega,hx37.chgI hc8 hlo,hM7.keep λb hb=>hc8.block b (hM7.lt b hb) (hd b hb),by omega,by omega,?_,λb hb=>?_⟩
 · rw [zct (⟨hL,h5,by omega⟩:StP c r p i),←List.append_assoc,zbW]
   exact hr'
 have:=hd b hb;have:=hM7.lt b hb;omega
theorem zhl {l:List Int} {k:Nat} {y:Int} (hk:k<l.length) (h:y∉l.take k) (c:¬l[k]=y):y∉l.take (k+1):=by
 rw [tk hk];simp only [List.mem_append,List.mem_cons,List.not_mem_nil,or_false,not_or];exact ⟨h,λe=>c e.symm⟩
def F104 (a0 a1:Value) (w:World) (R:VW):Prop:=
 LOOPI [5] [(iV 0)] w λu2 w n2=>
 rN 23 3 a0 w λx8=>
 rC (u2 5) x8 w λx9=>
 BR x9
 (rX 23 a0 (u2 5) w λx14=>
 rL 3 x14 w λx15=>
 rB .eql 3 T0 T0 x15 a1 w λx17=>
 BR x17
 (R vT w)
 (rI (u2 5) w λx11=>
 n2 [x11] w))
 (R vF w)
theorem F104_call {a0 a1 w R} (h:F104 a0 a1 w R):cL 104 [a0,a1] w R:=co (g:=(kf [] [(2,262128,[5])] [])) Tryz.func104 h
theorem zni {w:World} {v0:Value} {W0:World} {l:(List Int)} {y:Int}  (h0:Is W0 v0 l) (e0:Ext W0 w)  :
   CALL tp 104 [v0,.int .i64 y] w λr w'=>Ext w w'∧(r=.bool (decide (y∈l))):=by
 refine F104_call ?_;unfold F104;refine zam (l.length) (λk us w'=>us=[.int .i64 (k:Int)]∧Ext w w'∧(y∉l.take k)) (0) (by omega) ⟨by simp,Ext.refl w,by simp⟩ ?_;rintro k m2 uu2 w1_ hk2 ⟨hu,η1,hinv⟩;try replace hu:=zbi hu
 try rw [hu]
 try clear hu
 have hln8:=zah h0;refine zae u23 h0 ?_;refine zag ?_;refine br (λc1=>?_) (λc1=>?_)
 · refine zac u23 ty3 h0 (by omega) λb14 o14 h14=>?_
   refine zad ty3 h14 (e0.t η1) λhI15=>?_;refine zao ?_;refine br (λc2=>?_) (λc2=>?_)
   · refine ⟨η1,?_⟩
     have:y∈l:=c2▸List.getElem_mem _;simp [this]
   refine zas ?_;refine ⟨m2-1,by omega,k+1,by omega,by simp,η1,?_⟩;exact zhl (by omega) hinv c2
 refine ⟨η1,?_⟩;rw [List.take_of_length_le (by omega)] at hinv;simp [hinv]
def F171 (a0 a1:Value) (w:World) (R:VW):Prop:=
 rN 23 3 a0 w λx7=>
 LOOPI [8] [(iV 0)] w λu2 w n2=>
 rC (u2 8) x7 w λx9=>
 BR x9
 (rX 23 a0 (u2 8) w λx14=>
 rL 3 x14 w λx15=>
 rB .eql 3 T0 T0 a1 x15 w λx16=>
 BR x16
 (R (u2 8) w)
 (rI (u2 8) w λx18=>
 n2 [x18] w))
 (R (iV (-1)) w)
theorem F171_call {a0 a1 w R} (h:F171 a0 a1 w R):cL 171 [a0,a1] w R:=co (g:=(kf [] [(2,524080,[8])] [])) Tryz.func171 h
theorem zor {w:World} {v0:Value} {W0:World} {l:(List Int)} {y:Int}  (h0:Is W0 v0 l) (e0:Ext W0 w)  :
   CALL tp 171 [v0,.int .i64 y] w λr w'=>Ext w w'∧(∃ n:Int,r=.int .i64 n∧(0≤n↔y∈l)):=by
 refine F171_call ?_;unfold F171;have hln7:=zah h0;refine zae u23 h0 ?_;refine zam (l.length) (λk us w'=>us=[.int .i64 (k:Int)]∧Ext w w'∧(y∉l.take k)) (0) (by omega) ⟨by simp,Ext.refl w,by simp⟩ ?_;rintro k m2 uu2 w1_ hk2 ⟨hu,η1,hinv⟩;try replace hu:=zbi hu
 try rw [hu]
 try clear hu
 refine zag ?_;refine br (λc1=>?_) (λc1=>?_)
 · refine zac u23 ty3 h0 (by omega) λb14 o14 h14=>?_
   refine zad ty3 h14 (e0.t η1) λhI15=>?_;refine zao ?_;refine br (λc2=>?_) (λc2=>?_)
   · refine ⟨η1,?_⟩
     have:y∈l:=c2▸List.getElem_mem _;exact ⟨_,rfl,by simp [this]⟩
   refine zas ?_;refine ⟨m2-1,by omega,k+1,by omega,by simp,η1,?_⟩;exact zhl (by omega) hinv (λe=>c2 e.symm)
 refine ⟨η1,?_⟩;rw [List.take_of_length_le (by omega)] at hinv;exact ⟨-1,rfl,by simp [hinv]⟩
def F119 (a0 a1:Value) (w:World) (R:VW):Prop:=
 cL 171 [a0,a1] w λx7 w=>
 rB .geq 3 T0 U0 x7 (iV 0) w λx8=>
 R x8 w
theorem F119_call {a0 a1 w R} (h:F119 a0 a1 w R):cL 119 [a0,a1] w R:=co (g:=(kf [] [] [])) Tryz.func119 h
theorem zkh {w:World} {v0:Value} {W0:World} {l:(List Int)} {y:Int}  (h0:Is W0 v0 l) (e0:Ext W0 w)  :
   CALL tp 119 [v0,.int .i64 y] w λr w'=>Ext w w'∧(r=.bool (decide (y∈l))):=by
 refine F119_call ?_;unfold F119;refine (zor h0 e0).mono ?_;rintro _ w1_ ⟨η1,n7,rfl,hn7⟩;refine zb0 ?_;refine ⟨η1,?_⟩;simp [hn7]
def F241 (a0 a1:Value) (w:World) (R:VW):Prop:=
 NIL a0 <|
 rF 114 a0 0 w λx8=>
 rF 32 x8 4 w λx9=>
 rL 30 x9 w λx10=>
 rN 30 3 x10 w λx11=>
 oP (Instr.makeSlice 101 x11 x11) w λx12 w=>
 cL 78 [a0,x12,a1] w λx16 w=>
 R x12 w
theorem F241_call {a0 a1 w R} (h:F241 a0 a1 w R):cL 241 [a0,a1] w R:=co (g:=(kf [] [] [])) Tryz.func241 h
def F239 (a0 a1:Value) (w:World) (R:VW):Prop:=
 rB .geq 3 T0 U0 a1 (iV 0) w λx6=>
 BR x6
 (NIL a0 <|
 rF 114 a0 0 w λx11=>
 rF 32 x11 2 w λx12=>
 rL 22 x12 w λx13=>
 rN 22 3 x13 w λx14=>
 rC a1 x14 w λx15=>
 R x15 w)
 (R vF w)
theorem F239_call {a0 a1 w R} (h:F239 a0 a1 w R):cL 239 [a0,a1] w R:=co (g:=(kf [] [] [])) Tryz.func239 h
def F218 (a0 a1:Value) (w:World) (R:VW):Prop:=
 cL 239 [a0,a1] w λx9 w=>
 rT x9 w λx10=>
 BR x10
 (R vF w)
 (NIL a0 <|
 rF 114 a0 5 w λx14=>
 rL 3 x14 w λx15=>
 cL 116 [x15,a1] w λx17 w=>
 rT x17 w λx18=>
 BR x18
 (R vF w)
 (cL 139 [a0] w λx21 w=>
 NIL a0 <|
 rF 114 a0 6 w λx25=>
 rL 3 x25 w λx26=>
 cL 240 [a0,x26,(iV 5),a1] w λx28 w=>
 rB .eql 3 T0 T0 a1 x21 w λx31=>
 BR x31
 (rN 23 3 x28 w λx33=>
 rQ x33 (iV 0) w λx34=>
 R x34 w)
 ((λw=>rN 23 3 x28 w λx36=>
 rB .neq 3 T0 U0 x36 (iV 1) w λx37=>
 BR x37
 (R vF w)
 (NIL a0 <|
 rF 114 a0 0 w λx41=>
 rL 32 x41 w λx42=>
 rX 23 x28 (iV 0) w λx44=>
 rL 3 x44 w λx45=>
 (λw_=>cL 157 [x42,x45] w_ λx46 w=>
 Ext w_ w ∧
 rB .neq 3 T0 T0 x46 x21 w λx48=>
 BR x48
 (R vF w)
 (rX 23 x28 (iV 0) w λx53=>
 rL 3 x53 w λx54=>
 rX 23 x28 (iV 0) w λx57=>
 rL 3 x57 w λx58=>
 (λw_=>cL 241 [a0,x54] w_ λx55 w=>
 Ext w_ w ∧
 rX 101 x55 x58 w λx59=>
 rL 4 x59 w λx60=>
 BR x60
 (R vF w)
 ((λw=>cL 218 [a0,x21] w λx64 w=>
 BR x64
 (NIL a0 <|
 rF 114 a0 2 w λx68=>
 rL 23 x68 w λx69=>
 NIL a0 <|
 rF 114 a0 6 w λx72=>
 rL 3 x72 w λx73=>
 (λw_=>cL 138 [x69,x73] w_ λx74 w=>
 Ext w_ w ∧
 cL 116 [x74,x21] w λx76 w=>
 rT x76 w λx77=>
 R x77 w) w)
 (R vF w)) (World.drew1 w))) w)) w)) (World.drew1 w))))
theorem F218_call {a0 a1 w R} (h:F218 a0 a1 w R):cL 218 [a0,a1] w R:=co (g:=(kf [] [] [(7,[0,1,2,3,4,5,6,7,8,9,10,12,11,13,14,15,16,17,18,19,21,22,23,20,24,25,26],1050624),(9,[0,1,2,3,4,5,6,7,8,9,10,11,13,12,14,15,16,17],4096)])) Tryz.func218 h
open Rep (rep)
theorem zu1 {W0 w:World} {b:Nat} {c:DCode} (h:At W0 b 0 c) (hx:Ext W0 w):KAt W0 w b c:=by
 obtain ⟨F,cs,hr,hc⟩:=h;have hl:=Rep.len hr;have hp:0<cs.length:=by rw [hl];exact Rep.pos
 have hc':=zbr hc hx;refine ⟨F,cs,hr,hc',Decidable.byContradiction λhn=>?_⟩;have:=hc' 0 cs[0] (List.getElem?_eq_getElem hp);simp only [World.cell?] at this;rw [Array.getElem?_eq_none (by omega)] at this;cases this
theorem zua {w W0:World} {b a:Nat} {c:DCode} (hW:WAt W0 b c) (e0:Ext W0 w) (hc:CodeR c) (ha:a<c.ins.length) :
   CALL tp 241 [.pointer (some ⟨b,0,none⟩),.int .i64 (a:Int)] w λv w'=>Ext w w'∧Own w.heap.size w' v (zby c.ins.length (RP (zaC c) a)):=by
 refine F241_call ?_;unfold F241;have hil:=hc.f.ins;refine NIL.mk rfl ?_;refine zab zaZ ?_;refine zab zaD ?_;refine zaa zcu (zai hW.wl.code) e0 λv10 h10=>?_;refine zae u30 h10 ?_;have hk0:=zu1 hW.wl.code e0;have hbl:=hk0.lt;refine zd2 (by omega) (by omega) λw1 hx1 hM1=>?_;have hs1:=hx1.size;have e0s:=e0.size;refine (zmP (zu1 hW.wl.code (e0.t hx1)) (e0.t hx1) hc rfl ha hM1 (by simp) (by omega) (by omega) λi hi=>absurd hi zbv).mono ?_;rintro _ w2 ⟨rfl,hc2,hM2⟩;refine ⟨hx1.chgI hc2 (lr _),[w.heap.size],?_,λb hb=>by simp at hb;omega⟩;have:(zby c.ins.length λi=>mkd (List.replicate c.ins.length false) i∨RP (zaC c) a i)=zby c.ins.length (RP (zaC c) a):=zaN λi _=>⟨λh=>h.resolve_left zbv,.inr⟩;rw [←this];exact hM2
theorem znj {w W0:World} {b r:Nat} {c:DCode} (hW:WAt W0 b c) (e0:Ext W0 w) (hr:r<c.procs.length) :
   CALL tp 239 [.pointer (some ⟨b,0,none⟩),.int .i64 (r:Int)] w λv w'=>Ext w w'∧v=.bool true:=by
 refine F239_call ?_;unfold F239;refine zb0 ?_;refine br (λ_=>?_) (λh=>by omega);refine NIL.mk rfl ?_;refine zab zaZ ?_;refine zab zbf ?_;refine zaa zb1 (zau hW.wl.code) e0 λv10 h10=>?_;refine zae u22 h10 ?_;refine zag ?_;exact ⟨Ext.refl _,by simp;omega⟩
def zqE (c:DCode) (r a:Nat):Prop:=zeo c r=[a]∧zaw c a=(zcj c:Int)∧¬RP (zaC c) a a∧zeo c (zcj c)=[]∧¬ ∃ p,UsedP c p∧zjq c p 4 (zcj c)
def zd6 (c:DCode) (r:Nat):Prop:=(r=zcj c∧zeo c r=[])∨(r≠zcj c∧∃ a,zqE c r a)
noncomputable instance (c:DCode) (r:Nat):Decidable (zd6 c r):=Classical.propDecidable _
theorem zeY {c:DCode}:zd6 c (zcj c)↔zeo c (zcj c)=[]:=
 ⟨λh=>h.elim (·.2) λh=>absurd rfl h.1,λh=>.inl ⟨rfl,h⟩⟩
theorem ziE {c:DCode} {r:Nat} (hr:r≠zcj c):zd6 c r↔∃ a,zqE c r a:=
 ⟨λh=>h.elim (λh=>absurd h.1 hr) (·.2),λh=>.inr ⟨hr,h⟩⟩
theorem znk {l:List Nat}:((l.length:Int)=0)↔l=[]:=by
 rw [←List.length_eq_zero_iff];omega
theorem znl {c:DCode} {p:Nat}:(zdT c).testBit p=true↔p<c.procs.length∧UsedP c p:=zaT
theorem zkM {c:DCode} {p:Nat}:(zcx c).testBit p=true↔p<c.procs.length∧RootP c p:=zaT
theorem zsH {c:DCode} (hc:CodeR c) {p:Nat} (h:UsedP c p):p<c.procs.length:=by
 obtain ⟨r,hr,hf⟩:=h;exact hf.lt (hr.lt hc)
theorem zqF {c:DCode} (hc:CodeR c) {q:Nat} (hq:q<c.procs.length):(orL (cls c 4) (zbn (zdT c))).testBit q=true↔∃ p,UsedP c p∧zjq c p 4 q:=by
 have h8:=hc.1.procs8;rw [zhk (m:=zdT c) (n:=c.procs.length) zhu (by omega)];constructor
 · rintro ⟨i,h1,h2,h3⟩
   exact ⟨i,(znl.1 h2).2,((zh0 h1).1 h3).2⟩
 rintro ⟨i,h1,h2⟩;have hi:=zsH hc h1;exact ⟨i,hi,znl.2 ⟨hi,h1⟩,(zh0 hi).2 ⟨hq,h2⟩⟩
theorem zkN {w W0:World} {b:Nat} {c:DCode} (hW:WAt W0 b c) (e0:Ext W0 w) (hc:CodeR c) :
   CALL tp 218 [.pointer (some ⟨b,0,none⟩),.int .i64 (zcj c:Nat)] w λv w'=>Ext w w'∧v=.bool (decide (zd6 c (zcj c))):=by
 refine F218_call ?_;unfold F218;have h8:=hc.1.procs8;have hml:=(zd3 hc).2;have hr256:zcx c<256:=zba h8.1;refine (znj hW e0 hml).mono ?_;rintro _ w1 ⟨hx1,rfl⟩;refine zaX ?_;refine zbz (λh=>by cases h) (λ_=>?_);refine NIL.mk rfl ?_;refine zab zgj ?_;refine zad ty3 hW.roots (e0.t hx1) λ_=>?_;refine (zeT (m:=zcx c) (i:=zcj c) (by omega) (by omega)).mono ?_;rintro _ w2 ⟨hx2,rfl⟩;rw [zkM.2 ⟨hml,.main⟩];refine zaX ?_;refine zbz (λh=>by cases h) (λ_=>?_);have hx12:=hx1.t hx2;refine (zgB (hW.wl.code.ext (e0.t hx12)) hc).mono ?_;rintro _ w3 ⟨hx3,rfl⟩;have hx13:=hx12.t hx3;refine NIL.mk rfl ?_;refine zab zgk ?_;refine zad ty3 hW.used (e0.t hx13) λ_=>?_;refine (zkL (r:=zcj c) hW (e0.t hx13) hc).mono ?_;rintro v28 w4 ⟨hx4,ho4⟩;refine zao ?_;refine br (λ_=>?_) (λh=>absurd rfl h);refine zae u23 ho4.is ?_;refine zao ?_;rw [zaf];exact ⟨hx13.t hx4,by congr 1;rw [decide_eq_decide,zeY,znk]⟩
theorem zsI {w W0:World} {b r:Nat} {c:DCode} (hW:WAt W0 b c) (e0:Ext W0 w) (hc:CodeR c) (hr:RootP c r) :
   CALL tp 218 [.pointer (some ⟨b,0,none⟩),.int .i64 (r:Int)] w λv w'=>Ext w w'∧v=.bool (decide (zd6 c r)):=by
 by_cases hm:r=zcj c
 · subst hm;exact zkN hW e0 hc
 refine F218_call ?_;unfold F218;have h8:=hc.1.procs8;have hml:=(zd3 hc).2;have hrl:=hr.lt hc;have hr256:zcx c<256:=zba h8.1;have hu256:zdT c<2^c.procs.length:=zhu;refine (znj hW e0 hrl).mono ?_;rintro _ w1 ⟨hx1,rfl⟩;refine zaX ?_;refine zbz (λh=>by cases h) (λ_=>?_);refine NIL.mk rfl ?_;refine zab zgj ?_;refine zad ty3 hW.roots (e0.t hx1) λ_=>?_;refine (zeT (m:=zcx c) (i:=r) (by omega) (by omega)).mono ?_;rintro _ w2 ⟨hx2,rfl⟩;rw [zkM.2 ⟨hrl,hr⟩];refine zaX ?_;refine zbz (λh=>by cases h) (λ_=>?_);have hx12:=hx1.t hx2;refine (zgB (hW.wl.code.ext (e0.t hx12)) hc).mono ?_;rintro _ w3 ⟨hx3,rfl⟩;have hx13:=hx12.t hx3;refine NIL.mk rfl ?_;refine zab zgk ?_;refine zad ty3 hW.used (e0.t hx13) λ_=>?_;refine (zkL (r:=r) hW (e0.t hx13) hc).mono ?_;rintro v28 w4' ⟨hx4,ho4⟩;refine zao ?_;refine br (λh=>absurd (by omega) hm) (λ_=>?_);have hxd:=zaj w4';have hx14:=hx13.t (hx4.t hxd);have hS4:=ho4.is.ext hxd;generalize World.drew1 w4'=w4 at *;have hsm:=λa (ha:a∈zeo c r)=>zkK hc ha;have hnot:(¬ ∃ a,zqE c r a)→Value.bool false=.bool (decide (zd6 c r)):=λh=>by rw [decide_eq_false λh2=>h ((ziE hm).1 h2)]
 refine zae u23 hS4 ?_;refine zaB ?_;rw [zaf];refine br (λhne=>?_) (λheq=>?_)
 · exact ⟨hx14,hnot λ⟨a,h⟩=>hne (by rw [h.1];rfl)⟩
 have hl1:(zeo c r).length=1:=by have:=Decidable.not_not.1 heq;omega
 obtain ⟨a,ha⟩:∃ a,zeo c r=[a]:=List.length_eq_one_iff.1 hl1;have hal:a<c.ins.length:=hsm a (by rw [ha];simp);rw [ha] at hS4
 have hget:∀ {w:World} {K:Value→Prop},Ext w4 w→(K (.int .i64 (a:Int)))→RD tp (Instr.indexAt 23 v28 (.int .i64 0)) w λx=>RD tp (Instr.loadAt 3 x) w K:=λhx kk=>by
   refine zac u23 ty3 (i:=0) hS4 (by simp [zaI]) λb3 o3 hA3=>?_;rw [show (zaI [a])[0]'(by simp [zaI])=(a:Int) from rfl] at hA3;exact zad ty3 hA3 hx λ_=>kk
 have hone:∀ a',zqE c r a'→a'=a:=λa' h=>by have:=h.1;rw [ha] at this;simpa using this.symm
 refine NIL.mk rfl ?_;refine zab zaZ ?_;refine zaa zbq hW.wl.code (e0.t hx14) λv42 h42=>?_;refine hget (Ext.refl _) ?_;refine (zjm (a:=(a:Int)) h42 (e0.t hx14) hc (by omega) (by omega)).mono ?_;rintro _ w5 ⟨hx5,rfl⟩;refine ⟨hx5,?_⟩;have hx15:=hx14.t hx5;refine zaB ?_;refine br (λhne=>?_) (λheq2=>?_)
 · exact ⟨hx15,hnot λ⟨a',h⟩=>hne (by have:=hone a' h;subst this;exact h.2.1)⟩
 refine hget hx5 ?_;refine hget hx5 ?_;refine (zua (a:=a) hW (e0.t hx15) hc hal).mono ?_;rintro v55 w6 ⟨hx6,ho6⟩;refine ⟨hx6,?_⟩;have hx16:=hx15.t hx6;have hmk:=zaF (n:=c.ins.length) (p:=RP (zaC c) a) (i:=a);rw [zaQ (by rw [zak];exact hal)] at hmk;refine zac zcy ty4 (i:=a) ho6.is (by rw [zak];exact hal) λb8 o8 hA8=>?_;refine zay ty4 hA8 (Ext.refl _) ?_;refine zbz (λhrp=>?_) (λhrp=>?_)
 · exact ⟨hx16,hnot λ⟨a',h⟩=>by have:=hone a' h;subst this;exact h.2.2.1 (hmk.1 hrp).2⟩
 have hnr:¬RP (zaC c) a a:=λh=>by rw [hmk.2 ⟨hal,h⟩] at hrp;cases hrp
 have hxd6:=zaj w6;have hx17:=hx16.t hxd6;generalize World.drew1 w6=w7 at *;refine (zkN hW (e0.t hx17) hc).mono ?_;rintro _ w8 ⟨hx8,rfl⟩;have hx18:=hx17.t hx8;refine br (λhsm=>?_) (λhsm=>?_)
 case refine_2=>exact ⟨hx18,hnot λ⟨a',h⟩=>hsm (zeY.2 h.2.2.2.1)⟩
 refine NIL.mk rfl ?_;refine zab zk6 ?_;refine zaa za4 hW.calls (e0.t hx18) λv69 h69=>?_;refine NIL.mk rfl ?_;refine zab zgk ?_;refine zad ty3 hW.used (e0.t hx18) λ_=>?_
 have hcl:∀ x∈cls c 4,x<256:=λx hx=>by
   obtain ⟨p,_,rfl⟩:=List.mem_map.1 hx;exact zba h8.1
 refine (zfZ (m:=zdT c) h69 (e0.t hx18) hcl (by rw [zfN];omega) (by rw [zfN];exact hu256)).mono ?_;rintro _ w9 ⟨hx9,rfl⟩;refine ⟨hx9,?_⟩;have ho256:=zph hcl (zbn (zdT c));refine (zeT (m:=orL (cls c 4) (zbn (zdT c))) (i:=zcj c) (by omega) (by omega)).mono ?_;rintro _ w10 ⟨hx10,rfl⟩;refine zaX ?_;refine ⟨hx18.t (hx9.t hx10),?_⟩;have hcb:=zqF hc hml
 have:zd6 c r↔¬(orL (cls c 4) (zbn (zdT c))).testBit (zcj c)=true:=by
   rw [ziE hm,hcb];constructor
   · rintro ⟨a',h⟩;exact h.2.2.2.2
   intro h;exact ⟨a,ha,Decidable.not_not.1 heq2,hnr,zeY.1 hsm,h⟩
 congr 1;cases hb:(orL (cls c 4) (zbn (zdT c))).testBit (zcj c)
 · rw [decide_eq_true (this.2 (by rw [hb];simp))];rfl
 rw [decide_eq_false (λh=>this.1 h hb)];rfl
def F153 (a0 a1:Value) (w:World) (R:VW):Prop:=
 oX 32 a0 w λx2 w=>
 rL 32 x2 w λx9=>
 cL 211 [x9] w λx10 w=>
 rL 32 x2 w λx11=>
 cL 213 [x11,a1] w λx13 w=>
 rB .eql 3 T0 T0 a1 x10 w λx16=>
 BR x16
 (rN 23 3 x13 w λx18=>
 rQ x18 (iV 0) w λx19=>
 R x19 w)
 ((λw=>rN 23 3 x13 w λx21=>
 rB .neq 3 T0 U0 x21 (iV 1) w λx22=>
 BR x22
 (R vF w)
 (rL 32 x2 w λx24=>
 rX 23 x13 (iV 0) w λx26=>
 rL 3 x26 w λx27=>
 (λw_=>cL 97 [x24,x27] w_ λx28 w=>
 Ext w_ w ∧
 rB .neq 3 T0 T0 x28 x10 w λx30=>
 BR x30
 (R vF w)
 (rL 32 x2 w λx33=>
 rX 23 x13 (iV 0) w λx35=>
 rL 3 x35 w λx36=>
 rX 23 x13 (iV 0) w λx39=>
 rL 3 x39 w λx40=>
 (λw_=>cL 214 [x33,x36] w_ λx37 w=>
 Ext w_ w ∧
 rX 101 x37 x40 w λx41=>
 rL 4 x41 w λx42=>
 BR x42
 (R vF w)
 (rL 32 x2 w λx45=>
 cL 153 [x45,x10] w λx47 w=>
 rT x47 w λx48=>
 BR x48
 (R vF w)
 (rL 32 x2 w λx50=>
 cL 209 [x50] w λx51 w=>
 LOOPI [8] [(iV 0)] w λu9 w n9=>
 rF 32 x2 2 w λx53=>
 rL 22 x53 w λx54=>
 rN 22 3 x54 w λx55=>
 rC (u9 8) x55 w λx56=>
 BR x56
 (rX 101 x51 (u9 8) w λx61=>
 rL 4 x61 w λx62=>
 BR x62
 (rL 32 x2 w λx64=>
 cL 212 [x64,(u9 8),(iV 4)] w λx66 w=>
 cL 104 [x66,x10] w λx68 w=>
 BR x68
 (R vF w)
 (rI (u9 8) w λx58=>
 n9 [x58] w))
 (rI (u9 8) w λx58=>
 n9 [x58] w))
 (R vT w)))) w)) w)) (World.drew1 w))
theorem F153_call {a0 a1 w R} (h:F153 a0 a1 w R):cL 153 [a0,a1] w R:=co (g:=(kf [] [(9,1180587117117783933200,[8])] [(5,[0,1,2,3,4,5,6,7,9,8,10,11,12,13,14,15,16,18,19,20,17,21,22,23,24,25,26,27,28,29],131328)])) Tryz.func153 h
def F161 (a0:Value) (w:World) (R:VW):Prop:=
 NIL a0 <|
 rF 114 a0 5 w λx8=>
 rL 3 x8 w λx9=>
 cL 66 [x9] w λx10 w=>
 rN 23 3 x10 w λx11=>
 LOOPI [3,12] [(iV 0),(iV 0)] w λu3 w n3=>
 rC (u3 12) x11 w λx13=>
 BR x13
 (rX 23 x10 (u3 12) w λx14=>
 rL 3 x14 w λx15=>
 cL 218 [a0,x15] w λx18 w=>
 BR x18
 (rD (convert 3 121 x15) w λx21=>
 rB .shl 3 U0 T0 (iV 1) x21 w λx22=>
 rB .or 3 T0 T0 (u3 3) x22 w λx23=>
 rI (u3 12) w λx24=>
 n3 [x23,x24] w)
 (rI (u3 12) w λx24=>
 n3 [(u3 3),x24] w))
 (R (u3 3) w)
theorem F161_call {a0 w R} (h:F161 a0 w R):cL 161 [a0] w R:=co (g:=(kf [] [(3,33550376,[3,12])] [])) Tryz.func161 h
def F160 (a0 a1:Value) (w:World) (R:VW):Prop:=
 NIL a0 <|
 rF 114 a0 0 w λx10=>
 rL 32 x10 w λx11=>
 cL 113 [x11,a1] w λx13 w=>
 rT x13 w λx14=>
 BR x14
 (R (iV 0) w)
 (NIL a0 <|
 rF 114 a0 1 w λx18=>
 rL 101 x18 w λx19=>
 rX 101 x19 a1 w λx21=>
 rL 4 x21 w λx22=>
 rT x22 w λx23=>
 BR x23
 (R (iV 0) w)
 (NIL a0 <|
 rF 114 a0 5 w λx27=>
 rL 3 x27 w λx28=>
 cL 66 [x28] w λx29 w=>
 rN 23 3 x29 w λx30=>
 LOOPI [5,31] [(iV 0),(iV 0)] w λu5 w n5=>
 rC (u5 31) x30 w λx32=>
 BR x32
 (rX 23 x29 (u5 31) w λx33=>
 rL 3 x33 w λx34=>
 (λw=>NIL a0 <|
 rF 114 a0 4 w λx37=>
 rL 23 x37 w λx38=>
 rX 23 x38 x34 w λx40=>
 rL 3 x40 w λx41=>
 NIL a0 <|
 rF 114 a0 0 w λx44=>
 rL 32 x44 w λx45=>
 (λw_=>cL 157 [x45,a1] w_ λx47 w=>
 Ext w_ w ∧
 cL 116 [x41,x47] w λx48 w=>
 BR x48
 (rD (convert 3 121 x34) w λx51=>
 rB .shl 3 U0 T0 (iV 1) x51 w λx52=>
 rB .or 3 T0 T0 (u5 5) x52 w λx53=>
 rI (u5 31) w λx54=>
 n5 [x53,x54] w)
 (rI (u5 31) w λx54=>
 n5 [(u5 5),x54] w)) w) (World.drew1 w))
 (R (u5 5) w)))
theorem F160_call {a0 a1 w R} (h:F160 a0 a1 w R):cL 160 [a0,a1] w R:=co (g:=(kf [] [(5,36028794871480480,[5,31])] [(7,[0,1,2,3,4,5,6,7,8,9,10,11,12,13],4096)])) Tryz.func160 h
open Rep (rep)
theorem zhm {w W0:World} {v0:Value} {c:DCode} (h0:Is W0 v0 c) (e0:Ext W0 w) (hc:CodeR c) :
   CALL tp 153 [v0,.int .i64 (zcj c:Nat)] w λv w'=>Ext w w'∧v=.bool (decide (zd6 c (zcj c))):=by
 refine F153_call ?_;unfold F153;have hml:=zd3 hc;refine zbj h0 e0 λw1 hx1 hA=>?_;refine zaa zbq hA (Ext.refl _) λv9 h9=>?_;refine (zfY h9 (Ext.refl _)).mono ?_;rintro _ w2 ⟨hx2,rfl⟩;rw [hml.1];refine zaa zbq hA hx2 λv11 h11=>?_;refine (zig (r:=zcj c) h11 hx2 hc).mono ?_;rintro v13 w3 ⟨hx3,ho3⟩;refine zao ?_;refine br (λ_=>?_) (λh=>absurd rfl h);refine zae u23 ho3.is ?_;refine zao ?_;rw [zaf];exact ⟨hx1.t (hx2.t hx3),by congr 1;rw [decide_eq_decide,zeY,znk]⟩
theorem znm {w W0:World} {v0:Value} {r:Nat} {c:DCode} (h0:Is W0 v0 c) (e0:Ext W0 w) (hc:CodeR c) :
   CALL tp 153 [v0,.int .i64 (r:Int)] w λv w'=>Ext w w'∧v=.bool (decide (zd6 c r)):=by
 by_cases hm:r=zcj c
 · subst hm;exact zhm h0 e0 hc
 refine F153_call ?_;unfold F153;have h8:=hc.1.procs8;have he:=hc.2.1.1;have hml:=zd3 hc;refine zbj h0 e0 λw1 hx1 hA=>?_;refine zaa zbq hA (Ext.refl _) λv9 h9=>?_;refine (zfY h9 (Ext.refl _)).mono ?_;rintro _ w2 ⟨hx2,rfl⟩;rw [hml.1];refine zaa zbq hA hx2 λv11 h11=>?_;refine (zig (r:=r) h11 hx2 hc).mono ?_;rintro v28 w3 ⟨hx3,ho3⟩;refine zao ?_;refine br (λh=>absurd (by omega) hm) (λ_=>?_);have hxd:=zaj w3;have hx14:=hx2.t (hx3.t hxd);have hS4:=ho3.is.ext hxd;generalize World.drew1 w3=w4 at *;have hsm:=λa (ha:a∈zeo c r)=>zkK hc ha;have hnot:(¬ ∃ a,zqE c r a)→Value.bool false=.bool (decide (zd6 c r)):=λh=>by rw [decide_eq_false λh2=>h ((ziE hm).1 h2)]
 refine zae u23 hS4 ?_;refine zaB ?_;rw [zaf];refine br (λhne=>?_) (λheq=>?_)
 · exact ⟨hx1.t hx14,hnot λ⟨a,h⟩=>hne (by rw [h.1];rfl)⟩
 have hl1:(zeo c r).length=1:=by have:=Decidable.not_not.1 heq;omega
 obtain ⟨a,ha⟩:∃ a,zeo c r=[a]:=List.length_eq_one_iff.1 hl1;have hal:a<c.ins.length:=hsm a (by rw [ha];simp);rw [ha] at hS4
 have hget:∀ {w:World} {K:Value→Prop},Ext w4 w→(K (.int .i64 (a:Int)))→RD tp (Instr.indexAt 23 v28 (.int .i64 0)) w λx=>RD tp (Instr.loadAt 3 x) w K:=λhx kk=>by
   refine zac u23 ty3 (i:=0) hS4 (by simp [zaI]) λb3 o3 hA3=>?_;rw [show (zaI [a])[0]'(by simp [zaI])=(a:Int) from rfl] at hA3;exact zad ty3 hA3 hx λ_=>kk
 have hone:∀ a',zqE c r a'→a'=a:=λa' h=>by have:=h.1;rw [ha] at this;simpa using this.symm
 refine zaa zbq hA hx14 λv24 h24=>?_;refine hget (Ext.refl _) ?_;refine (zd8 (a:=(a:Int)) h24 hx14).mono ?_;rintro _ w5 ⟨hx5,rfl⟩;refine ⟨hx5,?_⟩;have hx15:=hx14.t hx5;refine zaB ?_;refine br (λhne=>?_) (λheq2=>?_)
 · exact ⟨hx1.t hx15,hnot λ⟨a',h⟩=>hne (by have:=hone a' h;subst this;exact h.2.1)⟩
 refine zaa zbq hA hx15 λv33 h33=>?_;refine hget hx5 ?_;refine hget hx5 ?_;refine (zn4 (a:=a) h33 hx15 hc hal).mono ?_;rintro v55 w6 ⟨hx6,ho6⟩;refine ⟨hx6,?_⟩;have hx16:=hx15.t hx6;have hmk:=zaF (n:=c.ins.length) (p:=RP (zaC c) a) (i:=a);rw [zaQ (by rw [zak];exact hal)] at hmk;refine zac zcy ty4 (i:=a) ho6.is (by rw [zak];exact hal) λb8 o8 hA8=>?_;refine zay ty4 hA8 (Ext.refl _) ?_;refine zbz (λhrp=>?_) (λhrp=>?_)
 · exact ⟨hx1.t hx16,hnot λ⟨a',h⟩=>by have:=hone a' h;subst this;exact h.2.2.1 (hmk.1 hrp).2⟩
 have hnr:¬RP (zaC c) a a:=λh=>by rw [hmk.2 ⟨hal,h⟩] at hrp;cases hrp
 refine zaa zbq hA hx16 λv45 h45=>?_;refine (zhm h45 hx16 hc).mono ?_;rintro _ w8 ⟨hx8,rfl⟩;have hx18:=hx16.t hx8;refine zaq ?_;refine br (λhsm=>?_) (λhsm=>?_)
 · exact ⟨hx1.t hx18,hnot λ⟨a',h⟩=>hsm (zeY.2 h.2.2.2.1)⟩
 have hsm':=Decidable.not_not.1 hsm;refine zaa zbq hA hx18 λv50 h50=>?_;refine (zf5 h50 hx18 hc).mono ?_;rintro v51 w9 ⟨hx9,ho9⟩;have hx19:=hx18.t hx9;refine zam c.procs.length (λk us w'=>us=[.int .i64 (k:Int)]∧k≤c.procs.length∧Ext w9 w'∧∀ p,p<k→UsedP c p→¬zjq c p 4 (zcj c)) 0 (z0 _) ⟨rfl,z0 _,Ext.refl _,λp h=>by omega⟩ ?_;rintro p mk u w10 hkm ⟨hu,hkl,hx10,hD⟩;try replace hu:=zbi hu
 rw [hu];have hx110:=hx19.t hx10;refine zab zbf ?_;refine zaa zb1 (zau hA) hx110 λv54 h54=>?_;refine zae u22 h54 ?_;refine zag ?_;refine br (λhlt=>?_) (λhge=>?_)
 case refine_2=>have:zd6 c r:=(ziE hm).2 ⟨a,ha,Decidable.not_not.1 heq2,hnr,zeY.1 hsm',λ⟨p,h1,h2⟩=>hD p (by have:=zsH hc h1;omega) h1 h2⟩;exact ⟨hx1.t hx110,by rw [decide_eq_true this]⟩
 have hp:p<c.procs.length:=by omega
 have hnext:(UsedP c p→¬zjq c p 4 (zcj c))→∀ q,q<p+1→UsedP c q→¬zjq c q 4 (zcj c):=λh q hq=>by
   by_cases e:q=p
   · subst e;exact h
   exact hD q (by omega)
 have hmu:=zaF (n:=c.procs.length) (p:=UsedP c) (i:=p);rw [zaQ (by rw [zak];exact hp)] at hmu;refine zac zcy ty4 (i:=p) ho9.is (by rw [zak];exact hp) λb11 o11 hA11=>?_;refine zay ty4 hA11 hx10 ?_;refine zbz (λhf=>?_) (λhf=>?_)
 case refine_2=>refine zas ?_;exact ⟨mk-1,by omega,p+1,by omega,rfl,by omega,hx10,hnext λh=>by rw [hmu.2 ⟨hp,h⟩] at hf;cases hf⟩
 have hU:=(hmu.1 hf).2;refine zaa zbq hA hx110 λv64 h64=>?_;refine (zjr (p:=p) h64 hx110 hc (by rw [he];exact hp) (.inl rfl)).mono ?_;rintro v66 w11 ⟨hx11,ho11⟩;refine (zni (y:=(zcj c:Nat)) ho11.is (Ext.refl _)).mono ?_;rintro _ w12 ⟨hx12,rfl⟩;have hx112:=hx110.t (hx11.t hx12)
 have hin:((zcj c:Nat):Int)∈zaI (zaY c.procs.length (zjq c p 4))↔zjq c p 4 (zcj c):=by
   unfold zaI;rw [List.mem_map];constructor
   · rintro ⟨x,hx,e⟩
     have:x=zcj c:=by omega
     subst this;exact (zaJ.1 hx).2
   intro h;exact ⟨_,zaJ.2 ⟨hml.2,h⟩,rfl⟩
 refine br (λhy=>?_) (λhno=>?_)
 · exact ⟨hx1.t hx112,hnot λ⟨a',h⟩=>h.2.2.2.2 ⟨p,hU,hin.1 hy⟩⟩
 refine zas ?_;exact ⟨mk-1,by omega,p+1,by omega,rfl,by omega,hx10.t (hx11.t hx12),hnext λ_ h=>hno (hin.2 h)⟩
noncomputable def zos (c:DCode):Nat:=zce (λr=>RootP c r∧zd6 c r) c.procs.length
def RtP (c:DCode) (i r:Nat):Prop:=zeI c i∧RootP c r∧FromP c r (zaw c i).toNat
noncomputable def rtN (c:DCode) (i:Nat):Nat:=zce (RtP c i) c.procs.length
theorem zsJ {c:DCode} (hc:CodeR c) (i:Nat):rtN c i<256:=zba hc.1.procs8.1
theorem zub {c:DCode} (hc:CodeR c):zos c<256:=zba hc.1.procs8.1
def AccB (U:List Nat) (P:Nat→Prop) (k m:Nat):Prop:=m<256∧∀ r,m.testBit r=true↔r∈U.take k∧P r
theorem AccB.yes {U:List Nat} {P:Nat→Prop} {k m:Nat} (h:AccB U P k m) (hk:k<U.length) (h8:U[k]<8) (hp:P U[k]):AccB U P (k+1) (m ||| 2^U[k]):=by
 refine ⟨Nat.or_lt_two_pow (n:=8) h.1 (Nat.pow_lt_pow_right (by omega) h8),λr=>?_⟩;rw [Nat.testBit_or,Bool.or_eq_true,h.2,zbg hk,Nat.testBit_two_pow,decide_eq_true_eq];constructor
 · rintro (⟨h1,h2⟩ | rfl)
   · exact ⟨.inl h1,h2⟩
   exact ⟨.inr rfl,hp⟩
 rintro ⟨h1 | rfl,h2⟩
 · exact .inl ⟨h1,h2⟩
 exact .inr rfl
theorem AccB.no {U:List Nat} {P:Nat→Prop} {k m:Nat} (h:AccB U P k m) (hk:k<U.length) (hp:¬P U[k]):AccB U P (k+1) m:=by
 refine ⟨h.1,λr=>?_⟩;rw [h.2,zbg hk];constructor
 · rintro ⟨h1,h2⟩;exact ⟨.inl h1,h2⟩
 rintro ⟨h1 | rfl,h2⟩
 · exact ⟨h1,h2⟩
 exact absurd h2 hp
theorem AccB.fin {n:Nat} {Q P:Nat→Prop} {k m:Nat} (h:AccB (zaY n Q) P k m) (hk:(zaY n Q).length≤k):m=zce (λr=>Q r∧P r) n:=by
 refine zdv λr=>?_;rw [h.2,List.take_of_length_le hk,zaJ];exact ⟨λ⟨⟨a,b⟩,d⟩=>⟨a,b,d⟩,λ⟨a,b,d⟩=>⟨⟨a,b⟩,d⟩⟩
theorem AccB.start (U:List Nat) (P:Nat→Prop):AccB U P 0 0:=⟨by omega,λr=>by simp⟩
theorem zqG {w W0:World} {b:Nat} {c:DCode} (hW:WAt W0 b c) (e0:Ext W0 w) (hc:CodeR c) :
   CALL tp 161 [.pointer (some ⟨b,0,none⟩)] w λv w'=>Ext w w'∧v=.int .i64 (zos c:Nat):=by
 refine F161_call ?_;unfold F161;have h8:=hc.1.procs8;have hr256:zcx c<256:=zba h8.1;refine NIL.mk rfl ?_;refine zab zgj ?_;refine zad ty3 hW.roots e0 λ_=>?_;refine (zcU (m:=zcx c) (by omega)).mono ?_;rintro v10 w1 ⟨hx1,ho1⟩;unfold zcx at ho1;rw [zdE (by omega)] at ho1;refine zae u23 ho1.is ?_;rw [zaf];have hUl:=za0 (n:=c.procs.length) (p:=RootP c);have hUm:∀ r∈zaY c.procs.length (RootP c),r<c.procs.length∧RootP c r:=λr hr=>zaJ.1 hr;have hfin:∀ {k m},AccB (zaY c.procs.length (RootP c)) (zd6 c) k m→(zaY c.procs.length (RootP c)).length≤k→m=zos c:=λh hk=>h.fin hk;generalize zaY c.procs.length (RootP c)=U at *;refine zam U.length (λk us w'=>∃ m:Nat,us=[.int .i64 (m:Int),.int .i64 (k:Int)]∧k≤U.length∧Ext w1 w'∧AccB U (zd6 c) k m) 0 (z0 _) ⟨0,rfl,z0 _,Ext.refl _,AccB.start _ _⟩ ?_;rintro k mk u w2 hkm ⟨m,hu,hkl,hx2,hB⟩;obtain ⟨hu1,hu2⟩:=zbL hu;rw [hu1,hu2];refine zag ?_;refine br (λhlt=>?_) (λhge=>?_)
 case refine_2=>rw [hfin hB (by omega)];exact ⟨hx1.t hx2,rfl⟩
 have hk:k<U.length:=by omega
 obtain ⟨hrl,hrR⟩:=hUm U[k] (List.getElem_mem _);refine zac u23 ty3 (i:=k) ho1.is (by rw [zaf];exact hk) λb3 o3 hA3=>?_;rw [zaP] at hA3;have hyes:=λhp=>hB.yes hk (by omega) hp;have hno:=λhp=>hB.no hk hp;generalize U[k]=r at *;refine zad ty3 hA3 hx2 λ_=>?_;have hm256:=hB.1;refine (zsI (r:=r) hW (e0.t (hx1.t hx2)) hc hrR).mono ?_;rintro _ w3 ⟨hx3,rfl⟩;refine br (λhs=>?_) (λhs=>?_)
 · refine zbI (by kernel_rfl) ziq (by omega) ?_
   refine zds (by omega) ?_;have:2^r<256:=Nat.pow_lt_pow_right (m:=r) (n:=8) (by omega) (by omega);refine ze3 (by omega) (by omega) ?_;refine zas ?_;exact ⟨mk-1,by omega,k+1,by omega,m ||| 2^r,rfl,by omega,hx2.t hx3,hyes hs⟩
 refine zas ?_;exact ⟨mk-1,by omega,k+1,by omega,m,rfl,by omega,hx2.t hx3,hno hs⟩
theorem zqH {w W0:World} {b i:Nat} {c:DCode} (hW:WAt W0 b c) (e0:Ext W0 w) (hc:CodeR c) (hi:i<c.ins.length) :
   CALL tp 160 [.pointer (some ⟨b,0,none⟩),.int .i64 (i:Int)] w λv w'=>Ext w w'∧v=.int .i64 (rtN c i:Nat):=by
 refine F160_call ?_;unfold F160;have h8:=hc.1.procs8;have hr256:zcx c<256:=zba h8.1;obtain ⟨q,hq,hpq,_⟩:=zdO hc hi;refine NIL.mk rfl ?_;refine zab zaZ ?_;refine zaa zbq hW.wl.code e0 λv11 h11=>?_;refine (zeR (a:=(i:Int)) h11 e0).mono ?_;rintro _ w1 ⟨hx1,rfl⟩;refine zaq ?_;refine br (λh=>absurd ⟨by omega,by omega⟩ h) (λ_=>?_);refine NIL.mk rfl ?_;refine zab zk5 ?_;refine zaa zcd hW.wl.live (e0.t hx1) λv19 h19=>?_;have hmk:=zaF (n:=c.ins.length) (p:=zeI c) (i:=i);rw [zaQ (by rw [zak];exact hi)] at hmk;refine zac zcy ty4 (i:=i) h19 (by rw [zak];exact hi) λb2 o2 hA2=>?_;refine zay ty4 hA2 (e0.t hx1) ?_;refine zaX ?_;refine zbz (λhf=>?_) (λhf=>?_)
 · have hnl:¬zeI c i:=λh=>by rw [hmk.2 ⟨hi,h⟩] at hf;cases hf
   have:rtN c i=0:=(zdv (m:=0) λr=>by simp;exact λ_ h=>hnl h.1).symm;rw [this];exact ⟨hx1,rfl⟩
 have hL:zeI c i:=(hmk.1 (by simpa using hf)).2;refine NIL.mk rfl ?_;refine zab zgj ?_;refine zad ty3 hW.roots (e0.t hx1) λ_=>?_;refine (zcU (m:=zcx c) (by omega)).mono ?_;rintro v29 w2 ⟨hx2,ho2⟩;unfold zcx at ho2;rw [zdE (by omega)] at ho2;refine zae u23 ho2.is ?_;rw [zaf];have hUl:=za0 (n:=c.procs.length) (p:=RootP c);have hUm:∀ r∈zaY c.procs.length (RootP c),r<c.procs.length∧RootP c r:=λr hr=>zaJ.1 hr
 have hfin:∀ {k m},AccB (zaY c.procs.length (RootP c)) (λr=>FromP c r q) k m→(zaY c.procs.length (RootP c)).length≤k→m=rtN c i:=λh hk=>by
   rw [h.fin hk];unfold rtN;refine zbe λr _=>?_;unfold RtP;rw [hpq];exact ⟨λh=>⟨hL,h.1,h.2⟩,λh=>h.2⟩
 generalize zaY c.procs.length (RootP c)=U at *;have hx02:=hx1.t hx2;refine zam U.length (λk us w'=>∃ m:Nat,us=[.int .i64 (m:Int),.int .i64 (k:Int)]∧k≤U.length∧Ext w2 w'∧AccB U (λr=>FromP c r q) k m) 0 (z0 _) ⟨0,rfl,z0 _,Ext.refl _,AccB.start _ _⟩ ?_;rintro k mk u w3 hkm ⟨m,hu,hkl,hx3,hB⟩;obtain ⟨hu1,hu2⟩:=zbL hu;rw [hu1,hu2];refine zag ?_;refine br (λhlt=>?_) (λhge=>?_)
 case refine_2=>rw [hfin hB (by omega)];exact ⟨hx02.t hx3,rfl⟩
 have hk:k<U.length:=by omega
 obtain ⟨hrl,hrR⟩:=hUm U[k] (List.getElem_mem _);refine zac u23 ty3 (i:=k) ho2.is (by rw [zaf];exact hk) λb4 o4 hA4=>?_;rw [zaP] at hA4;have hyes:=λhp=>hB.yes hk (by omega) hp;have hno:=λhp=>hB.no hk hp;generalize U[k]=r at *;refine zad ty3 hA4 hx3 λ_=>?_;have hm256:=hB.1;have hxd:=zaj w3;have hx23:=hx3.t hxd;generalize World.drew1 w3=w4 at *;have e4:=e0.t (hx02.t hx23);refine NIL.mk rfl ?_;refine zab ziV ?_;refine zaa za4 hW.frm e4 λv38 h38=>?_;refine zac u23 ty3 (i:=r) h38 (by rw [zaf,zhY];exact hrl) λb5 o5 hA5=>?_;rw [zaL] at hA5;refine zad ty3 hA5 e4 λ_=>?_;refine NIL.mk rfl ?_;refine zab zaZ ?_;refine zaa zbq hW.wl.code e4 λv45 h45=>?_;refine (zjm (a:=(i:Int)) h45 e4 hc (by omega) (by omega)).mono ?_;rintro _ w5 ⟨hx5,rfl⟩;refine ⟨hx5,?_⟩;rw [hpq];have hfb:=zol (c:=c) (r:=q) hrl;have hf256:zax (frs c) r<256:=by rw [zpy hrl];exact zba h8.1
 refine (zeT (m:=zax (frs c) r) (i:=q) (by omega) (by omega)).mono ?_;rintro _ w6 ⟨hx6,rfl⟩;have hx26:=hx23.t (hx5.t hx6);refine zbz (λhs=>?_) (λhs=>?_)
 · refine zbI (by kernel_rfl) ziq (by omega) ?_
   refine zds (by omega) ?_;have:2^r<256:=Nat.pow_lt_pow_right (m:=r) (n:=8) (by omega) (by omega);refine ze3 (by omega) (by omega) ?_;refine zas ?_;exact ⟨mk-1,by omega,k+1,by omega,m ||| 2^r,rfl,by omega,hx26,hyes (hfb.1 hs).2⟩
 refine zas ?_;exact ⟨mk-1,by omega,k+1,by omega,m,rfl,by omega,hx26,hno λh=>by rw [hfb.2 ⟨hq,h⟩] at hs;cases hs⟩
def F159 (a0:Value) (w:World) (R:VW):Prop:=
 rN 101 3 a0 w λx7=>
 LOOPI [3,8] [(Value.slice none 0 0),(iV 0)] w λu3 w n3=>
 rC (u3 8) x7 w λx9=>
 BR x9
 (rX 101 a0 (u3 8) w λx11=>
 rL 4 x11 w λx12=>
 BR x12
 (oP (bS 23 (u3 8)) w λx16 w=>
 oP (aP 23 (u3 3) x16) w λx17 w=>
 rI (u3 8) w λx18=>
 n3 [x17,x18] w)
 (rI (u3 8) w λx18=>
 n3 [(u3 3),x18] w))
 (R (u3 3) w)
theorem F159_call {a0 w R} (h:F159 a0 w R):cL 159 [a0] w R:=co (g:=(kf [] [(3,524088,[3,8])] [])) Tryz.func159 h
open Rep (rep)
theorem zsK {w W0:World} {v0:Value} {ms:List Bool} (h0:Is W0 v0 ms) (e0:Ext W0 w) (hn:ms.length≤2000000) :
   CALL tp 159 [v0] w λr w'=>Ext w w'∧Own w.heap.size w' r (zaI (ztN ms ms.length)):=by
 refine F159_call ?_;unfold F159;refine zae zcy h0 ?_;refine zam ms.length (λk us w'=>∃ (v:Value),us=[v,.int .i64 (k:Int)]∧k≤ms.length∧Ext w w'∧RowI w.heap.size w'.heap.size 3 w' v (zaI (ztN ms k))) 0 (z0 _) ⟨_,rfl,z0 _,Ext.refl _,zcv _ _ _ _⟩ ?_;rintro k mk u w2 hkm ⟨v,hu,hkl,hx2,hr2⟩;obtain ⟨hu1,hu2⟩:=zbL hu;rw [hu1,hu2];refine zag ?_;refine br (λhlt=>?_) (λhge=>?_)
 case refine_2=>
   have:k=ms.length:=by omega
   rw [this] at hr2;exact ⟨hx2,hr2.own.own⟩
 have hk:k<ms.length:=by omega
 have hs2:=hx2.size;have hg:ms.getD k false=ms[k]:=by rw [List.getD_eq_getElem?_getD,List.getElem?_eq_getElem hk];rfl
 have hil:=zpd ms k;refine zac zcy ty4 h0 hk λb2 o2 hA2=>?_;refine zay ty4 hA2 (e0.t hx2) ?_;refine zbz (λhf=>?_) (λhf=>?_)
 · refine zbF (lo2:=w2.heap.size) (hi2:=w2.heap.size) (x:=(k:Int)) u23 ty3 z3 zc3 (by decide) hr2 hs2 (ownI_int _ _ (by unfold I64;omega)) (lr _) hs2 (by rw [zan,zaf];omega) (by rw [zaf];omega) λv54 w9 hc9 hr9=>?_
   refine zas ?_;refine ⟨mk-1,by omega,k+1,by omega,v54,rfl,by omega,hx2.chgI hc9 (lr _),?_⟩;rw [zha,hg,hf,if_pos rfl,zbW];exact hr9
 refine zas ?_;refine ⟨mk-1,by omega,k+1,by omega,v,rfl,by omega,hx2,?_⟩;rw [zha,hg,hf];simpa using hr2
def F109 (a0 a1 a2:Value) (w:World) (R:VW):Prop:=
 rQ a0 (iV 0) w λx8=>
 BR x8
 (R vF w)
 (rQ a1 (iV 0) w λx11=>
 BR x11
 (R vF w)
 (rB .and 3 T0 T0 a0 a1 w λx15=>
 rB .andNot 3 T0 T0 x15 a2 w λx17=>
 rB .neq 3 T0 U0 x17 (iV 0) w λx18=>
 BR x18
 (R vT w)
 (rB .neq 3 T0 T0 a0 a1 w λx22=>
 BR x22
 (R vT w)
 (rB .sub 3 T0 U0 a0 (iV 1) w λx27=>
 rB .and 3 T0 T0 a0 x27 w λx28=>
 rB .neq 3 T0 U0 x28 (iV 0) w λx29=>
 R x29 w))))
theorem F109_call {a0 a1 a2 w R} (h:F109 a0 a1 a2 w R):cL 109 [a0,a1,a2] w R:=co (g:=(kf [] [] [])) Tryz.func109 h
def F107 (a0:Value) (w:World) (R:VW):Prop:=
 NIL a0 <|
 rF 114 a0 0 w λx8=>
 rF 32 x8 4 w λx9=>
 rL 30 x9 w λx10=>
 rN 30 3 x10 w λx11=>
 oP (Instr.makeSlice 23 x11 x11) w λx12 w=>
 rN 23 3 x12 w λx14=>
 LOOPI [15] [(iV 0)] w λu3 w n3=>
 rC (u3 15) x14 w λx16=>
 BR x16
 (cL 160 [a0,(u3 15)] w λx22 w=>
 rX 23 x12 (u3 15) w λx23=>
 oS 3 x23 x22 w λw=>
 rI (u3 15) w λx24=>
 n3 [x24] w)
 (cL 161 [a0] w λx27 w=>
 R (Value.tuple #[x12,x27]) w)
theorem F107_call {a0 w R} (h:F107 a0 w R):cL 107 [a0] w R:=co (g:=(kf [] [(3,33521696,[15])] [])) Tryz.func107 h
def F106 (a0:Value) (w:World) (R:VW):Prop:=
 cL 158 [a0] w λx8 w=>
 cL 86 [a0] w λx10 w=>
 cL 159 [x10] w λx11 w=>
 rN 23 3 x11 w λx12=>
 LOOPI [4,13] [(Value.slice none 0 0),(iV 0)] w λu4 w n4=>
 rC (u4 13) x12 w λx14=>
 BR x14
 (rX 23 x11 (u4 13) w λx15=>
 rL 3 x15 w λx16=>
 (λw=>NIL a0 <|
 rF 114 a0 0 w λx20=>
 rL 32 x20 w λx21=>
 rX 23 x8 x16 w λx25=>
 rL 3 x25 w λx26=>
 (λw_=>cL 114 [x21,x16,x26] w_ λx27 w=>
 Ext w_ w ∧
 oP (aP 130 (u4 4) x27) w λx28 w=>
 rI (u4 13) w λx29=>
 n4 [x28,x29] w) w) (World.drew1 w))
 (R (u4 4) w)
theorem F106_call {a0 w R} (h:F106 a0 w R):cL 106 [a0] w R:=co (g:=(kf [] [(4,1073733712,[4,13])] [(6,[0,1,2,3,4,5,6,7,8,9,10,11,12],1024)])) Tryz.func106 h
def F95 (a0:Value) (w:World) (R:VW):Prop:=
 oX 32 a0 w λx1 w=>
 oP (Instr.buildSlice 130 0 #[]) w λx7 w=>
 rL 32 x1 w λx8=>
 cL 150 [x8] w λx9 w=>
 rL 32 x1 w λx10=>
 cL 129 [x10] w λx11 w=>
 NIL x11 <|
 rF 159 x11 1 w λx13=>
 rL 101 x13 w λx14=>
 LOOPI [3,6] [x7,(iV 0)] w λu5 w n5=>
 rF 32 x1 4 w λx16=>
 rL 30 x16 w λx17=>
 rN 30 3 x17 w λx18=>
 rC (u5 6) x18 w λx19=>
 BR x19
 (rX 101 x14 (u5 6) w λx24=>
 rL 4 x24 w λx25=>
 BR x25
 ((λw=>rL 32 x1 w λx27=>
 rX 23 x9 (u5 6) w λx31=>
 rL 3 x31 w λx32=>
 (λw_=>cL 100 [x27,(u5 6),x32] w_ λx33 w=>
 Ext w_ w ∧
 oP (aP 130 (u5 3) x33) w λx34 w=>
 rI (u5 6) w λx21=>
 n5 [x34,x21] w) w) (World.drew1 w))
 (rI (u5 6) w λx21=>
 n5 [(u5 3),x21] w))
 (R (u5 3) w)
theorem F95_call {a0 w R} (h:F95 a0 w R):cL 95 [a0] w R:=co (g:=(kf [] [(5,34359705672,[3,6])] [(8,[0,1,2,3,4,5,6,7,8,9],128)])) Tryz.func95 h
open Rep (rep)
def zu2 (a b s:Nat):Prop:=∃ r t,a.testBit r=true∧b.testBit t=true∧(r≠t∨s.testBit r=false)
theorem zuc:∀ a,a<256→a &&& (a-1)≠0→∃ r,r<8∧∃ t,t<8∧r≠t∧a.testBit r=true∧a.testBit t=true:=by decide +kernel
theorem zvL:∀ a,a<256→∀ r,r<8→∀ t,t<8→(a &&& (a-1)=0∧a.testBit r=true∧a.testBit t=true→r=t):=by decide +kernel
theorem zsL {m l:Nat} (h:m<256) (hb:m.testBit l=true):l<8:=Decidable.byContradiction λhc=>by
 have:=Nat.testBit_lt_two_pow (Nat.lt_of_lt_of_le (show m<2^8 from h) (Nat.pow_le_pow_right (by omega) (by omega:8≤l)));rw [this] at hb;cases hb
theorem zlX {m:Nat} (h:m≠0):∃ i,m.testBit i=true:=Nat.exists_testBit_of_ne_zero h
theorem zsM {m:Nat} (h:m=0) (i:Nat):¬m.testBit i=true:=by rw [h];simp
theorem zud {w:World} {a b s:Nat} (ha:a<256) (hb:b<256) (hs:s<256) :
   CALL tp 109 [.int .i64 (a:Int),.int .i64 (b:Int),.int .i64 (s:Int)] w λv w'=>Ext w w'∧∃ x:Bool,v=.bool x∧(x=true↔zu2 a b s):=by
 refine F109_call ?_;unfold F109;refine zao ?_;refine br (λh=>?_) (λhna=>?_)
 · exact ⟨Ext.refl _,false,rfl,⟨λe=>(by cases e),λ⟨r,t,h1,_⟩=>absurd h1 (zsM (by omega) r)⟩⟩
 refine zao ?_;refine br (λh=>?_) (λhnb=>?_)
 · exact ⟨Ext.refl _,false,rfl,⟨λe=>(by cases e),λ⟨r,t,_,h1,_⟩=>absurd h1 (zsM (by omega) t)⟩⟩
 have hle:=Nat.and_le_left (n:=a) (m:=b);refine zdW (m:=a) (n:=b) (by omega) (by omega) ?_;refine zfB (m:=a &&& b) (n:=s) (by omega) (by omega) ?_;refine zaB ?_;refine br (λh=>?_) (λh=>?_)
 · obtain ⟨i,hi⟩:=zlX (m:=zir (a &&& b) s) (by omega)
   rw [zcw,Nat.testBit_and] at hi;simp only [Bool.and_eq_true,Bool.not_eq_true'] at hi;exact ⟨Ext.refl _,true,rfl,⟨λ_=>⟨i,i,hi.1.1,hi.1.2,.inr hi.2⟩,λ_=>rfl⟩⟩
 have hz:zir (a &&& b) s=0:=by have:=Decidable.not_not.1 h;omega
 refine zaB ?_;refine br (λhne=>?_) (λheq=>?_)
 · refine ⟨Ext.refl _,true,rfl,⟨λ_=>?_,λ_=>rfl⟩⟩
   refine Classical.byContradiction λhn=>?_;have hall:∀ r t,a.testBit r=true→b.testBit t=true→r=t:=λr t h1 h2=>Classical.byContradiction λe=>hn ⟨r,t,h1,h2,.inl e⟩;obtain ⟨r,hr⟩:=zlX (m:=a) (by omega);obtain ⟨t,ht⟩:=zlX (m:=b) (by omega);have hrt:=hall r t hr ht;subst hrt
   have:a=b:=Nat.eq_of_testBit_eq λi=>by
     cases e1:a.testBit i<;>cases e2:b.testBit i
     · rfl
     · have:=hall r i hr e2;subst this;rw [hr] at e1;cases e1
     · have:=hall i r e1 ht;subst this;rw [ht] at e2;cases e2
     rfl
   exact hne (by rw [this])
 have hab:a=b:=by have:=Decidable.not_not.1 heq;omega
 subst hab;refine zbd (by unfold I64;omega) ?_;rw [show (a:Int)-1=((a-1:Nat):Int) by omega];refine zdW (m:=a) (n:=a-1) (by omega) (by omega) ?_;refine zaB ?_;refine ⟨Ext.refl _,_,rfl,?_⟩;rw [decide_eq_true_eq];constructor
 · intro h
   obtain ⟨r,_,t,_,h1,h2,h3⟩:=zuc a ha (by omega);exact ⟨r,t,h2,h3,.inl h1⟩
 rintro ⟨r,t,h1,h2,h3⟩ hc;have:=zvL a ha r (zsL ha h1) t (zsL ha h2) ⟨by omega,h1,h2⟩;subst this;have hb:=zsM hz r;rw [zcw,Nat.testBit_and,h1] at hb;rcases h3 with h3 | h3
 · exact h3 rfl
 rw [h3] at hb;simp at hb
theorem zqI {w W0:World} {b:Nat} {c:DCode} (hW:WAt W0 b c) (e0:Ext W0 w) (hc:CodeR c) :
   CALL tp 107 [.pointer (some ⟨b,0,none⟩)] w λv w'=>Ext w w'∧∃ u,v=.tuple #[u,.int .i64 (zos c:Nat)]∧Own w.heap.size w' u (zaI ((List.range c.ins.length).map (rtN c))):=by
 refine F107_call ?_;unfold F107;have hil:=hc.f.ins
 have hin0:0<c.ins.length:=by
   have:=hc.1.procs8;have:=(zdY hc this.2).2.2;omega
 refine NIL.mk rfl ?_;refine zab zaZ ?_;refine zab zaD ?_;refine zaa zcu (zai hW.wl.code) e0 λv10 h10=>?_;refine zae u30 h10 ?_;have hn:c.ins.length=c.ins.length:=rfl;generalize hnn:c.ins.length=n at hn;rw [hnn] at hil hin0;refine zdn hin0 (by omega) λw1 hx1 hM1=>?_;refine zhW u23 ?_;generalize hg:w.heap.size=g at *;have hg1:=hM1.lt g (by simp)
 have hM0:Mine [g] w1 (.slice (some ⟨g,0,none⟩) n n) (zaI ((List.range n).map λi=>if i<0 then rtN c i else 0)):=by
   have:(List.replicate n 0)=((List.range n).map λi=>if i<0 then rtN c i else 0):=by
     apply List.ext_getElem
     · simp
     intro i h1 h2;simp
   rw [←this];exact hM1
 refine zam n (λk us w'=>us=[.int .i64 (k:Int)]∧k≤n∧ChgI g (g+1) w1 w'∧Mine [g] w' (.slice (some ⟨g,0,none⟩) n n) (zaI ((List.range n).map λi=>if i<k then rtN c i else 0))) 0 (z0 _) ⟨rfl,z0 _,ChgI.refl _,hM0⟩ ?_;rintro k mk u w2 hkm ⟨hu,hkl,hc2,hM2⟩;try replace hu:=zbi hu
 rw [hu];have hx2:Ext w w2:=hx1.chgI hc2 (by omega);refine zag ?_;refine br (λhlt=>?_) (λhge=>?_)
 case refine_2=>
   have hke:k=n:=by omega
   refine (zqG hW (e0.t hx2) hc).mono ?_;rintro _ w3 ⟨hx3,rfl⟩;refine ⟨hx2.t hx3,_,rfl,[g],?_,λb hb=>by simp at hb;omega⟩
   have:((List.range n).map λi=>if i<k then rtN c i else 0)=(List.range n).map (rtN c):=List.map_congr_left λi hi=>by
     have:=List.mem_range.1 hi;rw [if_pos (by omega)]
   rw [this] at hM2;exact hM2.ext hx3
 have hk:k<n:=by omega
 refine (zqH (i:=k) hW (e0.t hx2) hc (by omega)).mono ?_;rintro _ w3 ⟨hx3,rfl⟩;have hrt:=zsJ hc k;refine zbE (α:=Int) (i:=k) rfl u23 ty3 hk ?_;refine za9 (α:=Int) rfl ty3 (hM2.ext hx3) (by simp [zaI]) hk (zbx (v:=rtN c k) (by omega)) λw4 hc4 hM4=>?_;have hc4':ChgI g (g+1) w3 w4:=zen hc4;refine zas ?_;refine ⟨mk-1,by omega,k+1,by omega,rfl,by omega,(hc2.trans hx3.toI).trans hc4',?_⟩
 have:(zaI ((List.range n).map λi=>if i<k then rtN c i else 0)).set k (rtN c k:Nat)=zaI ((List.range n).map λi=>if i<k+1 then rtN c i else 0):=by
   unfold zaI;apply List.ext_getElem
   · simp
   intro i h1 h2;simp only [List.length_map,List.length_range] at h2;rw [List.getElem_set];by_cases e:k=i
   · subst e;simp
   rw [if_neg e];simp only [List.getElem_map,List.getElem_range];by_cases h:i<k
   · rw [if_pos h,if_pos (by omega)]
   rw [if_neg h,if_neg (by omega)]
 rw [←this];exact hM4
noncomputable def zqJ (c:DCode) (i:Nat):List DTouch:=zcs c (i:Int) ((zax (zhO c) i:Nat):Int)
noncomputable def zl2 (c:DCode):List DTouch:=(zaY c.ins.length (MetP c)).flatMap (zqJ c)
theorem zfl {c:DCode} (hc:CodeR c) (a h:Int):(zcs c a h).length≤12:=by
 have h1:=zjF c a h;have h2:=hc.1.1;simp only [Bool.and_eq_true,decide_eq_true_eq] at h2;omega
theorem zjY {c:DCode} (hc:CodeR c) (U:List Nat) (hU:U.length≤1500):(U.flatMap (zqJ c)).length≤18000:=by
 have h1:=zf7 (l:=U) (f:=zqJ c) (B:=12) λi _=>zfl hc _ _;omega
theorem zqK {w W0:World} {b:Nat} {c:DCode} (hW:WAt W0 b c) (e0:Ext W0 w) (hc:CodeR c) :
   CALL tp 106 [.pointer (some ⟨b,0,none⟩)] w λv w'=>Ext w w'∧Own w.heap.size w' v (zl2 c):=by
 refine F106_call ?_;unfold F106;have hil:=hc.f.ins;refine (zvH hW e0 hc).mono ?_;rintro v8 w1 ⟨hx1,ho1⟩;refine (zuW hW (e0.t hx1) hc).mono ?_;rintro v10 w2 ⟨hx2,ho2⟩;have hml:(zfq c).length=c.ins.length:=by unfold zfq;rw [zak]
 refine (zsK ho2.is (Ext.refl _) (by rw [hml];omega)).mono ?_;rintro v11 w3 ⟨hx3,ho3⟩;have hx13:=hx1.t (hx2.t hx3);rw [hml] at ho3;unfold zfq at ho3;rw [zfK] at ho3;have hMu:=ho1.is.ext (hx2.t hx3);have hUl:=za0 (n:=c.ins.length) (p:=MetP c);have hUm:∀ i∈zaY c.ins.length (MetP c),i<c.ins.length:=λi hi=>(zaJ.1 hi).1;unfold zl2;generalize zaY c.ins.length (MetP c)=U at *;refine zae u23 ho3.is ?_;rw [zaf];have hs13:=hx13.size;refine zam U.length (λk us w'=>∃ out,us=[out,.int .i64 (k:Int)]∧k≤U.length∧Ext w3 w'∧RowI w3.heap.size w'.heap.size 134 w' out ((U.take k).flatMap (zqJ c))) 0 (z0 _) ⟨_,rfl,z0 _,Ext.refl _,zcv _ _ _ _⟩ ?_;rintro k mk u w4 hkm ⟨out,hu,hkl,hx4,hr4⟩;obtain ⟨hu1,hu2⟩:=zbL hu;rw [hu1,hu2];refine zag ?_;refine br (λhlt=>?_) (λhge=>?_)
 case refine_2=>
   have hke:k=U.length:=by omega
   rw [hke,List.take_length] at hr4;exact ⟨hx13.t hx4,hr4.own.own.mono (by omega)⟩
 have hk:k<U.length:=by omega
 have hi:=hUm U[k] (List.getElem_mem _);have hfs:=zbA (f:=zqJ c) hk;have hlk:=zjY hc (U.take k) (by rw [List.length_take];omega);refine zac u23 ty3 (i:=k) ho3.is (by rw [zaf];exact hk) λb5 o5 hA5=>?_;rw [zaP] at hA5;generalize U[k]=i at *;refine zad ty3 hA5 hx4 λ_=>?_;have hxd:=zaj w4;have hx35:=hx4.t hxd;have hr5:=hr4.ext hxd;have hsd:=hxd.size;generalize World.drew1 w4=w5 at *;have e5:=e0.t (hx13.t hx35);refine NIL.mk rfl ?_;refine zab zaZ ?_;refine zaa zbq hW.wl.code e5 λv21 h21=>?_;refine zac u23 ty3 (i:=i) hMu (by rw [zaf,zhf];exact hi) λb6 o6 hA6=>?_;rw [zaL] at hA6;refine zad ty3 hA6 hx35 λ_=>?_;have hm64:=zcY (zlF c) i;refine (zib (a:=(i:Int)) (held:=(zax (zhO c) i:Nat)) h21 e5 hc (by omega) (by omega) (by unfold I64;omega)).mono ?_;rintro v27 w6 ⟨hx6,ho6⟩;refine ⟨hx6,?_⟩;have h12:(zqJ c i).length≤12:=zfl hc (i:Int) (zax (zhO c) i:Nat);have hs34:=hx4.size;have hs56:=hx6.size;refine zc6 (m:=zqJ c i) zhr zb2 zpX (hr5.ext hx6) (by omega) ho6.is (Ext.refl _) (by rw [zan];omega) (by omega) λv28 w7 hc7 hr7=>?_;refine zas ?_;refine ⟨mk-1,by omega,k+1,by omega,v28,rfl,by omega,(hx35.t hx6).chgI hc7 (lr _),?_⟩;rw [hfs];exact hr7
theorem zsN {w W0:World} {v0:Value} {c:DCode} (h0:Is W0 v0 c) (e0:Ext W0 w) (hc:CodeR c) :
   CALL tp 95 [v0] w λv w'=>Ext w w'∧Own w.heap.size w' v (zl2 c):=by
 refine F95_call ?_;unfold F95;have hil:=hc.f.ins;refine zbj h0 e0 λw1 hx1 hA=>?_;refine zaH (α:=DTouch) zhr zb2 λa7 w2 hx2 hr2=>?_;refine zaa zbq hA hx2 λv8 h8=>?_;refine (zqw h8 hx2 hc).mono ?_;rintro v9 w3 ⟨hx3,ho3⟩;have hx13:=hx2.t hx3;refine zaa zbq hA hx13 λv10 h10=>?_;refine (znd h10 hx13 hc).mono ?_;rintro _ w4 ⟨hx4,gw,rfl,hmet,hmay⟩;have hx14:=hx13.t hx4;have hMu:=ho3.is.ext hx4;refine NIL.mk rfl ?_;refine zab zgl ?_;refine zaa zcd hmet (Ext.refl _) λv14 hMe=>?_;have hml:(zfq c).length=c.ins.length:=by unfold zfq;rw [zak]
 have hs1:=hx1.size;have hs14:=hx14.size;refine zam c.ins.length (λk us w'=>∃ out,us=[out,.int .i64 (k:Int)]∧k≤c.ins.length∧Ext w4 w'∧RowI w4.heap.size w'.heap.size 134 w' out ((zaY k (MetP c)).flatMap (zqJ c))) 0 (z0 _) ⟨_,rfl,z0 _,Ext.refl _,zb8 _ _ _ _ _⟩ ?_;rintro i mk u w5 hkm ⟨out,hu,hkl,hx5,hr5⟩;obtain ⟨hu1,hu2⟩:=zbL hu;rw [hu1,hu2];have hx15:=hx14.t hx5;refine zab zaD ?_;refine zaa zcu (zai hA) hx15 λv17 h17=>?_;refine zae u30 h17 ?_;refine zag ?_;refine br (λhlt=>?_) (λhge=>?_)
 case refine_2=>
   have hke:i=c.ins.length:=by omega
   rw [hke] at hr5;exact ⟨hx1.t hx15,hr5.own.own.mono (by omega)⟩
 have hi:i<c.ins.length:=by omega
 have hmk:=zaQ (ms:=zfq c) (i:=i) (by rw [hml];exact hi)
 have hiff:(zfq c)[i]=true↔MetP c i:=by
   rw [←hmk];unfold zfq;rw [zaF];exact ⟨λh=>h.2,λh=>⟨hi,h⟩⟩
 refine zac zcy ty4 (i:=i) hMe (by rw [hml];exact hi) λb6 o6 hA6=>?_;refine zay ty4 hA6 hx5 ?_;refine zbz (λht=>?_) (λhf=>?_)
 case refine_2=>
   have hnm:¬MetP c i:=λh=>by rw [hiff.2 h] at hf;cases hf
   refine zas ?_;exact ⟨mk-1,by omega,i+1,by omega,out,rfl,by omega,hx5,by rw [zcM hnm];exact hr5⟩
 have hM:=hiff.1 ht
 have hfs:(zaY (i+1) (MetP c)).flatMap (zqJ c)=(zaY i (MetP c)).flatMap (zqJ c)++zqJ c i:=by
   rw [zct hM,List.flatMap_append];simp
 have hlk:=zjY hc (zaY i (MetP c)) (by have:=za0 (n:=i) (p:=MetP c);omega);have hxd:=zaj w5;have hx46:=hx5.t hxd;have hr6:=hr5.ext hxd;have hsd:=hxd.size;generalize World.drew1 w5=w6 at *;refine zaa zbq hA (hx14.t hx46) λv27 h27=>?_;refine zac u23 ty3 (i:=i) hMu (by rw [zaf,zhf];exact hi) λb7 o7 hA7=>?_;rw [zaL] at hA7;refine zad ty3 hA7 hx46 λ_=>?_;have hm64:=zcY (zlF c) i;refine (zlJ (a:=(i:Int)) (held:=(zax (zhO c) i:Nat)) h27 (hx14.t hx46) hc (by omega) (by omega) (by unfold I64;omega)).mono ?_;rintro v33 w7 ⟨hx7,ho7⟩;refine ⟨hx7,?_⟩;have h12:(zqJ c i).length≤12:=zfl hc (i:Int) (zax (zhO c) i:Nat);have hs45:=hx5.size;have hs67:=hx7.size;refine zc6 (m:=zqJ c i) zhr zb2 zpX (hr6.ext hx7) (by omega) ho7.is (Ext.refl _) (by rw [zan];omega) (by omega) λv34 w8 hc8 hr8=>?_;refine zas ?_;refine ⟨mk-1,by omega,i+1,by omega,v34,rfl,by omega,(hx46.t hx7).chgI hc8 (lr _),?_⟩;rw [hfs];exact hr8
def F96 (a0:Value) (w:World) (R:VW):Prop:=
 oX 32 a0 w λx1 w=>
 rL 32 x1 w λx13=>
 cL 151 [x13] w λx14 w=>
 oP (Instr.buildSlice 99 0 #[]) w λx15 w=>
 oP (Instr.buildSlice 101 0 #[]) w λx16 w=>
 LOOPI [4,5,6] [x15,x16,(iV 0)] w λu5 w n5=>
 rF 32 x1 2 w λx18=>
 rL 22 x18 w λx19=>
 rN 22 3 x19 w λx20=>
 rC (u5 6) x20 w λx21=>
 BR x21
 (rL 32 x1 w λx25=>
 cL 152 [x25,(u5 6)] w λx27 w=>
 oP (bS 99 x27) w λx28 w=>
 oP (aP 99 (u5 4) x28) w λx29 w=>
 rX 101 x14 (u5 6) w λx33=>
 rL 4 x33 w λx34=>
 BR x34
 (rL 32 x1 w λx36=>
 cL 153 [x36,(u5 6)] w λx38 w=>
 oP (bS 101 x38) w λx40 w=>
 oP (aP 101 (u5 5) x40) w λx41 w=>
 rI (u5 6) w λx23=>
 n5 [x29,x41,x23] w)
 (oP (bS 101 vF) w λx40 w=>
 oP (aP 101 (u5 5) x40) w λx41 w=>
 rI (u5 6) w λx23=>
 n5 [x29,x41,x23] w))
 (oP (Instr.buildSlice 99 0 #[]) w λx42 w=>
 LOOPI [7,8] [x42,(iV 0)] w λu11 w n11=>
 rF 32 x1 2 w λx44=>
 rL 22 x44 w λx45=>
 rN 22 3 x45 w λx46=>
 rC (u11 8) x46 w λx47=>
 BR x47
 (rF 32 x1 2 w λx50=>
 rL 22 x50 w λx51=>
 rN 22 3 x51 w λx52=>
 oP (Instr.makeSlice 101 x52 x52) w λx53 w=>
 LOOPI [10] [(iV 0)] w λu15 w n15=>
 rF 32 x1 2 w λx55=>
 rL 22 x55 w λx56=>
 rN 22 3 x56 w λx57=>
 rC (u15 10) x57 w λx58=>
 BR x58
 (LOOPI [11] [(iV 0)] w λu18 w n18=>
 rF 32 x1 2 w λx62=>
 rL 22 x62 w λx63=>
 rN 22 3 x63 w λx64=>
 rC (u18 11) x64 w λx65=>
 BR x65
 (LOOPI [12] [(iV 0)] w λu21 w n21=>
 rF 32 x1 2 w λx69=>
 rL 22 x69 w λx70=>
 rN 22 3 x70 w λx71=>
 rC (u21 12) x71 w λx72=>
 BR x72
 (rX 101 x14 (u18 11) w λx77=>
 rL 4 x77 w λx78=>
 BR x78
 (rX 101 x14 (u21 12) w λx82=>
 rL 4 x82 w λx83=>
 BR x83
 (rX 99 (u5 4) (u18 11) w λx88=>
 rL 101 x88 w λx89=>
 rX 101 x89 (u11 8) w λx91=>
 rL 4 x91 w λx92=>
 BR x92
 (rX 99 (u5 4) (u21 12) w λx97=>
 rL 101 x97 w λx98=>
 rX 101 x98 (u15 10) w λx100=>
 rL 4 x100 w λx101=>
 BR x101
 (rB .neq 3 T0 T0 (u18 11) (u21 12) w λx106=>
 GBR x106
 (rX 101 x53 (u15 10) w λx117=>
 oS 4 x117 vT w λw=>
 rI (u21 12) w λx74=>
 n21 [x74] w)
 (rX 101 (u5 5) (u18 11) w λx110=>
 rL 4 x110 w λx111=>
 rT x111 w λx112=>
 BR x112
 (rX 101 x53 (u15 10) w λx117=>
 oS 4 x117 vT w λw=>
 rI (u21 12) w λx74=>
 n21 [x74] w)
 (rI (u21 12) w λx74=>
 n21 [x74] w))
 (BR undef
 (rX 101 x53 (u15 10) w λx117=>
 oS 4 x117 vT w λw=>
 rI (u21 12) w λx74=>
 n21 [x74] w)
 (BR undef
 (rX 101 x53 (u15 10) w λx117=>
 oS 4 x117 vT w λw=>
 rI (u21 12) w λx74=>
 n21 [x74] w)
 (rI (u21 12) w λx74=>
 n21 [x74] w))))
 (rI (u21 12) w λx74=>
 n21 [x74] w))
 (rI (u21 12) w λx74=>
 n21 [x74] w))
 (rI (u21 12) w λx74=>
 n21 [x74] w))
 (rI (u21 12) w λx74=>
 n21 [x74] w))
 (rI (u18 11) w λx67=>
 n18 [x67] w))
 (rI (u15 10) w λx60=>
 n15 [x60] w))
 (oP (bS 99 x53) w λx120 w=>
 oP (aP 99 (u11 7) x120) w λx121 w=>
 rI (u11 8) w λx49=>
 n11 [x121,x49] w))
 (R (u11 7) w))
theorem F96_call {a0 w R} (h:F96 a0 w R):cL 96 [a0] w R:=co (g:=(kf [] [(5,4398046380144,[4,5,6]),(11,5316911983139663491615219445028364160,[7,8]),(15,332306998946228968207937366560611328,[10]),(18,332306998946228965920108755856398336,[11]),(21,332306998946228673078046585717264384,[12])] [])) Tryz.func96 h
open Rep (rep)
theorem zsO {b:Bool} {Q kt kf ks:Prop} (hq:b=true→Q) (key:Q→kt) (rest:(Q→kt)→b=false→kf):GBR (.bool b) kt kf ks:=
 zti (λh=>key (hq h)) (λh=>rest key h)
structure KQ2 (Q:List Nat→World→Prop):Prop where
 keep:∀ {F:List Nat} {w w':World},Q F w→(∀ b∈F,w'.heap[b]?=w.heap[b]?)→Q F w'
 lt:∀ {F:List Nat} {w:World},Q F w→∀ b∈F,b<w.heap.size
structure TT (Q1 Q2:List Nat→World→Prop) (wb w:World) (F1 F2:List Nat):Prop where
 ext:Ext wb w
 q1:Q1 F1 w
 q2:Q2 F2 w
 b1:∀ b∈F1,wb.heap.size≤b
 b2:∀ b∈F2,wb.heap.size≤b
 dis:∀ b∈F1,b∉F2
section
variable {Q1 Q1' Q2:List Nat→World→Prop} {wb w w1 w':World} {F1 F2 F':List Nat}
theorem TT.swap (h:TT Q1 Q2 wb w F1 F2):TT Q2 Q1 wb w F2 F1:=⟨h.ext,h.q2,h.q1,h.b2,h.b1,λb hb hF=>h.dis b hF hb⟩
theorem TT.step (k1:KQ2 Q1) (k2:KQ2 Q2) (h:TT Q1 Q2 wb w F1 F2) (hx:Ext w w'):TT Q1 Q2 wb w' F1 F2:=
 ⟨h.ext.trans hx,k1.keep h.q1 λb hb=>hx.heap (k1.lt h.q1 b hb),k2.keep h.q2 λb hb=>hx.heap (k2.lt h.q2 b hb),h.b1,h.b2,h.dis⟩
theorem TT.grow (k1:KQ2 Q1) (k2:KQ2 Q2) (h:TT Q1 Q2 wb w F1 F2) {GX:List Nat} (hx:Ext w w1) (hc:Chg F1 w1 w') (hr:Q1' F' w') (hs:∀ c∈F',c∈F1∨c∈GX∨w.heap.size≤c) (hG:∀ c∈GX,wb.heap.size≤c∧c∉F2):TT Q1' Q2 wb w' F' F2:=by
 have h1:=h.step k1 k2 hx;refine ⟨h1.ext.chgF hc h.b1,hr,k2.keep h1.q2 λb hb=>hc.block b (k2.lt h1.q2 b hb) λhF=>h.dis b hF hb,λb hb=>?_,h.b2,λb hb hF=>?_⟩
 · rcases hs b hb with h2 | h2 | h2
   · exact h.b1 b h2
   · exact (hG b h2).1
   have:=h.ext.size;omega
 rcases hs b hb with h2 | h2 | h2
 · exact h.dis b h2 hF
 · exact (hG b h2).2 hF
 have:=k2.lt h.q2 b hF;omega
end
def zue {α:Type} [Rep α] (e:TypeId) (v:Value) (L:List α) (F:List Nat) (w:World):Prop:=RowG F e w v L∧F.Nodup
theorem zih {α:Type} [Rep α] (e:TypeId) (v:Value) (L:List α):KQ2 (zue e v L):=⟨λh hk=>⟨h.1.keep hk,h.2⟩,λh=>h.1.lt⟩
def zhs (c:DCode) (a b r s:Nat):Prop:=RootP c r∧RootP c s∧FromP c r a∧FromP c s b∧(r≠s∨¬zd6 c r)
def zgC (c:DCode) (a b:Nat):Prop:=∃ r s,zhs c a b r s
noncomputable instance (c:DCode) (r:Nat):Decidable (RootP c r):=Classical.propDecidable _
noncomputable def zhn (c:DCode) (k:Nat):List (List Bool):=(List.range k).map λr=>zby c.procs.length (FromP c r)
noncomputable def zh1 (c:DCode) (k:Nat):List Bool:=(List.range k).map λr=>decide (RootP c r∧zd6 c r)
noncomputable def zqV (c:DCode) (k:Nat):List (List Bool):=(List.range k).map λa=>zby c.procs.length (zgC c a)
theorem zqL (c:DCode) (k:Nat):zhn c (k+1)=zhn c k++[zby c.procs.length (FromP c k)]:=by unfold zhn;rw [List.range_succ,List.map_append];rfl
theorem zqM (c:DCode) (k:Nat):zh1 c (k+1)=zh1 c k++[decide (RootP c k∧zd6 c k)]:=by unfold zh1;rw [List.range_succ,List.map_append];rfl
theorem zsP (c:DCode) (k:Nat):zqV c (k+1)=zqV c k++[zby c.procs.length (zgC c k)]:=by unfold zqV;rw [List.range_succ,List.map_append];rfl
theorem mine_bool {w:World} (b:Bool):Mine [] w (.bool b) b:=by
 exact ⟨⟨_,⟨rfl,rfl⟩,rfl⟩,List.nodup_nil,Wr.nil _⟩
theorem zot {w W0:World} {v0:Value} {c:DCode} (h0:Is W0 v0 c) (e0:Ext W0 w) (hc:CodeR c) :
   CALL tp 96 [v0] w λv w'=>Ext w w'∧Own w.heap.size w' v (zqV c c.procs.length):=by
 refine F96_call ?_;unfold F96;have h8:=hc.1.procs8;have he:=hc.2.1.1;refine zbj h0 e0 λw1 hx1 hA=>?_;refine zaa zbq hA (Ext.refl _) λv13 h13=>?_;refine (zfk h13 (Ext.refl _) hc).mono ?_;rintro v14 w2 ⟨hx2,ho2⟩;refine zaH (α:=List Bool) u99 zcd λa15 w3 hx3 _=>?_;refine zaH (α:=Bool) zcy ty4 λa16 wb hx4 _=>?_;have hx24:=hx3.t hx4;have hx14:=hx2.t hx24;have hRt:=ho2.is.ext hx24;have hs1:=hx1.size;have hs14:=hx14.size
 have hT0:TT (zue 101 (.slice (some a15) 0 0) (zhn c 0)) (zue 4 (.slice (some a16) 0 0) (zh1 c 0)) wb wb [] []:=
   ⟨Ext.refl _,⟨.inl ⟨_,rfl,rfl,rfl⟩,List.nodup_nil⟩,⟨.inl ⟨_,rfl,rfl,rfl⟩,List.nodup_nil⟩,by simp,by simp,by simp⟩
 refine zam c.procs.length (λk us w'=>∃ fv sv F1 F2,us=[fv,sv,.int .i64 (k:Int)]∧k≤c.procs.length∧TT (zue 101 fv (zhn c k)) (zue 4 sv (zh1 c k)) wb w' F1 F2) 0 (z0 _) ⟨_,_,_,_,rfl,z0 _,hT0⟩ ?_;rintro k mk u w5 hkm ⟨fv,sv,F1,F2,hu,hkl,hT5⟩;obtain ⟨hu1,hu2,hu3⟩:=zwi hu;rw [hu1,hu2,hu3];have hx15:=hx14.t hT5.ext;refine zab zbf ?_;refine zaa zb1 (zau hA) hx15 λv19 h19=>?_;refine zae u22 h19 ?_;refine zag ?_;have hfl:(zhn c k).length=k:=by simp [zhn]
 have hsl:(zh1 c k).length=k:=by simp [zh1]
 refine br (λhlt=>?_) (λhge=>?_)
 case refine_1=>
   have hk:k<c.procs.length:=by omega
   refine zaa zbq hA hx15 λv25 h25=>?_;refine (zfd (a:=k) h25 hx15 hc hk).mono ?_;rintro v27 w6 ⟨hx6,m,rfl,hm6,hM6⟩;have hT6:=hT5.step (zih _ _ _) (zih _ _ _) hx6;have hm2:m∉F2:=λhF=>by have:=hT5.q2.1.lt m hF;omega
   have hm1:m∉F1:=λhF=>by have:=hT5.q1.1.lt m hF;omega
   have hs5:=hT5.ext.size;have hMe:(zby c.procs.length λi=>i=k∨RP (zjs c) k i)=zby c.procs.length (FromP c k):=rfl;rw [hMe] at hM6;refine zgY (x:=zby c.procs.length (FromP c k)) (K:=λ_=>_) u99 zcd zwV zve (by decide) hT6.q1.1 hT6.q1.2 hM6 (λb hb hF=>by simp at hb;subst hb;exact hm1 hF) (by rw [zan];omega) (by omega) (λw7 v' w8 G' hx7 hc7 hr7 hn7 hs7=>?_) λ_ _ _ h=>h;rw [←zqL] at hr7
   have hT8:=hT6.grow (Q1':=zue 101 v' (zhn c (k+1))) (zih _ _ _) (zih _ _ _) hx7 hc7 ⟨hr7,hn7⟩ hs7 λb hb=>by
     simp only [List.mem_cons,List.not_mem_nil,or_false] at hb;subst hb;exact ⟨by omega,hm2⟩
   have hx58:Ext wb w8:=hT8.ext;have hmk:=zaF (n:=c.procs.length) (p:=RootP c) (i:=k);rw [zaQ (by rw [zak];exact hk)] at hmk
   have hfin:∀ {w9:World} (x:Bool),(x=decide (RootP c k∧zd6 c k))→Ext w8 w9→OP tp (Instr.buildSlice 101 1 #[(0,.bool x)]) w9 λx40 w=>OP tp (Builtin.append_ #[101,101] 101 [sv,x40].toArray) w λx41 w=>RD tp (bin .add 3 (.tmp 0) (.const undef) (.int .i64 (k:Int)) (.int .i64 1)) w λx23=>∃ m',m'<mk∧∃ k',k'+m'=c.procs.length∧∃ fv sv F1 F2,[v',x41,x23]=[fv,sv,.int .i64 (k':Int)]∧k'≤c.procs.length∧TT (zue 101 fv (zhn c k')) (zue 4 sv (zh1 c k')) wb w F1 F2:=λ{w9} x hx9e hx9=>by
     have hT9:=hT8.step (zih _ _ _) (zih _ _ _) hx9;refine zgY (x:=x) (K:=λ_=>_) zcy ty4 z4 zc4 (by decide) hT9.q2.1 hT9.q2.2 (mine_bool x) (by simp) (by rw [zan];omega) (by omega) (λw10 v'' w11 G'' hx10 hc10 hr10 hn10 hs10=>?_) λ_ _ _ h=>h;rw [hx9e,←zqM] at hr10;have hT11:=(hT9.swap.grow (Q1':=zue 4 v'' (zh1 c (k+1))) (zih _ _ _) (zih _ _ _) (GX:=[]) hx10 hc10 ⟨hr10,hn10⟩ hs10 (by simp)).swap;refine zas ?_;exact ⟨mk-1,by omega,k+1,by omega,v',v'',_,_,rfl,by omega,hT11⟩
   refine zac zcy ty4 (i:=k) hRt (by rw [zak];exact hk) λb9 o9 hA9=>?_;refine zay ty4 hA9 hx58 ?_;refine zbz (λhf=>?_) (λhf=>?_)
   · have hR:=(hmk.1 hf).2
     refine zaa zbq hA (hx14.t hx58) λv36 h36=>?_;refine (znm (r:=k) h36 (hx14.t hx58) hc).mono ?_;rintro _ w9 ⟨hx9,rfl⟩;exact hfin _ (by rw [decide_eq_decide];exact ⟨λh=>⟨hR,h⟩,λh=>h.2⟩) hx9
   have hR:¬RootP c k:=λh=>by rw [hmk.2 ⟨hk,h⟩] at hf;cases hf
   exact hfin false (by rw [decide_eq_false λh=>hR h.1]) (Ext.refl _)
 have hke:k=c.procs.length:=by omega
 rw [hke] at hT5;clear hfl hsl;have hFr:=hT5.q1.1.own.is;have hSi:=hT5.q2.1.own.is;have hs5:=hT5.ext.size;refine zaH (α:=List Bool) u99 zcd λa42 wT hx42 _=>?_;have hx1T:=hx15.t hx42;have hx5T:=hx42;have hsT:=hx42.size;have hRtT:Ext wb wT:=hT5.ext.trans hx42;refine zam c.procs.length (λk us w'=>∃ ov FO,us=[ov,.int .i64 (k:Int)]∧k≤c.procs.length∧Ext wT w'∧RowG FO 101 w' ov (zqV c k)∧FO.Nodup∧∀ b∈FO,wT.heap.size≤b) 0 (z0 _) ⟨_,[],rfl,z0 _,Ext.refl _,.inl ⟨_,rfl,rfl,rfl⟩,List.nodup_nil,by simp⟩ ?_;rintro a mk2 u2 w6 hkm2 ⟨ov,FO,hu6,hal,hx6,hr6,hn6,hb6⟩;obtain ⟨hu61,hu62⟩:=zbL hu6;rw [hu61,hu62];refine zab zbf ?_;refine zaa zb1 (zau hA) (hx1T.t hx6) λv45 h45=>?_;refine zae u22 h45 ?_;refine zag ?_;refine br (λhlt2=>?_) (λhge2=>?_)
 case refine_2=>
   have hke2:a=c.procs.length:=by omega
   rw [hke2] at hr6;exact ⟨hx1.t (hx1T.t hx6),FO,⟨hr6.own,hn6,hr6.wr⟩,λb hb=>by have:=hb6 b hb;have:=hx1T.size;omega⟩
 have ha:a<c.procs.length:=by omega
 refine zab zbf ?_;refine zaa zb1 (zau hA) (hx1T.t hx6) λv51 h51=>?_;refine zae u22 h51 ?_;refine zd2 h8.2 (by omega) λw7 hx7 hM7=>?_;have hs7:=hx7.size;generalize hg:w6.heap.size=g at *;have hgl:g<w7.heap.size:=hM7.lt g (by simp);have hs6T:=hx6.size;have hgO:g∉FO:=λhF=>by have:=hr6.lt g hF;omega
 rw [zcT c.procs.length (p:=λq=>q<0∧zgC c a q) (λi h=>by omega)] at hM7;generalize hn:c.procs.length=n at *;refine zam n (λb us w'=>us=[.int .i64 (b:Int)]∧b≤n∧ChgI g (g+1) w7 w'∧Mine [g] w' (.slice (some ⟨g,0,none⟩) n n) (zby n λq=>q<b∧zgC c a q)) 0 (z0 _) ⟨rfl,z0 _,ChgI.refl _,hM7⟩ ?_;rintro b mk3 u3 w8 hkm3 ⟨hu8,hbl,hc8,hM8⟩;try replace hu8:=zbi hu8
 rw [hu8];have hTx:∀ {w:World},ChgI g (g+1) w7 w→Ext wT w:=λh=>(hx6.t hx7).chgI h (by omega);refine zab zbf ?_;refine zaa zb1 (zau hA) (hx1T.t (hTx hc8)) λv56 h56=>?_;refine zae u22 h56 ?_;rw [hn];refine zag ?_;refine br (λhlt3=>?_) (λhge3=>?_)
 case refine_2=>
   have hbe:b=n:=by omega
   have:(zby n λq=>q<b∧zgC c a q)=zby n (zgC c a):=zaN λq hq=>⟨λh=>h.2,λh=>⟨by omega,h⟩⟩;rw [this] at hM8
   have hr8:RowG FO 101 w8 ov (zqV c a):=hr6.keep λq hq=>by
     have h1:=hr6.lt q hq;rw [hc8.block q (by omega) (by have:q≠g:=λe=>hgO (e▸hq);omega),hx7.heap (by omega)]
   have htl:(zqV c a).length=a:=by simp [zqV]
   refine zgY (x:=zby n (zgC c a)) (K:=λ_=>_) u99 zcd zwV zve (by decide) hr8 hn6 hM8 (λq hq hF=>by simp at hq;subst hq;exact hgO hF) (by rw [zan];omega) (by omega) (λw9 v' w10 G' hx9 hc9 hr9 hn9 hs9=>?_) λ_ _ _ h=>h;have hs8:=hc8.size;refine zas ?_;refine ⟨mk2-1,by omega,a+1,by omega,v',G',rfl,by omega,((hTx hc8).trans hx9).chgF hc9 hb6,?_,hn9,λq hq=>?_⟩
   · rw [zsP,hn];exact hr9
   rcases hs9 q hq with h | h | h
   · exact hb6 q h
   · simp at h;omega
   have:=(hTx hc8).size;omega
 have hb:b<n:=by omega
 have hM8':Mine [g] w8 (.slice (some ⟨g,0,none⟩) n n) (zby n λq=>(q<b∧zgC c a q)∨(q=b∧∃ r,r<0∧∃ s,zhs c a b r s)):=by
   have:(zby n λq=>(q<b∧zgC c a q)∨(q=b∧∃ r,r<0∧∃ s,zhs c a b r s))=zby n λq=>q<b∧zgC c a q:=zaN λq _=>⟨λh=>h.resolve_right λ⟨_,r,h,_⟩=>by omega,.inl⟩;rw [this];exact hM8
 refine zam n (λr us w'=>us=[.int .i64 (r:Int)]∧r≤n∧ChgI g (g+1) w7 w'∧Mine [g] w' (.slice (some ⟨g,0,none⟩) n n) (zby n λq=>(q<b∧zgC c a q)∨(q=b∧∃ r',r'<r∧∃ s,zhs c a b r' s))) 0 (z0 _) ⟨rfl,z0 _,hc8,hM8'⟩ ?_;rintro r mk4 u4 w9 hkm4 ⟨hu9,hrl,hc9,hM9⟩;try replace hu9:=zbi hu9
 rw [hu9];refine zab zbf ?_;refine zaa zb1 (zau hA) (hx1T.t (hTx hc9)) λv63 h63=>?_;refine zae u22 h63 ?_;rw [hn];refine zag ?_;have hlts:∀ {r s},zhs c a b r s→r<n∧s<n:=λh=>⟨hn▸h.1.lt hc,hn▸h.2.1.lt hc⟩;refine br (λhlt4=>?_) (λhge4=>?_)
 case refine_2=>
   have:(zby n λq=>(q<b∧zgC c a q)∨(q=b∧∃ r',r'<r∧∃ s,zhs c a b r' s))=zby n λq=>q<b+1∧zgC c a q:=zaN λq _=>by
     constructor
     · rintro (h | ⟨rfl,r',_,s,h⟩)
       · exact ⟨by omega,h.2⟩
       exact ⟨by omega,r',s,h⟩
     rintro ⟨h1,h2⟩;by_cases e:q=b
     · subst e
       obtain ⟨r',s,h⟩:=h2;exact .inr ⟨rfl,r',by have:=(hlts h).1;omega,s,h⟩
     exact .inl ⟨by omega,h2⟩
   rw [this] at hM9;refine zas ?_;exact ⟨mk3-1,by omega,b+1,by omega,rfl,by omega,hc9,hM9⟩
 have hr:r<n:=by omega
 have hM9':Mine [g] w9 (.slice (some ⟨g,0,none⟩) n n) (zby n λq=>(q<b∧zgC c a q)∨(q=b∧((∃ r',r'<r∧∃ s,zhs c a b r' s)∨∃ s,s<0∧zhs c a b r s))):=by
   have:(zby n λq=>(q<b∧zgC c a q)∨(q=b∧((∃ r',r'<r∧∃ s,zhs c a b r' s)∨∃ s,s<0∧zhs c a b r s)))=zby n λq=>(q<b∧zgC c a q)∨(q=b∧∃ r',r'<r∧∃ s,zhs c a b r' s):=zaN λq _=>or_congr Iff.rfl (and_congr Iff.rfl ⟨λh=>h.resolve_right λ⟨s,h,_⟩=>by omega,.inl⟩);rw [this];exact hM9
 refine zam n (λs us w'=>us=[.int .i64 (s:Int)]∧s≤n∧ChgI g (g+1) w7 w'∧Mine [g] w' (.slice (some ⟨g,0,none⟩) n n) (zby n λq=>(q<b∧zgC c a q)∨(q=b∧((∃ r',r'<r∧∃ s,zhs c a b r' s)∨∃ s',s'<s∧zhs c a b r s')))) 0 (z0 _) ⟨rfl,z0 _,hc9,hM9'⟩ ?_;rintro s mk5 u5 w10 hkm5 ⟨hu10,hsl,hc10,hM10⟩;try replace hu10:=zbi hu10
 rw [hu10];have hx10:=hTx hc10;refine zab zbf ?_;refine zaa zb1 (zau hA) (hx1T.t hx10) λv70 h70=>?_;refine zae u22 h70 ?_;rw [hn];refine zag ?_;refine br (λhlt5=>?_) (λhge5=>?_)
 case refine_2=>
   have:(zby n λq=>(q<b∧zgC c a q)∨(q=b∧((∃ r',r'<r∧∃ s,zhs c a b r' s)∨∃ s',s'<s∧zhs c a b r s')))=zby n λq=>(q<b∧zgC c a q)∨(q=b∧∃ r',r'<r+1∧∃ s,zhs c a b r' s):=zaN λq _=>or_congr Iff.rfl (and_congr Iff.rfl (by
     constructor
     · rintro (⟨r',h,s',h2⟩ | ⟨s',_,h2⟩)
       · exact ⟨r',by omega,s',h2⟩
       exact ⟨r,by omega,s',h2⟩
     rintro ⟨r',h,s',h2⟩;by_cases e:r'=r
     · subst e;exact .inr ⟨s',by have:=(hlts h2).2;omega,h2⟩
     exact .inl ⟨r',by omega,s',h2⟩))
   rw [this] at hM10;refine zas ?_;exact ⟨mk4-1,by omega,r+1,by omega,rfl,by omega,hc10,hM10⟩
 have hs:s<n:=by omega
 have hskip:¬zhs c a b r s→RD tp (bin .add 3 (.tmp 0) (.const undef) (.int .i64 (s:Int)) (.int .i64 1)) w10 λx74=>∃ m',m'<mk5∧∃ k',k'+m'=n∧[x74]=[.int .i64 (k':Int)]∧k'≤n∧ChgI g (g+1) w7 w10∧Mine [g] w10 (.slice (some ⟨g,0,none⟩) n n) (zby n λq=>(q<b∧zgC c a q)∨(q=b∧((∃ r',r'<r∧∃ s,zhs c a b r' s)∨∃ s',s'<k'∧zhs c a b r s'))):=λhno=>by
   refine zas ?_;refine ⟨mk5-1,by omega,s+1,by omega,rfl,by omega,hc10,?_⟩
   have:(zby n λq=>(q<b∧zgC c a q)∨(q=b∧((∃ r',r'<r∧∃ s,zhs c a b r' s)∨∃ s',s'<s+1∧zhs c a b r s')))=zby n λq=>(q<b∧zgC c a q)∨(q=b∧((∃ r',r'<r∧∃ s,zhs c a b r' s)∨∃ s',s'<s∧zhs c a b r s')):=zaN λq _=>or_congr Iff.rfl (and_congr Iff.rfl (or_congr Iff.rfl (by
     constructor
     · rintro ⟨s',h,h2⟩
       by_cases e:s'=s
       · subst e;exact absurd h2 hno
       exact ⟨s',by omega,h2⟩
     rintro ⟨s',h,h2⟩;exact ⟨s',by omega,h2⟩)))
   rw [this];exact hM10
 have hmr:=zaF (n:=n) (p:=RootP c) (i:=r);have hms:=zaF (n:=n) (p:=RootP c) (i:=s);rw [zaQ (by rw [zak];exact hr)] at hmr;rw [zaQ (by rw [zak];exact hs)] at hms;have eRt:Ext wb w10:=hRtT.trans hx10;refine zac zcy ty4 (i:=r) hRt (by rw [zak];exact hr) λb1 o1 hA1=>?_;refine zay ty4 hA1 eRt ?_;refine zbz (λhf=>?_) (λhf=>hskip λh=>by rw [hmr.2 ⟨hr,h.1⟩] at hf;cases hf);have hR:=(hmr.1 hf).2;refine zac zcy ty4 (i:=s) hRt (by rw [zak];exact hs) λb2 o2 hA2=>?_;refine zay ty4 hA2 eRt ?_;refine zbz (λhf2=>?_) (λhf2=>hskip λh=>by rw [hms.2 ⟨hs,h.2.1⟩] at hf2;cases hf2);have hSr:=(hms.1 hf2).2;have eF:Ext w5 w10:=hx5T.t hx10;have hfl2:(zhn c n).length=n:=by simp [zhn]
 have hfget:∀ (i:Nat) (hi:i<(zhn c n).length),(zhn c n)[i]=zby n (FromP c i):=λi hi=>by simp [zhn,hn]
 have hma:=zaF (n:=n) (p:=FromP c r) (i:=a);have hmb:=zaF (n:=n) (p:=FromP c s) (i:=b);rw [zaQ (by rw [zak];exact ha)] at hma;rw [zaQ (by rw [zak];exact hb)] at hmb;refine zac u99 zcd (i:=r) hFr (by rw [hfl2];exact hr) λb3 o3 hA3=>?_;rw [hfget] at hA3;refine zaa zcd hA3 eF λv89 h89=>?_;refine zac zcy ty4 (i:=a) h89 (by rw [zak];exact ha) λb4 o4 hA4=>?_;refine zay ty4 hA4 eF ?_;refine zbz (λhf3=>?_) (λhf3=>hskip λh=>by rw [hma.2 ⟨ha,h.2.2.1⟩] at hf3;cases hf3);have hFa:=(hma.1 hf3).2;refine zac u99 zcd (i:=s) hFr (by rw [hfl2];exact hs) λb5 o5 hA5=>?_;rw [hfget] at hA5;refine zaa zcd hA5 eF λv98 h98=>?_;refine zac zcy ty4 (i:=b) h98 (by rw [zak];exact hb) λb6 o6 hA6=>?_;refine zay ty4 hA6 eF ?_;refine zbz (λhf4=>?_) (λhf4=>hskip λh=>by rw [hmb.2 ⟨hb,h.2.2.2.1⟩] at hf4;cases hf4);have hFb:=(hmb.1 hf4).2;refine zaB ?_;refine zsO (Q:=zhs c a b r s) (λh=>⟨hR,hSr,hFa,hFb,.inl (by have:=of_decide_eq_true h;omega)⟩) (λhB=>?_) (λkey h=>?_)
 · refine zbE (α:=Bool) (i:=b) rfl zcy ty4 hb ?_
   refine za9 (α:=Bool) rfl ty4 hM10 zak hb zbu λw11 hc11 hM11=>?_;refine zas ?_;refine ⟨mk5-1,by omega,s+1,by omega,rfl,by omega,hc10.trans (zen hc11),?_⟩
   have hset:=zpe (n:=n) (q:=b) (p:=λq=>(q<b∧zgC c a q)∨(q=b∧((∃ r',r'<r∧∃ s,zhs c a b r' s)∨∃ s',s'<s∧zhs c a b r s'))) (p':=λq=>(q<b∧zgC c a q)∨(q=b∧((∃ r',r'<r∧∃ s,zhs c a b r' s)∨∃ s',s'<s+1∧zhs c a b r s'))) hb λq=>by
     constructor
     · rintro (h | ⟨e,_⟩)
       · exact .inl (.inl h)
       exact .inr e
     rintro ((h | ⟨e,h | ⟨s',h1,h2⟩⟩) | e)
     · exact .inl h
     · exact .inr ⟨e,.inl h⟩
     · exact .inr ⟨e,.inr ⟨s',by omega,h2⟩⟩
     exact .inr ⟨e,.inr ⟨s,by omega,hB⟩⟩
   rw [←hset];exact hM11
 have hrs:r=s:=by have:=of_decide_eq_false h;omega
 have hsl2:(zh1 c n).length=n:=by simp [zh1]
 refine zac zcy ty4 (i:=r) hSi (by rw [hsl2];exact hr) λb7 o7 hA7=>?_;rw [show (zh1 c n)[r]'(by rw [hsl2];exact hr)=decide (RootP c r∧zd6 c r) by simp only [zh1,List.getElem_map,List.getElem_range]] at hA7;refine zay ty4 hA7 eF ?_;refine zaX ?_;refine zbz (λhf5=>key ⟨hR,hSr,hFa,hFb,.inr λhS=>?_⟩) (λhf5=>hskip λhB=>?_)
 · rw [decide_eq_true (⟨hR,hS⟩:RootP c r∧zd6 c r)] at hf5;cases hf5
 rcases hB.2.2.2.2 with h2 | h2
 · exact h2 hrs
 rw [decide_eq_false (λh3:RootP c r∧zd6 c r=>h2 h3.2)] at hf5;cases hf5
def F64 (a0 a1:Value) (w:World) (R:VW):Prop:=
 oX 32 a0 w λx2 w=>
 oX 53 a1 w λx3 w=>
 rF 53 x3 2 w λx15=>
 rL 39 x15 w λx16=>
 rN 39 3 x16 w λx17=>
 oP (Instr.makeSlice 147 x17 x17) w λx18 w=>
 rF 53 x3 2 w λx19=>
 rL 39 x19 w λx20=>
 rN 39 3 x20 w λx21=>
 LOOPI [6,22] [(Value.slice none 0 0),(iV 0)] w λu4 w n4=>
 rC (u4 22) x21 w λx23=>
 BR x23
 (JOIN [] (λJ9=>
 rL 53 x3 w λx25=>
 cL 112 [x25,(u4 22)] w λx27 w=>
 rL 32 x2 w λx28=>
 cL 113 [x28,x27] w λx30 w=>
 BR x30
 (rL 32 x2 w λx33=>
 cL 114 [x33,x27,(iV 0)] w λx35 w=>
 rX 147 x18 (u4 22) w λx36=>
 oS 130 x36 x35 w λw=>
 J9 [] w)
 (J9 [] w)) (λu9 w=>
 rX 147 x18 (u4 22) w λx39=>
 rL 130 x39 w λx40=>
 rN 130 3 x40 w λx41=>
 LOOPI [6,42] [(u4 6),(iV 0)] w λu10 w n10=>
 rC (u10 42) x41 w λx43=>
 BR x43
 (rX 130 x40 (u10 42) w λx44=>
 rL 134 x44 w λx45=>
 oP (aL 134) w λx10 w=>
 oS 134 x10 x45 w λw=>
 rD (Instr.sliceAt 147 x18 none (some (u4 22)) none) w λx48=>
 rN 147 3 x48 w λx49=>
 LOOPI [6,50] [(u10 6),(iV 0)] w λu13 w n13=>
 rC (u13 50) x49 w λx51=>
 BR x51
 (rX 147 x48 (u13 50) w λx52=>
 rL 130 x52 w λx53=>
 rN 130 3 x53 w λx55=>
 LOOPI [6,56] [(u13 6),(iV 0)] w λu16 w n16=>
 rC (u16 56) x55 w λx57=>
 BR x57
 (rX 130 x53 (u16 56) w λx58=>
 rL 134 x58 w λx59=>
 oP (aL 134) w λx14 w=>
 oS 134 x14 x59 w λw=>
 rL 134 x10 w λx60=>
 rL 134 x14 w λx61=>
 cL 108 [x60,x61] w λx62 w=>
 BR x62
 (rL 134 x10 w λx64=>
 rL 134 x14 w λx65=>
 cL 110 [x64,x65] w λx66 w=>
 oP (bS 43 x66) w λx67 w=>
 oP (aP 43 (u16 6) x67) w λx68 w=>
 rI (u16 56) w λx69=>
 n16 [x68,x69] w)
 (rI (u16 56) w λx69=>
 n16 [(u16 6),x69] w))
 (rI (u13 50) w λx70=>
 n13 [(u16 6),x70] w))
 (rI (u10 42) w λx71=>
 n10 [(u13 6),x71] w))
 (rI (u4 22) w λx72=>
 n4 [(u10 6),x72] w)))
 (cL 111 [(u4 6)] w λx74 w=>
 R x74 w)
theorem F64_call {a0 a1 w R} (h:F64 a0 a1 w R):cL 64 [a0,a1] w R:=co (g:=(kf [(9,137405399296,[])] [(4,9444732965739286255040,[6,22]),(10,4722366478471598724160,[6,42]),(13,2361182115534915784768,[6,50]),(16,1180519563123373391936,[6,56])] [])) Tryz.func64 h
instance flatRawM:Flat Raw:=⟨λh=>h.1⟩
theorem zuf {α:Type} [Rep α] {w:World} {lo hi:Nat} {v:Value} {x:α} (h:OwnI lo hi w v x):OwnI lo (min hi w.heap.size) w v x:=by
 obtain ⟨F,hm,hl⟩:=h;exact ⟨F,hm,λb hb=>by have:=hl b hb;have:=hm.lt b hb;omega⟩
structure MI (w0 w:World) (lo hi g n:Nat) (out:Value) (L:List DRace) (vs:List Raw) (T:Nat→List DTouch):Prop where
 ext:Ext w0 w
 row:RowI lo hi 79 w out L
 h1:w0.heap.size≤lo
 h2:lo≤hi
 h3:hi≤w.heap.size
 seen:Mine [g] w (.slice (some ⟨g,0,none⟩) n n) vs
 g0:w0.heap.size≤g
 g1:g<lo∨hi≤g
 len:vs.length=n
 el:∀ k (h:k<vs.length),∃ a b,OwnI a b w vs[k].v (T k)∧(b≤lo∨hi≤a)∧(b≤g∨g<a)∧b≤w.heap.size
section
variable {w0 w w':World} {lo hi g n:Nat} {out:Value} {L:List DRace} {vs:List Raw} {T:Nat→List DTouch}
theorem MI.glt (h:MI w0 w lo hi g n out L vs T):g<w.heap.size:=h.seen.lt g (by simp)
theorem MI.step (h:MI w0 w lo hi g n out L vs T) (hx:Ext w w'):MI w0 w' lo hi g n out L vs T:=
 ⟨h.ext.trans hx,h.row.ext hx,h.h1,h.h2,Nat.le_trans h.h3 hx.size,h.seen.ext hx,h.g0,h.g1,h.len,λk hk=>by
   obtain ⟨a,b,ho,h1,h2,h3⟩:=h.el k hk;exact ⟨a,b,ho.ext hx,h1,h2,Nat.le_trans h3 hx.size⟩⟩
theorem MI.push {out':Value} {x:DRace} {lo' hi':Nat} (h:MI w0 w lo hi g n out L vs T) (hc:ChgI lo hi w w') (hr:RowI lo' hi' 79 w' out' (L++[x])) (hd:lo'=lo∧hi'=hi∨lo'=w.heap.size∧hi'=w'.heap.size) :
   MI w0 w' lo' hi' g n out' (L++[x]) vs T:=by
 have hg:=h.glt;have hs:=hc.size;have h1:=h.h1;have h2:=h.h2;have h3:=h.h3;have h4:=h.ext.size;have h5:=h.g1;refine ⟨h.ext.chgI hc h1,hr,by omega,by omega,by omega,h.seen.keep λb hb=>?_,h.g0,by omega,h.len,λk hk=>?_⟩
 · simp only [List.mem_cons,List.not_mem_nil,or_false] at hb
   subst hb;exact hc.block b hg h5
 obtain ⟨a,b,ho,e1,e2,e3⟩:=h.el k hk;exact ⟨a,b,ho.chg hc e1,by omega,e2,by omega⟩
theorem MI.row_at (h:MI w0 w lo hi g n out L vs T) {t:Nat} (ht:t≤n) (hn:0<n):Is w (.slice (some ⟨g,0,none⟩) t n) (vs.take t):=by
 have:=znL (a:=some ⟨g,0,none⟩) (cap:=n) (l:=vs) (by rw [h.len];exact h.seen.is) t (by rw [h.len];exact ht);exact this
theorem MI.store {t:Nat} {u:Value} {T':Nat→List DTouch} {a b:Nat} (h:MI w0 w lo hi g n out L vs T) (ht:t<n) (hc:Chg [g] w w') (hm:Mine [g] w' (.slice (some ⟨g,0,none⟩) n n) (vs.set t ⟨u⟩))
   (hu:OwnI a b w u (T' t)) (ha:hi≤a) (hg:g<a) (hT:∀ k,k≠t→T' k=T k):MI w0 w' lo hi g n out L (vs.set t ⟨u⟩) T':=by
 have hc':ChgI g (g+1) w w':=hc.toI λb hb=>by simp only [List.mem_cons,List.not_mem_nil,or_false] at hb;omega
 have h1:=h.h1;have h2:=h.h2;have h3:=h.h3;have h4:=h.ext.size;have h5:=h.g1;have hs:=hc'.size;have hg0:=h.g0;refine ⟨h.ext.chgI hc' hg0,h.row.chg hc' (by omega),h1,h2,by omega,hm,hg0,h5,by simp [h.len],λk hk=>?_⟩;by_cases hkt:k=t
 · subst hkt
   refine ⟨a,min b w.heap.size,?_,by omega,.inr hg,by omega⟩;have:=(zuf hu).chg hc' (by omega);simpa using this
 have hk':k<vs.length:=by simpa using hk
 obtain ⟨a',b',ho,e1,e2,e3⟩:=h.el k hk';refine ⟨a',b',?_,e1,e2,by omega⟩;have:=ho.chg hc' (by omega);rw [hT k hkt];rw [List.getElem_set_ne (by omega)];exact this
end
abbrev rawN:RepZ Raw:=⟨⟨.slice none 0 0⟩,[.slice none 0 0],λ_=>⟨rfl,rfl,rfl⟩⟩
theorem zsQ:zcz tp 130=some [.slice none 0 0]:=by kernel_rfl
def upT (T:Nat→List DTouch) (k u:Nat):List DTouch:=if u<k then T u else []
theorem zou {w W0 W1:World} {v0 v1:Value} {c:DCode} {s:DState} (h0:Is W0 v0 c) (e0:Ext W0 w) (h1:Is W1 v1 s) (e1:Ext W1 w) (hc:CodeR c) (hs:zbc c s) :
   CALL tp 64 [v0,v1] w λr w'=>Ext w w'∧Own w.heap.size w' r (zem c s):=by
 have hn6:=hs.2.2.1;have hTl:=zse s hc;have hTa:=@zwB c s;have hatl:=zrS hs;have hTd:∀ t,tA c s t=if 0≤zd7 s t then zcs c (zd7 s t) 0 else []:=λt=>rfl;have hfin:zem c s=zcO (gT (tA c s) s.stacks.length):=rfl;rw [hfin];generalize tA c s=T at *;refine F64_call ?_;unfold F64;refine zbj h0 e0 λw1 hx1 hA=>?_;refine zbj h1 (e1.trans hx1) λw2 hx2 hB=>?_;refine zab zcl ?_;refine zaa zhy (zaE hB) (Ext.refl _) λv16 h16=>?_;refine zae u39 h16 ?_;generalize hn:s.stacks.length=n at *;refine @ze8 tp w2 Raw _ rawN _ _ _ (.slice none 0 0) _ n zv5 zmg rfl rfl zsQ (by omega) (by omega) λw3 hx3 hr3=>?_;have hs3:=hx3.size;refine zab zcl ?_;refine zaa zhy (zaE hB) hx3 λv20 h20=>?_;refine zae u39 h20 ?_;rw [hn]
 have hM0:MI w2 w3 w2.heap.size w2.heap.size w2.heap.size n (.slice none 0 0) [] (List.replicate n ⟨.slice none 0 0⟩) (upT T 0):=by
   obtain ⟨F,hM,hF⟩:=hr3.own;obtain ⟨b,o,cap,xs,hv,hF2,_⟩:=zda hM (by intro e;have:=congrArg List.length e;simp at this;omega);simp only [Value.slice.injEq,Option.some.injEq,Addr.mk.injEq,List.cons.injEq,and_true] at hv;obtain ⟨⟨hb,ho⟩,_⟩:=hv;rw [←hb] at hF2;rw [hF2] at hM
   exact ⟨hx3,zcv _ _ _ _,lr _,Nat.le_refl _,hs3,hM,lr _,.inr (lr _),by simp,λk hk=>⟨0,0,by
     have:upT T 0 k=[]:=by unfold upT;rw [if_neg (by omega)]
     rw [this,List.getElem_replicate];exact zgW none,by omega,by omega,by omega⟩⟩
 generalize hg:w2.heap.size=g at hM0 ⊢;refine zam n (λk us w'=>∃ (out:Value) (lo hi:Nat) (vs:List Raw),us=[out,.int .i64 (k:Int)]∧k≤n∧MI w2 w' lo hi g n out (gT T k) vs (upT T k)) 0 (z0 _) ⟨_,_,_,_,rfl,z0 _,hM0⟩ ?_;rintro t mk u w4 hkm ⟨out,lo,hi,vs,hu,htn,hMI⟩;obtain ⟨hu1,hu2⟩:=zbL hu;clear hu;rw [hu1,hu2];refine zag ?_;refine br (λhlt=>?_) (λhge=>?_)
 case refine_2=>
   have:t=n:=by omega
   subst this;have hgl:(gT T t).length≤5184:=zsd hTl (by omega);refine (zqo hMI.row.is (Ext.refl _) (by omega)).mono ?_;rintro r w' ⟨hx5,ho⟩;have:=hMI.ext;have hs4:=this.size;have hs2:=hx1.size;have hs22:=hx2.size;exact ⟨(hx1.t hx2).trans (this.trans hx5),ho.mono (by omega)⟩
 have htn':t<n:=by omega
 refine JOIN.mk (λus w'=>∃ (vs:List Raw),MI w2 w' lo hi g n out (gT T t) vs (upT T (t+1))) ?_ ?_
 · have hx24:=hMI.ext
   refine zaa zik hB hx24 λv25 h25=>?_;refine (ziZ h25 hx24).mono ?_;rintro _ w5 ⟨hx5,rfl⟩;have hx25:=hx24.t hx5;have hx15:=hx2.t hx25;refine zaa zbq hA hx15 λv28 h28=>?_;refine (zeR h28 hx15).mono ?_;rintro _ w6 ⟨hx6,rfl⟩;have hx16:=hx15.t hx6;have hM6:=(hMI.step hx5).step hx6;refine zbz (λhpl=>?_) (λhpl=>?_)
   · have hpl':=of_decide_eq_true hpl
     have hTt:T t=zcs c (zd7 s t) 0:=by rw [hTd,if_pos hpl'.1]
     refine zaa zbq hA hx16 λv33 h33=>?_;refine (zib h33 hx16 hc hpl'.1 (by omega) (by unfold I64;omega)).mono ?_;rintro v35 w7 ⟨hx7,ho7⟩;rw [←hTt] at ho7;have hM7:=hM6.step hx7;have hg6:=hM6.glt;have hi6:=hM6.h3;refine zdh zv5 zmg htn' ?_;obtain ⟨b,a,cap,G,hv,hL⟩:=zvd hM7.seen (k:=t) (by rw [hM7.len];exact htn');simp only [Value.slice.injEq,Option.some.injEq,Addr.mk.injEq,and_true] at hv;obtain ⟨⟨rfl,rfl⟩,_⟩:=hv;have e1:0+t*Rep.size Raw=t*1:=by rw [Nat.zero_add];rfl
     rw [e1] at hL
     have hone:v35.oneCell'=true:=by
       obtain ⟨aa,cc,FF,xx,hh,_⟩:=zdt ho7.is;rw [hh];rfl
     refine zcR (y':=(⟨v35⟩:Raw)) zmg hL ⟨⟨[v35],⟨rfl,rfl,hone⟩,rfl⟩,List.nodup_nil,Wr.nil _⟩ λw8 F' hc8 hm8 hF8=>?_
     have hF9:F'=[g]:=by
       obtain ⟨b,o,cap,xs,hv,hF2,_⟩:=zda hm8 (by intro e;have h:=congrArg List.length e;rw [List.length_set,hM7.len] at h;simp only [List.length_nil] at h;omega);subst hF2;have:=hF8 b (by simp);simpa using this
     subst hF9;refine ⟨_,hM7.store htn' hc8 hm8 (T':=upT T (t+1)) (a:=w6.heap.size) (b:=w7.heap.size) ?_ hi6 hg6 ?_⟩
     · have:upT T (t+1) t=T t:=by unfold upT;rw [if_pos (by omega)]
       rw [this];exact ho7.toI
     intro k hk;unfold upT;by_cases h:k<t
     · rw [if_pos h,if_pos (by omega)]
     rw [if_neg h,if_neg (by omega)]
   have hpl':=of_decide_eq_false hpl
   have hTt:T t=[]:=by
     rw [hTd,if_neg λh=>hpl' ⟨h,(hatl t).2⟩]
   have:upT T (t+1)=upT T t:=by
     funext k;unfold upT;by_cases h:k=t
     · subst h;rw [if_pos (by omega),if_neg (by omega),hTt]
     by_cases h2:k<t
     · rw [if_pos h2,if_pos (by omega)]
     rw [if_neg h2,if_neg (by omega)]
   exact ⟨vs,by rw [this];exact hM6⟩
 rintro u9 w9 ⟨vs,hM9⟩;have hupt:∀ u,u≤t→upT T (t+1) u=T u:=λu hu=>by unfold upT;rw [if_pos (by omega)]
 generalize hT':upT T (t+1)=T' at *;refine zac zv5 zmg (α:=Raw) (i:=t) hM9.seen.is (by rw [hM9.len];exact htn') λb1 o1 hA1=>?_;refine zaa zmg hA1 (Ext.refl _) λv40 h40=>?_
 have hv40:v40=(vs[t]'(by rw [hM9.len];exact htn')).v:=by
   obtain ⟨F,cs,⟨_,rfl,_⟩,hv⟩:=h40;exact hv
 have hel:∀ {w:World} {lo hi:Nat} {out:Value} {L:List DRace} (hM:MI w2 w lo hi g n out L vs T') (u:Nat) (hu:u≤t),Is w (vs[u]'(by rw [hM9.len];omega)).v (T u):=λhM u hu=>by
   obtain ⟨_,_,ho,_⟩:=hM.el u (by rw [hM.len];omega);have:=ho.is
   rwa [hupt u hu] at this
 refine zae (l:=T t) zhr (by rw [hv40];exact hel hM9 t (lr _)) ?_;have hsn:(T t).length≤12:=hTl t;refine zam (T t).length (λk us w'=>∃ (out:Value) (lo hi:Nat),us=[out,.int .i64 (k:Int)]∧k≤(T t).length∧MI w2 w' lo hi g n out (gT T t++gA (zic T t) ((T t).take k)) vs T') 0 (z0 _) ⟨out,lo,hi,rfl,z0 _,by simpa [gA] using hM9⟩ ?_;rintro i mk10 u10 w10 hkm10 ⟨out10,lo10,hi10,hu10,hi10l,hM10⟩;obtain ⟨hu101,hu102⟩:=zbL hu10;rw [hu101,hu102];refine zag ?_;refine br (λhlt10=>?_) (λhge10=>?_)
 case refine_2=>
   have hil:i=(T t).length:=by omega
   subst hil;refine zas ?_;refine ⟨mk-1,by omega,t+1,by omega,out10,lo10,hi10,vs,rfl,by omega,?_⟩;rw [hT'];have e:gT T (t+1)=gT T t++gA (zic T t) (T t):=zdD t;rw [e];rw [List.take_length] at hM10;exact hM10
 have hi':i<(T t).length:=by omega
 refine zac zhr zb2 (i:=i) (by rw [hv40];exact hel hM10 t (lr _)) hi' λb2 o2 hA2=>?_;refine zaa zb2 hA2 (Ext.refl _) λv45 h45=>?_;refine zeD (α:=DTouch) zpY λw11 hx11 hv11=>?_;have hlt11:=hv11.lt;refine ze5 (lo:=0) (hi:=0) zb2 hv11 (zdH (h45.ext hx11)) (.inr (z0 _)) λw12 hc12 hv12=>?_;have hx12:Ext w10 w12:=hx11.chgI hc12 (lr _);have hM12:=hM10.step hx12;generalize hag:(T t)[i]=a at *;have hx10h:lo10≤w10.heap.size∧hi10≤w10.heap.size:=⟨by have:=hM10.h2;have:=hM10.h3;omega,hM10.h3⟩;generalize w10.heap.size=g10 at *;refine zr7 (α:=Raw) zv5 zmg (b:=g) (o:=0) (k:=t) (n:=n) (cap:=n) (by omega) (lr _) ?_;refine zjx zv5 ?_;refine zam t (λk us w'=>∃ (out:Value) (lo hi:Nat),us=[out,.int .i64 (k:Int)]∧k≤t∧MI w2 w' lo hi g n out (gT T t++gA (zic T t) ((T t).take i)++((zic T t).take k).flatMap (gB a)) vs T'∧VarI 0 0 w' g10 a∧(g10<lo∨hi≤g10)) 0 (z0 _) ⟨out10,lo10,hi10,rfl,z0 _,by simpa using hM12,hv12,.inr hx10h.2⟩ ?_;rintro u mk13 u13 w13 hkm13 ⟨out13,lo13,hi13,hu13,hul,hM13,hv13,hg13⟩;obtain ⟨hu131,hu132⟩:=zbL hu13;rw [hu131,hu132];have hupl:(zic T t).length=t:=by simp [zic]
 refine zag ?_;refine br (λhlt13=>?_) (λhge13=>?_)
 case refine_2=>
   have hul:u=t:=by omega
   refine zas ?_;refine ⟨mk10-1,by omega,i+1,by omega,out13,lo13,hi13,rfl,by omega,?_⟩
   have e:gA (zic T t) ((T t).take (i+1))=gA (zic T t) ((T t).take i)++(zic T t).flatMap (gB a):=by
     unfold gA;rw [zbA hi',hag];rfl
   rw [e,←List.append_assoc];rw [show (zic T t).take u=zic T t from List.take_of_length_le (by omega)] at hM13;exact hM13
 have hu':u<t:=by omega
 have hgetu:(zic T t)[u]'(by rw [hupl];exact hu')=T u:=by simp [zic]
 refine zac zv5 zmg (α:=Raw) (i:=u) (hM13.row_at (by omega) (by omega)) (by rw [List.length_take,hM13.len];omega) λb3 o3 hA3=>?_;refine zaa zmg hA3 (Ext.refl _) λv53 h53=>?_
 have hv53:v53=(vs[u]'(by rw [hM9.len];omega)).v:=by
   obtain ⟨F,cs,⟨_,rfl,_⟩,hv⟩:=h53;simpa [mkv,Rep.agg] using hv
 refine zae (l:=T u) zhr (by rw [hv53];exact hel hM13 u (by omega)) ?_;refine zam (T u).length (λk us w'=>∃ (out:Value) (lo hi:Nat),us=[out,.int .i64 (k:Int)]∧k≤(T u).length∧MI w2 w' lo hi g n out (gT T t++gA (zic T t) ((T t).take i)++((zic T t).take u).flatMap (gB a)++((T u).take k).flatMap (clR a)) vs T'∧VarI 0 0 w' g10 a∧(g10<lo∨hi≤g10)) 0 (z0 _) ⟨out13,lo13,hi13,rfl,z0 _,by simpa using hM13,hv13,hg13⟩ ?_;rintro j mk16 u16 w16 hkm16 ⟨out16,lo16,hi16,hu16,hjl,hM16,hv16,hg16⟩;obtain ⟨hu161,hu162⟩:=zbL hu16;rw [hu161,hu162];have hsu:(T u).length≤12:=hTl u;refine zag ?_;refine br (λhlt16=>?_) (λhge16=>?_)
 case refine_2=>
   have hjl:j=(T u).length:=by omega
   subst hjl;refine zas ?_;refine ⟨mk13-1,by omega,u+1,by omega,out16,lo16,hi16,rfl,by omega,?_,hv16,hg16⟩;rw [zbA (by rw [hupl];exact hu'),hgetu,←List.append_assoc];rw [List.take_length] at hM16;exact hM16
 have hj':j<(T u).length:=by omega
 refine zac zhr zb2 (i:=j) (by rw [hv53];exact hel hM16 u (by omega)) hj' λb4 o4 hA4=>?_;refine zaa zb2 hA4 (Ext.refl _) λv59 h59=>?_;refine zeD (α:=DTouch) zpY λw17 hx17 hv17=>?_;have hlt17:=hv17.lt;refine ze5 (lo:=0) (hi:=0) zb2 hv17 (zdH (h59.ext hx17)) (.inr (z0 _)) λw18 hc18 hv18=>?_;have hx18:Ext w16 w18:=hx17.chgI hc18 (lr _);have hM18:=hM16.step hx18;have hvb:VarI 0 0 w18 g10 a:=hv16.ext hx18;generalize hbg:(T u)[j]=b at *;refine ze4 zb2 hvb (Ext.refl _) λv60 h60=>?_;refine ze4 zb2 hv18 (Ext.refl _) λv61 h61=>?_;refine (zpr h60.is (Ext.refl _) h61.is (Ext.refl _)).mono ?_;rintro _ w19 ⟨hx19,rfl⟩;have hM19:=hM18.step hx19;refine zbz (λhcl=>?_) (λhcl=>?_)
 · have hcl':=of_decide_eq_true hcl
   refine ze4 zb2 hvb hx19 λv64 h64=>?_;refine ze4 zb2 hv18 hx19 λv65 h65=>?_;refine (zmZ h64.is hx19 h65.is hx19).mono ?_;rintro v66 w20 ⟨hx20,ho20⟩;have hM20:=hM19.step hx20
   have hlen:(gT T t++gA (zic T t) ((T t).take i)++((zic T t).take u).flatMap (gB a)++((T u).take j).flatMap (clR a)).length≤10000:=by
     have q1:=zsd hTl (n:=t) (by omega)
     have hup:∀ L∈zic T t,L.length≤12:=λL hL=>by
       simp only [zic,List.mem_map] at hL;obtain ⟨u,_,rfl⟩:=hL;exact hTl u
     have q2:=zuO (Ls:=zic T t) (xs:=(T t).take i) (by omega) hup (by rw [List.length_take];omega);have q3:=zuN (Ls:=(zic T t).take u) a (by rw [List.length_take];omega) λL hL=>hup L (List.mem_of_mem_take hL);have q4:=zpv a (bs:=(T u).take j) (by rw [List.length_take];omega);unfold gL at q3;unfold gB at q4;simp only [List.length_append];unfold gB at *;omega
   refine zcS u43 zbX z79 zre (by decide) hM20.row (ho20 0 0) (by rw [zan];omega) (by omega) λv68 w21 lo21 hi21 hc21 hr21 hd21=>?_;have hM21:=hM20.push hc21 hr21 hd21;refine zas ?_;have hgs:g10<w20.heap.size:=by have:=hvb.lt;have:=hx19.size;have:=hx20.size;omega
   refine ⟨mk16-1,by omega,j+1,by omega,v68,lo21,hi21,rfl,by omega,?_,(((hvb.ext hx19).ext hx20).chg hc21 (.inl (z0 _)) hg16),by omega⟩;rw [zbA hj',←List.append_assoc];have:clR a (T u)[j]=[zdr a b]:=by rw [hbg];unfold clR;rw [if_pos hcl']
   rw [this];exact hM21
 have hcl':=of_decide_eq_false hcl;refine zas ?_;refine ⟨mk16-1,by omega,j+1,by omega,out16,lo16,hi16,rfl,by omega,?_,hvb.ext hx19,hg16⟩;rw [zbA hj'];have:clR a (T u)[j]=[]:=by rw [hbg];unfold clR;rw [if_neg hcl']
 rw [this,List.append_nil];exact hM19
def F57 (a0 a1:Value) (w:World) (R:VW):Prop:=
 oX 32 a0 w λx2 w=>
 oX 53 a1 w λx3 w=>
 oP (Instr.buildSlice 43 0 #[]) w λx15 w=>
 LOOPI [5,6] [x15,(iV 0)] w λu3 w n3=>
 rF 53 x3 2 w λx17=>
 rL 39 x17 w λx18=>
 rN 39 3 x18 w λx19=>
 rC (u3 6) x19 w λx20=>
 BR x20
 (LOOPI [5,7] [(u3 5),(iV 0)] w λu6 w n6=>
 rC (u6 7) (u3 6) w λx25=>
 BR x25
 (rL 53 x3 w λx28=>
 cL 99 [x28,(u3 6)] w λx30 w=>
 rL 53 x3 w λx31=>
 cL 99 [x31,(u6 7)] w λx33 w=>
 rB .lss 3 T0 U0 x30 (iV 0) w λx35=>
 BR x35
 (rI (u6 7) w λx27=>
 n6 [(u6 5),x27] w)
 (rB .lss 3 T0 U0 x33 (iV 0) w λx38=>
 BR x38
 (rI (u6 7) w λx27=>
 n6 [(u6 5),x27] w)
 (rL 32 x2 w λx40=>
 cL 100 [x40,x30,(iV 0)] w λx42 w=>
 rL 32 x2 w λx43=>
 cL 100 [x43,x33,(iV 0)] w λx45 w=>
 LOOPI [5,12] [(u6 5),(iV 0)] w λu14 w n14=>
 rN 130 3 x42 w λx48=>
 rC (u14 12) x48 w λx49=>
 BR x49
 (LOOPI [5,13] [(u14 5),(iV 0)] w λu17 w n17=>
 rN 130 3 x45 w λx54=>
 rC (u17 13) x54 w λx55=>
 BR x55
 (JOIN [] (λJ20=>
 (λw=>rX 130 x42 (u14 12) w λx60=>
 rF 134 x60 1 w λx61=>
 rL 3 x61 w λx62=>
 rX 130 x45 (u17 13) w λx65=>
 rF 134 x65 1 w λx66=>
 rL 3 x66 w λx67=>
 rB .neq 3 T0 T0 x62 x67 w λx68=>
 BR x68
 (rI (u17 13) w λx57=>
 n17 [(u17 5),x57] w)
 (rX 130 x42 (u14 12) w λx72=>
 rF 134 x72 2 w λx73=>
 rL 4 x73 w λx74=>
 rT x74 w λx75=>
 GBR x75
 (rX 130 x45 (u17 13) w λx79=>
 rF 134 x79 2 w λx80=>
 rL 4 x80 w λx81=>
 rT x81 w λx82=>
 BR x82
 (rI (u17 13) w λx57=>
 n17 [(u17 5),x57] w)
 (J20 [] w))
 (J20 [] w)
 (BR undef
 (BR undef
 (rI (u17 13) w λx57=>
 n17 [(u17 5),x57] w)
 (J20 [] w))
 (J20 [] w)))) (World.drew1 w)) (λu20 w=>
 rX 130 x42 (u14 12) w λx87=>
 rF 134 x87 1 w λx88=>
 rL 3 x88 w λx89=>
 rD (Instr.build 79 #[(0,x89),(1,x30),(2,x33)]) w λx92=>
 oP (aL 79) w λx14 w=>
 oS 79 x14 x92 w λw=>
 rB .gtr 3 T0 T0 x30 x33 w λx95=>
 BR x95
 (rF 79 x14 1 w λx97=>
 oS 3 x97 x33 w λw=>
 rF 79 x14 2 w λx99=>
 oS 3 x99 x30 w λw=>
 rL 79 x14 w λx101=>
 cL 98 [(u17 5),x101] w λx102 w=>
 rI (u17 13) w λx57=>
 n17 [x102,x57] w)
 (rL 79 x14 w λx101=>
 cL 98 [(u17 5),x101] w λx102 w=>
 rI (u17 13) w λx57=>
 n17 [x102,x57] w)))
 (rI (u14 12) w λx51=>
 n14 [(u17 5),x51] w))
 (rI (u6 7) w λx27=>
 n6 [(u14 5),x27] w))))
 (rI (u3 6) w λx22=>
 n3 [(u6 5),x22] w))
 (R (u3 5) w)
theorem F57_call {a0 a1 w R} (h:F57 a0 a1 w R):cL 57 [a0,a1] w R:=co (g:=(kf [(20,38685625939437757438885888,[])] [(3,10141204801825835211973625610208,[5,6]),(6,10141204801825835211973617287072,[5,7]),(14,10141204801825835141604881494048,[5,12]),(17,10141204801825830708373998297120,[5,13])] [(19,[0,1,2,3,4,5,6,7,8,9,10,11,12,13,14,15,16,17,18,19,20,21,22,23,24,25,26],0)])) Tryz.func57 h
theorem zvM {a b:DTouch} (ha:a.held=0) (hb:b.held=0):zdb a b↔a.global=b.global∧(a.write=true∨b.write=true):=by
 unfold zdb;rw [ha,hb];constructor
 · exact λh=>⟨h.1,h.2.1⟩
 exact λh=>⟨h.1,h.2,by omega,by omega,by decide⟩
theorem zqN {w W0 W1:World} {v0 v1:Value} {c:DCode} {s:DState} (h0:Is W0 v0 c) (e0:Ext W0 w) (h1:Is W1 v1 s) (e1:Ext W1 w) (hc:CodeR c) (hs:zbc c s) :
   CALL tp 57 [v0,v1] w λr w'=>Ext w w'∧Own w.heap.size w' r (zem c s):=by
 have hn6:=hs.2.2.1;have hTl:=zse s hc;have hTa:=@zwB c s;have hatl:=zrS hs;have hins:=hc.2.1.2.1;have hTd:∀ t,tA c s t=if 0≤zd7 s t then zcs c (zd7 s t) 0 else []:=λt=>rfl;rw [←zvE];generalize tA c s=T at *;refine F57_call ?_;unfold F57;refine zbj h0 e0 λw1 hx1 hAc=>?_;refine zbj h1 (e1.trans hx1) λw2 hx2 hB=>?_;refine zaH (α:=DRace) u43 zbX λa0 w3 hx3 hr3=>?_;have hs1:=hx1.size;have hs2:=hx2.size;have hs3:=hx3.size;generalize hn:s.stacks.length=n at *;refine zam n (λk us w'=>∃ (out:Value),us=[out,.int .i64 (k:Int)]∧k≤n∧Ext w2 w'∧Own w2.heap.size w' out (zcO (hT T k))) 0 (z0 _) ⟨_,rfl,z0 _,hx3,(hr3.own.mono (lo':=w2.heap.size) hs3 (lr _)).own⟩ ?_;rintro t mk u3 w4 hkm ⟨out,hu,htn,hx4,ho4⟩;obtain ⟨hu1,hu2⟩:=zbL hu;rw [hu1,hu2];refine zab zcl ?_;refine zaa zhy (zaE hB) hx4 λv18 h18=>?_;refine zae u39 h18 ?_;rw [hn];refine zag ?_;refine br (λhlt=>?_) (λhge=>?_)
 case refine_2=>
   have htn2:t=n:=by omega
   rw [htn2] at ho4;exact ⟨(hx1.t hx2).trans hx4,ho4.mono (by omega)⟩
 have htn':t<n:=by omega
 have hLt:(hT T t).length≤5184:=zwA hTl (by omega);refine zam t (λk us w'=>∃ (out:Value),us=[out,.int .i64 (k:Int)]∧k≤t∧Ext w2 w'∧Own w2.heap.size w' out (zcO (hT T t++hU T (T t) k))) 0 (z0 _) ⟨out,rfl,z0 _,hx4,by simpa [hU] using ho4⟩ ?_;rintro u mk6 u6 w6 hkm6 ⟨out6,hu6,hut,hx6,ho6⟩;obtain ⟨hu61,hu62⟩:=zbL hu6;rw [hu61,hu62];refine zag ?_;refine br (λhlt6=>?_) (λhge6=>?_)
 case refine_2=>
   have hut2:u=t:=by omega
   rw [hut2] at ho6;refine zas ?_;refine ⟨mk-1,by omega,t+1,by omega,out6,rfl,by omega,hx6,?_⟩;have e:hT T (t+1)=hT T t++hU T (T t) t:=zdD t;rw [e];exact ho6
 have hut':u<t:=by omega
 have hLu:(hU T (T t) u).length≤864:=zuQ hTl (hTl t) (by omega);have hUs:hU T (T t) (u+1)=hU T (T t) u++hA (T u) (T t):=zdD u;refine zaa zik hB hx6 λv28 h28=>?_;refine (zgm h28 hx6).mono ?_;rintro _ w7 ⟨hx7,rfl⟩;have hx27:=hx6.t hx7;refine zaa zik hB hx27 λv31 h31=>?_;refine (zgm h31 hx27).mono ?_;rintro _ w8 ⟨hx8,rfl⟩;have hx28:=hx27.t hx8;have ho8:=(ho6.ext hx7).ext hx8;refine zag ?_;refine br (λha0=>?_) (λha0=>?_)
 · refine zas ?_
   refine ⟨mk6-1,by omega,u+1,by omega,out6,rfl,by omega,hx28,?_⟩;have e:T t=[]:=by rw [hTd,if_neg (by omega)]
   have:hA (T u) (T t)=[]:=by rw [e];rfl
   rw [hUs,this,List.append_nil];exact ho8
 refine zag ?_;refine br (λhb0=>?_) (λhb0=>?_)
 · refine zas ?_
   refine ⟨mk6-1,by omega,u+1,by omega,out6,rfl,by omega,hx28,?_⟩;have e:T u=[]:=by rw [hTd,if_neg (by omega)]
   have:hA (T u) (T t)=[]:=by
     rw [e];unfold hA gB;simp
   rw [hUs,this,List.append_nil];exact ho8
 have hTt:T t=zcs c (zd7 s t) 0:=by rw [hTd,if_pos (by omega)]
 have hTu:T u=zcs c (zd7 s u) 0:=by rw [hTd,if_pos (by omega)]
 have ha9:=hatl t;have hb9:=hatl u;have hx18:=hx2.t hx28;refine zaa zbq hAc hx18 λv40 h40=>?_;refine (zlJ h40 hx18 hc (by omega) (by omega) (by unfold I64;omega)).mono ?_;rintro v42 w9 ⟨hx9,ho9⟩;have hx19:=hx18.t hx9;refine zaa zbq hAc hx19 λv43 h43=>?_;refine (zlJ h43 hx19 hc (by omega) (by omega) (by unfold I64;omega)).mono ?_;rintro v45 w10 ⟨hx10,ho10⟩;rw [←hTt] at ho9;rw [←hTu] at ho10;have hI42:Is w10 v42 (T t):=ho9.is.ext hx10;have hI45:Is w10 v45 (T u):=ho10.is;have hx210:=(hx28.t hx9).trans hx10;have hsn:(T t).length≤12:=hTl t;have hsu:(T u).length≤12:=hTl u;refine zam (T t).length (λk us w'=>∃ (out:Value),us=[out,.int .i64 (k:Int)]∧k≤(T t).length∧Ext w10 w'∧Own w2.heap.size w' out (zcO (hT T t++hU T (T t) u++hA (T u) ((T t).take k)))) 0 (z0 _) ⟨out6,rfl,z0 _,Ext.refl _,by simpa [hA] using (ho8.ext hx9).ext hx10⟩ ?_;rintro i mk14 u14 w14 hkm14 ⟨out14,hu14,hil,hx14,ho14⟩;obtain ⟨hu141,hu142⟩:=zbL hu14;rw [hu141,hu142];refine zae zhr hI42 ?_;refine zag ?_;refine br (λhlt14=>?_) (λhge14=>?_)
 case refine_2=>
   have hil2:i=(T t).length:=by omega
   rw [hil2,List.take_length] at ho14;refine zas ?_;refine ⟨mk6-1,by omega,u+1,by omega,out14,rfl,by omega,hx210.t hx14,?_⟩;rw [hUs,←List.append_assoc];exact ho14
 have hi':i<(T t).length:=by omega
 have hLi:(hA (T u) ((T t).take i)).length≤144:=zuP hsu (by rw [List.length_take];omega);generalize hag:(T t)[i]=a at *;have hata:=hTa (t:=t) (x:=a) (by rw [←hag];exact List.getElem_mem _);refine zam (T u).length (λk us w'=>∃ (out:Value),us=[out,.int .i64 (k:Int)]∧k≤(T u).length∧Ext w10 w'∧Own w2.heap.size w' out (zcO (hT T t++hU T (T t) u++hA (T u) ((T t).take i)++((T u).take k).flatMap (clR a)))) 0 (z0 _) ⟨out14,rfl,z0 _,hx14,by simpa using ho14⟩ ?_;rintro j mk17 u17 w17 hkm17 ⟨out17,hu17,hjl,hx17,ho17⟩;obtain ⟨hu171,hu172⟩:=zbL hu17;rw [hu171,hu172];refine zae zhr hI45 ?_;refine zag ?_;refine br (λhlt17=>?_) (λhge17=>?_)
 case refine_2=>
   have hjl2:j=(T u).length:=by omega
   rw [hjl2,List.take_length] at ho17;refine zas ?_;refine ⟨mk14-1,by omega,i+1,by omega,out17,rfl,by omega,hx17,?_⟩
   have e:hA (T u) ((T t).take (i+1))=hA (T u) ((T t).take i)++(T u).flatMap (clR a):=by
     unfold hA;rw [zbA hi',hag];rfl
   rw [e,←List.append_assoc];exact ho17
 have hj':j<(T u).length:=by omega
 have hLj:(((T u).take j).flatMap (clR a)).length≤12:=zpv a (bs:=(T u).take j) (by rw [List.length_take];omega);generalize hbg:(T u)[j]=b at *;have hatb:=hTa (t:=u) (x:=b) (by rw [←hbg];exact List.getElem_mem _);have hcl0:=zvM hata.2 hatb.2
 have hno:∀ w',Ext w17 w'→¬zdb a b→∃ (out:Value),[out17,Value.int .i64 ((j+1:Nat):Int)]=[out,.int .i64 ((j+1:Nat):Int)]∧j+1≤(T u).length∧Ext w10 w'∧Own w2.heap.size w' out (zcO (hT T t++hU T (T t) u++hA (T u) ((T t).take i)++((T u).take (j+1)).flatMap (clR a))):=λw' hx hn=>by
   refine ⟨out17,rfl,by omega,hx17.t hx,?_⟩;have:clR a b=[]:=by unfold clR;rw [if_neg hn]
   rw [zbA hj',hbg,this,List.append_nil];exact ho17.ext hx
 refine JOIN.mk (λus w'=>Ext w17 w'∧zdb a b) ?_ ?_
 · have hx18:=zaj w17
   generalize World.drew1 w17=w18 at *;have hx1018:=hx17.t hx18;refine zac zhr zb2 (i:=i) hI42 hi' λb2 o2 hA2=>?_;refine zab ze6 ?_;rw [hag] at hA2;refine zad ty3 (zci hA2) hx1018 λhI62=>?_;refine zac zhr zb2 (i:=j) hI45 hj' λb3 o3 hA3=>?_;refine zab ze6 ?_;rw [hbg] at hA3;refine zad ty3 (zci hA3) hx1018 λhI67=>?_;refine zaB ?_;refine br (λhne=>?_) (λheq=>?_)
   · refine zas ?_
     exact ⟨mk17-1,by omega,j+1,by omega,hno w18 hx18 λh=>hne (hcl0.1 h).1⟩
   have heq':=Decidable.not_not.1 heq;refine zac zhr zb2 (i:=i) hI42 hi' λb4 o4 hA4=>?_;refine zab zhz ?_;rw [hag] at hA4;refine zay ty4 (zdB hA4) hx1018 ?_;refine zaX ?_;refine zti (λhwa=>?_) (λhwa=>?_)
   · refine zac zhr zb2 (i:=j) hI45 hj' λb5 o5 hA5=>?_
     refine zab zhz ?_;rw [hbg] at hA5;refine zay ty4 (zdB hA5) hx1018 ?_;refine zaX ?_;refine zbz (λhwb=>?_) (λhwb=>?_)
     · refine zas ?_
       refine ⟨mk17-1,by omega,j+1,by omega,hno w18 hx18 λh=>?_⟩;rcases (hcl0.1 h).2 with h | h<;>simp [h] at hwa hwb
     exact ⟨hx18,hcl0.2 ⟨heq',.inr (by simpa using hwb)⟩⟩
   exact ⟨hx18,hcl0.2 ⟨heq',.inl (by simpa using hwa)⟩⟩
 rintro u20 w20 ⟨hx20,hcl⟩;have hx1020:=hx17.t hx20;have ho20:=ho17.ext hx20;refine zac zhr zb2 (i:=i) hI42 hi' λb2 o2 hA2=>?_;refine zab ze6 ?_;rw [hag] at hA2;refine zad ty3 (zci hA2) hx1020 λhI89=>?_;refine zch (cells:=#[.int .i64 a.global,.int .i64 (zd7 s t),.int .i64 (zd7 s u)]) (by kernel_rfl) ?_;refine zeD (α:=DRace) zwM λw21 hx21 hv21=>?_;have hlt21:=hv21.lt;have hm:∀ (w:World) lo hi,OwnI lo hi w (.agg #[.int .i64 a.global,.int .i64 (zd7 s t),.int .i64 (zd7 s u)]) (⟨a.global,zd7 s t,zd7 s u⟩:DRace):=λw lo hi=>⟨[],zmj (x:=⟨a.global,zd7 s t,zd7 s u⟩) hI89 (by unfold I64;simp only;omega) (by unfold I64;simp only;omega),by simp⟩;refine ze5 (lo:=w20.heap.size) (hi:=w20.heap.size) zbX hv21 (hm w21 _ _) (.inr (lr _)) λw22 hc22 hv22=>?_;have hx22:Ext w20 w22:=hx21.chgI hc22 (lr _)
 have hrace:zdr a b=if zd7 s u<zd7 s t then ⟨a.global,zd7 s u,zd7 s t⟩ else ⟨a.global,zd7 s t,zd7 s u⟩:=by
   unfold zdr;rw [hata.1,hatb.1];split
   · rw [Int.min_eq_right (by omega),Int.max_eq_left (by omega)]
   rw [Int.min_eq_left (by omega),Int.max_eq_right (by omega)]
 have hclr:clR a b=[zdr a b]:=by unfold clR;rw [if_pos hcl]
 have hlen:(zcO (hT T t++hU T (T t) u++hA (T u) ((T t).take i)++((T u).take j).flatMap (clR a))).length≤10000:=by
   refine Nat.le_trans (zjL _) ?_;simp only [List.length_append];omega
 have hsz2:=hx210.size;have hsz3:=hx1020.size
 have hyes:∀ (r:Value) (w' w'':World),Ext w20 w'→Ext w' w''→OwnI w2.heap.size w''.heap.size w'' r (zjI (zdr a b) (zcO (hT T t++hU T (T t) u++hA (T u) ((T t).take i)++((T u).take j).flatMap (clR a)))) →
     ∃ (out:Value),[r,Value.int .i64 ((j+1:Nat):Int)]=[out,.int .i64 ((j+1:Nat):Int)]∧j+1≤(T u).length∧Ext w10 w''∧Own w2.heap.size w'' out (zcO (hT T t++hU T (T t) u++hA (T u) ((T t).take i)++((T u).take (j+1)).flatMap (clR a))):=λr w' w'' hx hy ho=>by
   refine ⟨r,rfl,by omega,(hx1020.t hx).trans hy,?_⟩;rw [zbA hj',hbg,hclr,←List.append_assoc,zkE];exact ho.own
 refine zcK ?_;refine br (λhgt=>?_) (λhle=>?_)
 · rw [if_pos hgt] at hrace
   obtain ⟨F,hO,hF⟩:=hv22;refine zab zfw ?_;obtain ⟨G1,hL1⟩:=zh4 (Lens.var hO);refine zo3 ty3 hL1 hF (lr _) (lr _) (zbh (x:=zd7 s u) (by unfold I64;omega)) λw23 hc23 hv23=>?_;obtain ⟨F2,hO2,hF2⟩:=hv23;refine zab zgU ?_;obtain ⟨G2,hL2⟩:=zh5 (Lens.var hO2);refine zo3 ty3 hL2 hF2 (lr _) (lr _) (zbh (x:=zd7 s t) (by unfold I64;omega)) λw24 hc24 hv24=>?_;have hx24:Ext w20 w24:=(hx22.chgI hc23 (lr _)).chgI hc24 (lr _);refine ze4 zbX hv24 (Ext.refl _) λv101 h101=>?_;have ho24:=ho20.ext hx24;refine (zm1 ho24.toI (by have:=hx24.size;omega) h101.is (Ext.refl _) (by omega)).mono ?_;rintro v102 w25 ⟨hx25,ho25⟩;rw [←hrace] at ho25;refine zas ?_;exact ⟨mk17-1,by omega,j+1,by omega,hyes v102 w24 w25 hx24 hx25 ho25⟩
 rw [if_neg hle] at hrace;refine ze4 zbX hv22 (Ext.refl _) λv101 h101=>?_;have ho22:=ho20.ext hx22;refine (zm1 ho22.toI (by have:=hx22.size;omega) h101.is (Ext.refl _) (by omega)).mono ?_;rintro v102 w23 ⟨hx23,ho23⟩;rw [←hrace] at ho23;refine zas ?_;exact ⟨mk17-1,by omega,j+1,by omega,hyes v102 w22 w23 hx22 hx23 ho23⟩
def zwF (c:DCode) (s:DState):Prop:=(CodeR c∧zbc c s)∧zem c s=[]∧zn5 c s s.stacks.length=0
instance (c:DCode) (s:DState):Decidable (zwF c s):=by unfold zwF;infer_instance
end Go.Proofs.YtifonhplnmpgaaaGreat
