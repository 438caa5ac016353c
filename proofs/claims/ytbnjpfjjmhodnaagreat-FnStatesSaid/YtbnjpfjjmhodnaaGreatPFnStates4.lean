/-
  Parts of the proof, put together by program.
-/
import Derived.Test.YtbnjpfjjmhodnaaGreatPFnStates3
set_option linter.unusedVariables false
set_option linter.unusedSimpArgs false
set_option linter.unusedSectionVars false
namespace Go.Proofs.YtbnjpfjjmhodnaaGreat
open Go Go.Sh Go.Proofs
open Rep (rep)
section
variable {bs:List UInt8} {n:Nat} {s:Cur}
theorem zdr (h:zd6 bs n s<11):zbm bs n s=zeG bs (zd6 bs n s) (zaj bs 14 s):=by
 cases n with
 | zero=>rw [zbm]
 | succ n=>rw [zbm,if_pos h]
theorem zeJ (h:¬zd6 bs n s<11):0<n:=by
 cases n with
 | zero=>have:=zpZ bs s;omega
 | succ n=>omega
theorem zgv (h:¬zd6 bs n s<11):zbm bs n s=zio bs (zbm bs (n-1)) (zd6 bs n s) (zaj bs 14 s):=by
 have:=zeJ h
 obtain ⟨m,rfl⟩:∃ m,n=m+1:=⟨n-1,by omega⟩
 rw [zbm,if_neg h];rfl
theorem zo3 {f:Cur→DStmt×Cur} {bs:List UInt8} {k:Nat} {s:Cur} (hk:k≤3) (h:(k:Int)<zbg bs 4 s) :
   zcM f bs (4-k) k s=((f (zaj bs 4 s)).1 :: (zcM f bs (4-(k+1)) (k+1) (f (zaj bs 4 s)).2).1,(zcM f bs (4-(k+1)) (k+1) (f (zaj bs 4 s)).2).2):=by
 rw [show 4-k=(4-(k+1))+1 by omega,zcM,if_pos h]
theorem zmI {f:Cur→DStmt×Cur} {bs:List UInt8} {k:Nat} {s:Cur} (hk:k≤3) (h:¬(k:Int)<zbg bs 4 s):zcM f bs (4-k) k s=([],zaj bs 4 s):=by
 rw [show 4-k=(4-(k+1))+1 by omega,zcM,if_neg h]
end
def zl1 (n:Nat):Prop:=∀ {W w:World} {g:Nat} {bs:List UInt8} {s:Cur} {d:Int},CurAt W g bs s w→d=(n:Int) →
 CALL Tryz.prog 258 [.pointer (some ⟨g,0,none⟩),.int .i64 d] w fun r w'=>ChgI g (g+1) w w'∧CurAt W g bs (zbm bs n s).2 w'∧OwnI w.heap.size w'.heap.size w' r (zbm bs n s).1
def znW (n:Nat):Prop:=∀ {W w:World} {g:Nat} {bs:List UInt8} {s:Cur} {d:Int},CurAt W g bs s w→d=(n:Int) →
 CALL Tryz.prog 198 [.pointer (some ⟨g,0,none⟩),.int .i64 d] w fun r w'=>ChgI g (g+1) w w'∧CurAt W g bs (zaQ bs n s).2 w'∧RowI w.heap.size w'.heap.size 209 w' r (zaQ bs n s).1
def F198 (a0 a1:Value) (w:World) (R:VW):Prop:=
 oP (Instr.buildSlice 162 0 #[]) w fun x7 w=>
 LOOPI [5,6] [x7,(iV 0)] w fun u3 w next3=>
 cL 71 [a0,(iV 4)] w fun x10 w=>
 rC (u3 6) x10 w fun x11=>
 BR x11
 (cL 258 [a0,a1] w fun x17 w=>
 oP (Instr.buildSlice 162 1 #[(0,x17)]) w fun x18 w=>
 oP (Builtin.append_ #[162,162] 162 [(u3 5),x18].toArray) w fun x19 w=>
 rA (u3 6) (iV 1) w fun x13=>
 next3 [x19,x13] w)
 (R (u3 5) w)
def cfg198:Cfg:=⟨extL,[],[(3,1048416,[5,6])],[],[],[],[]⟩
theorem F198_call {a0 a1:Value} {w:World} {R:VW} (h:F198 a0 a1 w R):cL 198 [a0,a1] w R:=co (g:=cfg198) Tryz.func198 (by kernel_rfl) (by kernel_rfl) (by kernel_rfl) h
theorem zgM {w:World} {W:World} {g:Nat} {bs:List UInt8} {s:Cur} {d:Int} {n:Nat} (hC:CurAt W g bs s w) (hd:d=(n:Int)) (ih:zl1 n) :
   CALL Tryz.prog 198 [.pointer (some ⟨g,0,none⟩),.int .i64 d] w fun r w'=>ChgI g (g+1) w w'∧(CurAt W g bs (zaQ bs n s).2 w'∧RowI w.heap.size w'.heap.size 209 w' r (zaQ bs n s).1):=by
 refine F198_call ?_
 unfold F198
 have hgl:=hC.lt
 refine zbq (α:=DStmt) zd3 zbp fun v7 w1_ hx1_ o7=>?_
 have hs_hx1_:=hx1_.size
 refine zaF (4) (fun k us w'=>∃ (v:Value) (s1:Cur) (l1:List DStmt),us=[v,.int .i64 (k:Int)]∧ChgI g (g+1) w1_ w'∧(CurAt W g bs s1 w'∧RowI w1_.heap.size w'.heap.size 209 w' v l1∧zaQ bs n s=(l1++(zcM (zbm bs n) bs (4-k) k s1).1,(zcM (zbm bs n) bs (4-k) k s1).2)∧l1.length≤k∧k≤3)) (0) (by omega) ⟨_,s,[],rfl,(ChgI.refl w1_),⟨hC.ext hx1_,zdy _ _ _ _ _,by unfold zaQ;simp,by simp,by omega⟩⟩ ?_
 rintro k m3 uu3 w2_ hk3 ⟨v5,s1,l1,hu,hx2_,hC1,hrow,hdr,hll,hkk⟩
 have hs_hx2_:=hx2_.size
 obtain ⟨hu0,hu1⟩:=zkG hu
 try rw [hu0]
 try rw [hu1]
 try clear hu0 hu1
 have hb4:=zbM bs (n:=4) (by omega) s1
 refine (zbV hC1 (by omega)).mono ?_
 rintro _ w3_ ⟨hc3_,hC3_,rfl⟩
 have hs_hc3_:=hc3_.size
 have hs_hc3_:=hc3_.size
 have hrow_c3:=(hrow.ext (Ext.refl w2_)).chg hc3_ (by omega)
 refine zai ?_
 refine br (fun c1=>?_) (fun c1=>?_)
 · refine (ih hC3_ hd).mono ?_
   rintro r17 w4_ ⟨hc4_,hC4_,o17⟩
   have hs_hc4_:=hc4_.size
   have hs_hc4_:=hc4_.size
   have hrow_c4:=(hrow_c3.ext (Ext.refl w3_)).chg hc4_ (by omega)
   refine zeF (α:=DStmt) zd3 zbp zqq zmv (by decide) (hrow_c4.ext (Ext.refl w4_)) (by omega) (o17.ext (Ext.refl w4_)) (by omega) (by omega) (by rw [zak];omega) (by omega) fun v19 w5_ hc5_ o19=>?_
   have hs_hc5_:=hc5_.size
   have o17_c5:=(o17.ext (Ext.refl w4_)).chg hc5_ (by omega)
   refine zal (by omega) ?_
   refine ⟨m3-1,by omega,k+1,by omega,_,(zbm bs n (zaj bs 4 s1)).2,l1++[(zbm bs n (zaj bs 4 s1)).1],rfl,(ChgI.out (ChgI.trans (ChgI.trans hx2_ hc3_) hc4_) hc5_ (by omega)),?_⟩
   rw [zo3 hkk (by omega)] at hdr
   exact ⟨(CurAt.chg hC4_ hc5_ (by omega) (by omega)),o19,by rw [hdr];simp,by simp;omega,by omega⟩
 refine ⟨(ChgI.trans (ChgI.trans (Ext.toI hx1_) hx2_) hc3_),?_⟩
 rw [zmI hkk (by omega)] at hdr
 rw [hdr]
 simp only [List.append_nil]
 exact ⟨hC3_,(hrow.chg hc3_ (by omega)).mono (by omega) (by omega)⟩
def F258 (a0 a1:Value) (w:World) (R:VW):Prop:=
 oP (Instr.alloc 209 true (.tuple #[])) w fun x4 w=>
 cL 71 [a0,(iV 14)] w fun x8 w=>
 JOIN [5] (fun J4=>
 rB .leq 3 T0 U0 a1 (iV 0) w fun x10=>
 BR x10
 (rB .geq 3 T0 U0 x8 (iV 11) w fun x13=>
 BR x13
 (rB .sub 3 T0 U0 x8 (iV 6) w fun x16=>
 J4 [x16] w)
 (J4 [x8] w))
 (J4 [x8] w)) (fun u4 w=>
 rB .lss 3 T0 U0 (u4 5) (iV 4) w fun x19=>
 BR x19
 (oP (Instr.buildSlice 24 3 #[(0,(Value.string (ByteArray.mk #[120]))),(1,(Value.string (ByteArray.mk #[121]))),(2,(Value.string (ByteArray.mk #[122])))]) w fun x21 w=>
 cL 95 [a0,x21] w fun x22 w=>
 cL 311 [a0,(iV 2)] w fun x24 w=>
 rD (Instr.build 209 #[(0,(iV 1)),(1,x22),(2,x24)]) w fun x25=>
 oS 209 x4 x25 w fun w=>
 rD (zaw 209 x4) w fun r4=>R r4 w)
 (rB .lss 3 T0 U0 (u4 5) (iV 6) w fun x28=>
 BR x28
 (oP (Instr.buildSlice 24 3 #[(0,(Value.string (ByteArray.mk #[97]))),(1,(Value.string (ByteArray.mk #[98]))),(2,(Value.string (ByteArray.mk #[109])))]) w fun x30 w=>
 cL 95 [a0,x30] w fun x31 w=>
 rD (Instr.build 209 #[(0,(iV 6)),(1,x31)]) w fun x32=>
 oS 209 x4 x32 w fun w=>
 rD (zaw 209 x4) w fun r4=>R r4 w)
 (rB .lss 3 T0 U0 (u4 5) (iV 8) w fun x35=>
 BR x35
 (oP (Instr.buildSlice 24 3 #[(0,(Value.string (ByteArray.mk #[97]))),(1,(Value.string (ByteArray.mk #[98]))),(2,(Value.string (ByteArray.mk #[109])))]) w fun x37 w=>
 cL 95 [a0,x37] w fun x38 w=>
 rD (Instr.build 209 #[(0,(iV 7)),(1,x38)]) w fun x39=>
 oS 209 x4 x39 w fun w=>
 rD (zaw 209 x4) w fun r4=>R r4 w)
 (rB .eql 3 T0 U0 (u4 5) (iV 8) w fun x42=>
 BR x42
 (oP (Instr.buildSlice 24 3 #[(0,(Value.string (ByteArray.mk #[112]))),(1,(Value.string (ByteArray.mk #[113]))),(2,(Value.string (ByteArray.mk #[114])))]) w fun x44 w=>
 cL 95 [a0,x44] w fun x45 w=>
 rD (Instr.build 209 #[(0,(iV 4)),(1,x45)]) w fun x46=>
 oS 209 x4 x46 w fun w=>
 rD (zaw 209 x4) w fun r4=>R r4 w)
 (rB .eql 3 T0 U0 (u4 5) (iV 9) w fun x49=>
 BR x49
 (oP (Instr.buildSlice 24 3 #[(0,(Value.string (ByteArray.mk #[112]))),(1,(Value.string (ByteArray.mk #[113]))),(2,(Value.string (ByteArray.mk #[114])))]) w fun x51 w=>
 cL 95 [a0,x51] w fun x52 w=>
 rD (Instr.build 209 #[(0,(iV 5)),(1,x52)]) w fun x53=>
 oS 209 x4 x53 w fun w=>
 rD (zaw 209 x4) w fun r4=>R r4 w)
 (rB .eql 3 T0 U0 (u4 5) (iV 10) w fun x56=>
 BR x56
 (rD (Instr.build 209 #[(0,(iV 8))]) w fun x57=>
 oS 209 x4 x57 w fun w=>
 rD (zaw 209 x4) w fun r4=>R r4 w)
 (rB .eql 3 T0 U0 (u4 5) (iV 11) w fun x60=>
 BR x60
 (cL 311 [a0,(iV 1)] w fun x62 w=>
 rB .sub 3 T0 U0 a1 (iV 1) w fun x65=>
 cL 198 [a0,x65] w fun x66 w=>
 rD (Instr.build 209 #[(0,(iV 3)),(2,x62),(3,x66)]) w fun x67=>
 oS 209 x4 x67 w fun w=>
 rD (zaw 209 x4) w fun r4=>R r4 w)
 (cL 311 [a0,(iV 1)] w fun x69 w=>
 rB .sub 3 T0 U0 a1 (iV 1) w fun x72=>
 cL 198 [a0,x72] w fun x73 w=>
 rD (Instr.build 209 #[(0,(iV 2)),(2,x69),(3,x73)]) w fun x74=>
 oP (Instr.alloc 209 true (.tuple #[])) w fun x6 w=>
 oS 209 x6 x74 w fun w=>
 cL 92 [a0,(iV 2)] w fun x76 w=>
 BR x76
 (rB .sub 3 T0 U0 a1 (iV 1) w fun x79=>
 cL 198 [a0,x79] w fun x80 w=>
 rF 209 x6 4 w fun x81=>
 oS 162 x81 x80 w fun w=>
 rL 209 x6 w fun x82=>
 oS 209 x4 x82 w fun w=>
 rD (zaw 209 x4) w fun r4=>R r4 w)
 (rL 209 x6 w fun x82=>
 oS 209 x4 x82 w fun w=>
 rD (zaw 209 x4) w fun r4=>R r4 w)))))))))
def cfg258:Cfg:=⟨extL,[(4,130592,[5])],[],[],[],[],[]⟩
theorem F258_call {a0 a1:Value} {w:World} {R:VW} (h:F258 a0 a1 w R):cL 258 [a0,a1] w R:=co (g:=cfg258) Tryz.func258 (by kernel_rfl) (by kernel_rfl) (by kernel_rfl) h
theorem zgN {w:World} {W:World} {g:Nat} {bs:List UInt8} {s:Cur} {d:Int} {n:Nat} (hC:CurAt W g bs s w) (hd:d=(n:Int)) (ih:∀ m,m+1=n→znW m) (hn:n≤10) :
   CALL Tryz.prog 258 [.pointer (some ⟨g,0,none⟩),.int .i64 d] w fun r w'=>ChgI g (g+1) w w'∧(CurAt W g bs (zbm bs n s).2 w'∧OwnI w.heap.size w'.heap.size w' r (zbm bs n s).1):=by
 refine F258_call ?_
 unfold F258
 have hgl:=hC.lt
 have hb14:=zbM bs (n:=14) (by omega) s
 refine zc8 (α:=DStmt) znE fun w1_ hx1_ hv4=>?_
 have hg4:=hv4.lt
 have hs_hx1_:=hx1_.size
 refine (zbV (CurAt.ext hC hx1_) (by omega)).mono ?_
 rintro _ w2_ ⟨hc2_,hC2_,rfl⟩
 have hs_hc2_:=hc2_.size
 have hs_hc2_:=hc2_.size
 have hv4_c2:=(hv4.ext (Ext.refl w1_)).chg hc2_ (by omega) (by omega)
 refine JOIN.mk (fun us w'=>us=[.int .i64 (zd6 bs n s)]∧Ext w2_ w'∧(True)) ?_ ?_
 · refine zdv ?_
   refine br (fun c1=>?_) (fun c1=>?_)
   · refine zbP ?_
     refine br (fun c2=>?_) (fun c2=>?_)
     · refine za8 (by unfold I64;omega) ?_
       refine ⟨by unfold zd6;rw [if_pos (by omega)],Ext.refl w2_,?_⟩
       trivial
     refine ⟨by unfold zd6;rw [if_neg (by omega)],Ext.refl w2_,?_⟩
     trivial
   refine ⟨by unfold zd6;rw [if_neg (by omega)],Ext.refl w2_,?_⟩
   trivial
 rintro uj4 w3_ ⟨hu,hx3_,_⟩
 have hs_hx3_:=hx3_.size
 simp only [List.map_cons,List.map_nil,List.cons.injEq,and_true] at hu
 try rw [hu]
 try clear hu
 refine zai ?_
 refine br (fun c3=>?_) (fun c3=>?_)
 · refine zeI (vs:=([ByteArray.mk #[120],ByteArray.mk #[121],ByteArray.mk #[122]]:List ByteArray).map Value.string) u24 ty9 zbU (by decide) (by kernel_rfl) rfl (fun w=>zb1 (by decide)) fun v21 w4_ hx4_ o21=>?_
   have hs_hx4_:=hx4_.size
   refine (zcy (CurAt.ext (CurAt.ext hC2_ hx3_) hx4_) (o21.ext (Ext.refl w4_)) (by omega) (by omega) (by omega) (by decide) (by decide)).mono ?_
   rintro _ w5_ ⟨hc5_,hC5_,rfl,hS22⟩
   have hs_hc5_:=hc5_.size
   have hs_hc5_:=hc5_.size
   have hv4_c5:=(hv4_c2.ext (hx3_.trans hx4_)).chg hc5_ (by omega) (by omega)
   have o21_c5:=(o21.ext (Ext.refl w4_)).chg hc5_ (by omega)
   refine ((ze1 2 (by omega)) hC5_ rfl).mono ?_
   rintro r24 w6_ ⟨hc6_,hC6_,o24⟩
   have hs_hc6_:=hc6_.size
   have hs_hc6_:=hc6_.size
   have hv4_c6:=(hv4_c5.ext (Ext.refl w5_)).chg hc6_ (by omega) (by omega)
   have o21_c6:=(o21_c5.ext (Ext.refl w5_)).chg hc6_ (by omega)
   refine zj0 (lo:=w5_.heap.size) (hi:=w6_.heap.size) (by omega) (by first | assumption | (unfold I64;omega)) (by first | assumption | decide) (o24.ext (Ext.refl w6_)) fun v25 o25=>?_
   refine zaP zbp (hv4_c6.ext (Ext.refl w6_)) (o25.ext (Ext.refl w6_)) (by omega) fun w7_ hc7_ hv4_s7=>?_
   have hs_hc7_:=hc7_.size
   have o21_c7:=(o21_c6.ext (Ext.refl w6_)).chg hc7_ (by omega)
   have o24_c7:=(o24.ext (Ext.refl w6_)).chg hc7_ (by omega)
   have o25_c7:=(o25.ext (Ext.refl w6_)).chg hc7_ (by omega)
   refine zbA zbp hv4_s7 (Ext.refl w7_) fun r4 hr4=>?_
   replace hr4:=hr4.ext (Ext.refl w7_)
   refine ⟨(ChgI.out (ChgI.trans (ChgI.trans (ChgI.trans (ChgI.trans (ChgI.trans (Ext.toI hx1_) hc2_) (Ext.toI hx3_)) (Ext.toI hx4_)) hc5_) hc6_) hc7_ (by omega)),?_⟩
   rw [zdr (by omega),zeG,if_pos (by omega)]
   exact ⟨(CurAt.chg hC6_ hc7_ (by omega) (by omega)),hr4.mono (by omega) (by omega)⟩
 refine zai ?_
 refine br (fun c4=>?_) (fun c4=>?_)
 · refine zeI (vs:=([ByteArray.mk #[97],ByteArray.mk #[98],ByteArray.mk #[109]]:List ByteArray).map Value.string) u24 ty9 zbU (by decide) (by kernel_rfl) rfl (fun w=>zb1 (by decide)) fun v30 w8_ hx8_ o30=>?_
   have hs_hx8_:=hx8_.size
   refine (zcy (CurAt.ext (CurAt.ext hC2_ hx3_) hx8_) (o30.ext (Ext.refl w8_)) (by omega) (by omega) (by omega) (by decide) (by decide)).mono ?_
   rintro _ w9_ ⟨hc9_,hC9_,rfl,hS31⟩
   have hs_hc9_:=hc9_.size
   have hs_hc9_:=hc9_.size
   have hv4_c9:=(hv4_c2.ext (hx3_.trans hx8_)).chg hc9_ (by omega) (by omega)
   have o30_c9:=(o30.ext (Ext.refl w8_)).chg hc9_ (by omega)
   refine zca (lo:=w9_.heap.size) (hi:=w9_.heap.size) (by omega) (by first | assumption | (unfold I64;omega)) (by first | assumption | decide) fun v32 o32=>?_
   refine zaP zbp (hv4_c9.ext (Ext.refl w9_)) (o32.ext (Ext.refl w9_)) (by omega) fun w10_ hc10_ hv4_s10=>?_
   have hs_hc10_:=hc10_.size
   have o30_c10:=(o30_c9.ext (Ext.refl w9_)).chg hc10_ (by omega)
   have o32_c10:=(o32.ext (Ext.refl w9_)).chg hc10_ (by omega)
   refine zbA zbp hv4_s10 (Ext.refl w10_) fun r4 hr4=>?_
   replace hr4:=hr4.ext (Ext.refl w10_)
   refine ⟨(ChgI.out (ChgI.trans (ChgI.trans (ChgI.trans (ChgI.trans (Ext.toI hx1_) hc2_) (Ext.toI hx3_)) (Ext.toI hx8_)) hc9_) hc10_ (by omega)),?_⟩
   rw [zdr (by omega),zeG,if_neg (by omega),if_pos (by omega)]
   exact ⟨(CurAt.chg hC9_ hc10_ (by omega) (by omega)),hr4.mono (by omega) (by omega)⟩
 refine zai ?_
 refine br (fun c5=>?_) (fun c5=>?_)
 · refine zeI (vs:=([ByteArray.mk #[97],ByteArray.mk #[98],ByteArray.mk #[109]]:List ByteArray).map Value.string) u24 ty9 zbU (by decide) (by kernel_rfl) rfl (fun w=>zb1 (by decide)) fun v37 w11_ hx11_ o37=>?_
   have hs_hx11_:=hx11_.size
   refine (zcy (CurAt.ext (CurAt.ext hC2_ hx3_) hx11_) (o37.ext (Ext.refl w11_)) (by omega) (by omega) (by omega) (by decide) (by decide)).mono ?_
   rintro _ w12_ ⟨hc12_,hC12_,rfl,hS38⟩
   have hs_hc12_:=hc12_.size
   have hs_hc12_:=hc12_.size
   have hv4_c12:=(hv4_c2.ext (hx3_.trans hx11_)).chg hc12_ (by omega) (by omega)
   have o37_c12:=(o37.ext (Ext.refl w11_)).chg hc12_ (by omega)
   refine zca (lo:=w12_.heap.size) (hi:=w12_.heap.size) (by omega) (by first | assumption | (unfold I64;omega)) (by first | assumption | decide) fun v39 o39=>?_
   refine zaP zbp (hv4_c12.ext (Ext.refl w12_)) (o39.ext (Ext.refl w12_)) (by omega) fun w13_ hc13_ hv4_s13=>?_
   have hs_hc13_:=hc13_.size
   have o37_c13:=(o37_c12.ext (Ext.refl w12_)).chg hc13_ (by omega)
   have o39_c13:=(o39.ext (Ext.refl w12_)).chg hc13_ (by omega)
   refine zbA zbp hv4_s13 (Ext.refl w13_) fun r4 hr4=>?_
   replace hr4:=hr4.ext (Ext.refl w13_)
   refine ⟨(ChgI.out (ChgI.trans (ChgI.trans (ChgI.trans (ChgI.trans (Ext.toI hx1_) hc2_) (Ext.toI hx3_)) (Ext.toI hx11_)) hc12_) hc13_ (by omega)),?_⟩
   rw [zdr (by omega),zeG,if_neg (by omega),if_neg (by omega),if_pos (by omega)]
   exact ⟨(CurAt.chg hC12_ hc13_ (by omega) (by omega)),hr4.mono (by omega) (by omega)⟩
 refine zag ?_
 refine br (fun c6=>?_) (fun c6=>?_)
 · refine zeI (vs:=([ByteArray.mk #[112],ByteArray.mk #[113],ByteArray.mk #[114]]:List ByteArray).map Value.string) u24 ty9 zbU (by decide) (by kernel_rfl) rfl (fun w=>zb1 (by decide)) fun v44 w14_ hx14_ o44=>?_
   have hs_hx14_:=hx14_.size
   refine (zcy (CurAt.ext (CurAt.ext hC2_ hx3_) hx14_) (o44.ext (Ext.refl w14_)) (by omega) (by omega) (by omega) (by decide) (by decide)).mono ?_
   rintro _ w15_ ⟨hc15_,hC15_,rfl,hS45⟩
   have hs_hc15_:=hc15_.size
   have hs_hc15_:=hc15_.size
   have hv4_c15:=(hv4_c2.ext (hx3_.trans hx14_)).chg hc15_ (by omega) (by omega)
   have o44_c15:=(o44.ext (Ext.refl w14_)).chg hc15_ (by omega)
   refine zca (lo:=w15_.heap.size) (hi:=w15_.heap.size) (by omega) (by first | assumption | (unfold I64;omega)) (by first | assumption | decide) fun v46 o46=>?_
   refine zaP zbp (hv4_c15.ext (Ext.refl w15_)) (o46.ext (Ext.refl w15_)) (by omega) fun w16_ hc16_ hv4_s16=>?_
   have hs_hc16_:=hc16_.size
   have o44_c16:=(o44_c15.ext (Ext.refl w15_)).chg hc16_ (by omega)
   have o46_c16:=(o46.ext (Ext.refl w15_)).chg hc16_ (by omega)
   refine zbA zbp hv4_s16 (Ext.refl w16_) fun r4 hr4=>?_
   replace hr4:=hr4.ext (Ext.refl w16_)
   refine ⟨(ChgI.out (ChgI.trans (ChgI.trans (ChgI.trans (ChgI.trans (Ext.toI hx1_) hc2_) (Ext.toI hx3_)) (Ext.toI hx14_)) hc15_) hc16_ (by omega)),?_⟩
   rw [zdr (by omega),zeG,if_neg (by omega),if_neg (by omega),if_neg (by omega),if_pos (by omega)]
   exact ⟨(CurAt.chg hC15_ hc16_ (by omega) (by omega)),hr4.mono (by omega) (by omega)⟩
 refine zag ?_
 refine br (fun c7=>?_) (fun c7=>?_)
 · refine zeI (vs:=([ByteArray.mk #[112],ByteArray.mk #[113],ByteArray.mk #[114]]:List ByteArray).map Value.string) u24 ty9 zbU (by decide) (by kernel_rfl) rfl (fun w=>zb1 (by decide)) fun v51 w17_ hx17_ o51=>?_
   have hs_hx17_:=hx17_.size
   refine (zcy (CurAt.ext (CurAt.ext hC2_ hx3_) hx17_) (o51.ext (Ext.refl w17_)) (by omega) (by omega) (by omega) (by decide) (by decide)).mono ?_
   rintro _ w18_ ⟨hc18_,hC18_,rfl,hS52⟩
   have hs_hc18_:=hc18_.size
   have hs_hc18_:=hc18_.size
   have hv4_c18:=(hv4_c2.ext (hx3_.trans hx17_)).chg hc18_ (by omega) (by omega)
   have o51_c18:=(o51.ext (Ext.refl w17_)).chg hc18_ (by omega)
   refine zca (lo:=w18_.heap.size) (hi:=w18_.heap.size) (by omega) (by first | assumption | (unfold I64;omega)) (by first | assumption | decide) fun v53 o53=>?_
   refine zaP zbp (hv4_c18.ext (Ext.refl w18_)) (o53.ext (Ext.refl w18_)) (by omega) fun w19_ hc19_ hv4_s19=>?_
   have hs_hc19_:=hc19_.size
   have o51_c19:=(o51_c18.ext (Ext.refl w18_)).chg hc19_ (by omega)
   have o53_c19:=(o53.ext (Ext.refl w18_)).chg hc19_ (by omega)
   refine zbA zbp hv4_s19 (Ext.refl w19_) fun r4 hr4=>?_
   replace hr4:=hr4.ext (Ext.refl w19_)
   refine ⟨(ChgI.out (ChgI.trans (ChgI.trans (ChgI.trans (ChgI.trans (Ext.toI hx1_) hc2_) (Ext.toI hx3_)) (Ext.toI hx17_)) hc18_) hc19_ (by omega)),?_⟩
   rw [zdr (by omega),zeG,if_neg (by omega),if_neg (by omega),if_neg (by omega),if_neg (by omega),if_pos (by omega)]
   exact ⟨(CurAt.chg hC18_ hc19_ (by omega) (by omega)),hr4.mono (by omega) (by omega)⟩
 refine zag ?_
 refine br (fun c8=>?_) (fun c8=>?_)
 · refine zir (lo:=w3_.heap.size) (hi:=w3_.heap.size) (by omega) (by first | assumption | (unfold I64;omega)) fun v57 o57=>?_
   refine zaP zbp (hv4_c2.ext hx3_) (o57.ext (Ext.refl w3_)) (by omega) fun w20_ hc20_ hv4_s20=>?_
   have hs_hc20_:=hc20_.size
   have o57_c20:=(o57.ext (Ext.refl w3_)).chg hc20_ (by omega)
   refine zbA zbp hv4_s20 (Ext.refl w20_) fun r4 hr4=>?_
   replace hr4:=hr4.ext (Ext.refl w20_)
   refine ⟨(ChgI.out (ChgI.trans (ChgI.trans (Ext.toI hx1_) hc2_) (Ext.toI hx3_)) hc20_ (by omega)),?_⟩
   rw [zdr (by omega),zeG,if_neg (by omega),if_neg (by omega),if_neg (by omega),if_neg (by omega),if_neg (by omega)]
   exact ⟨(CurAt.chg (CurAt.ext hC2_ hx3_) hc20_ (by omega) (by omega)),hr4.mono (by omega) (by omega)⟩
 refine zag ?_
 refine br (fun c9=>?_) (fun c9=>?_)
 · have hK:¬zd6 bs n s<11:=by unfold zd6 at *;split at*<;> omega
   have hnp:=zeJ hK
   refine ((ze1 1 (by omega)) (CurAt.ext hC2_ hx3_) rfl).mono ?_
   rintro r62 w21_ ⟨hc21_,hC21_,o62⟩
   have hs_hc21_:=hc21_.size
   have hs_hc21_:=hc21_.size
   have hv4_c21:=(hv4_c2.ext hx3_).chg hc21_ (by omega) (by omega)
   refine za8 (by unfold I64;omega) ?_
   refine (ih (n-1) (by omega) hC21_ (by omega)).mono ?_
   rintro r66 w22_ ⟨hc22_,hC22_,o66⟩
   have hs_hc22_:=hc22_.size
   have hs_hc22_:=hc22_.size
   have hv4_c22:=(hv4_c21.ext (Ext.refl w21_)).chg hc22_ (by omega) (by omega)
   have o62_c22:=(o62.ext (Ext.refl w21_)).chg hc22_ (by omega)
   refine zgL (lo:=w3_.heap.size) (hi:=w22_.heap.size) (by first | assumption | (unfold I64;omega)) (o62_c22.ext (Ext.refl w22_)) (o66.own.ext (Ext.refl w22_)) (by omega) (by omega) (by omega) (by omega) fun v67 o67=>?_
   refine zaP zbp (hv4_c22.ext (Ext.refl w22_)) (o67.ext (Ext.refl w22_)) (by omega) fun w23_ hc23_ hv4_s23=>?_
   have hs_hc23_:=hc23_.size
   have o62_c23:=(o62_c22.ext (Ext.refl w22_)).chg hc23_ (by omega)
   have o66_c23:=(o66.ext (Ext.refl w22_)).chg hc23_ (by omega)
   have o67_c23:=(o67.ext (Ext.refl w22_)).chg hc23_ (by omega)
   refine zbA zbp hv4_s23 (Ext.refl w23_) fun r4 hr4=>?_
   replace hr4:=hr4.ext (Ext.refl w23_)
   refine ⟨(ChgI.out (ChgI.trans (ChgI.trans (ChgI.trans (ChgI.trans (Ext.toI hx1_) hc2_) (Ext.toI hx3_)) hc21_) hc22_) hc23_ (by omega)),?_⟩
   rw [zgv hK,zio,if_pos (by omega)]
   exact ⟨(CurAt.chg hC22_ hc23_ (by omega) (by omega)),hr4.mono (by omega) (by omega)⟩
 have hK:¬zd6 bs n s<11:=by unfold zd6 at *;split at*<;> omega
 have hnp:=zeJ hK
 refine ((ze1 1 (by omega)) (CurAt.ext hC2_ hx3_) rfl).mono ?_
 rintro r69 w24_ ⟨hc24_,hC24_,o69⟩
 have hs_hc24_:=hc24_.size
 have hs_hc24_:=hc24_.size
 have hv4_c24:=(hv4_c2.ext hx3_).chg hc24_ (by omega) (by omega)
 refine za8 (by unfold I64;omega) ?_
 refine (ih (n-1) (by omega) hC24_ (by omega)).mono ?_
 rintro r73 w25_ ⟨hc25_,hC25_,o73⟩
 have hs_hc25_:=hc25_.size
 have hs_hc25_:=hc25_.size
 have hv4_c25:=(hv4_c24.ext (Ext.refl w24_)).chg hc25_ (by omega) (by omega)
 have o69_c25:=(o69.ext (Ext.refl w24_)).chg hc25_ (by omega)
 refine zgL (lo:=w3_.heap.size) (hi:=w25_.heap.size) (by first | assumption | (unfold I64;omega)) (o69_c25.ext (Ext.refl w25_)) (o73.own.ext (Ext.refl w25_)) (by omega) (by omega) (by omega) (by omega) fun v74 o74=>?_
 refine zc8 (α:=DStmt) znE fun w26_ hx26_ hv6=>?_
 have hg6:=hv6.lt
 have hs_hx26_:=hx26_.size
 refine zaP zbp (hv6.ext (Ext.refl w26_)) (o74.ext hx26_) (by omega) fun w27_ hc27_ hv6_s27=>?_
 have hs_hc27_:=hc27_.size
 have hv4_c27:=(hv4_c25.ext hx26_).chg hc27_ (by omega) (by omega)
 have o69_c27:=(o69_c25.ext hx26_).chg hc27_ (by omega)
 have o73_c27:=(o73.ext hx26_).chg hc27_ (by omega)
 have o74_c27:=(o74.ext hx26_).chg hc27_ (by omega)
 refine (ze0 (CurAt.chg (CurAt.ext hC25_ hx26_) hc27_ (by omega) (by omega)) (by omega)).mono ?_
 rintro _ w28_ ⟨hc28_,hC28_,rfl⟩
 have hs_hc28_:=hc28_.size
 have hs_hc28_:=hc28_.size
 have hv4_c28:=(hv4_c27.ext (Ext.refl w27_)).chg hc28_ (by omega) (by omega)
 have o69_c28:=(o69_c27.ext (Ext.refl w27_)).chg hc28_ (by omega)
 have o73_c28:=(o73_c27.ext (Ext.refl w27_)).chg hc28_ (by omega)
 have o74_c28:=(o74_c27.ext (Ext.refl w27_)).chg hc28_ (by omega)
 have hv6_s27_c28:=(hv6_s27.ext (Ext.refl w27_)).chg hc28_ (by omega) (by omega)
 refine br (fun c10=>?_) (fun c10=>?_)
 · refine za8 (by unfold I64;omega) ?_
   refine (ih (n-1) (by omega) hC28_ (by omega)).mono ?_
   rintro r80 w29_ ⟨hc29_,hC29_,o80⟩
   have hs_hc29_:=hc29_.size
   have hs_hc29_:=hc29_.size
   have hv4_c29:=(hv4_c28.ext (Ext.refl w28_)).chg hc29_ (by omega) (by omega)
   have o69_c29:=(o69_c28.ext (Ext.refl w28_)).chg hc29_ (by omega)
   have o73_c29:=(o73_c28.ext (Ext.refl w28_)).chg hc29_ (by omega)
   have o74_c29:=(o74_c28.ext (Ext.refl w28_)).chg hc29_ (by omega)
   have hv6_s27_c29:=(hv6_s27_c28.ext (Ext.refl w28_)).chg hc29_ (by omega) (by omega)
   refine zaa zcC ?_
   obtain ⟨Fv30,hO30,hF30⟩:=(hv6_s27_c29.ext (Ext.refl w29_))
   obtain ⟨Gv30,hL30⟩:=zgH (Lens.var hO30)
   refine zoN zcB hL30 hF30 (o80.own.ext (Ext.refl w29_)) (by omega) (by omega) fun w30_ hc30_ hv30_=>?_
   have hv6_s30:=hv30_ (w3_.heap.size) (by omega) (by omega) (w29_.heap.size) (by omega) (by omega)
   clear hv30_ hL30 hO30 hF30
   have hs_hc30_:=hc30_.size
   have hv4_c30:=(hv4_c29.ext (Ext.refl w29_)).chg hc30_ (by omega) (by omega)
   have o69_c30:=(o69_c29.ext (Ext.refl w29_)).chg hc30_ (by omega)
   have o73_c30:=(o73_c29.ext (Ext.refl w29_)).chg hc30_ (by omega)
   have o74_c30:=(o74_c29.ext (Ext.refl w29_)).chg hc30_ (by omega)
   have o80_c30:=(o80.ext (Ext.refl w29_)).chg hc30_ (by omega)
   refine zeB zbp hv6_s30 (Ext.refl w30_) fun v82 o82=>?_
   refine zaP zbp (hv4_c30.ext (Ext.refl w30_)) (o82.ext (Ext.refl w30_)) (by omega) fun w31_ hc31_ hv4_s31=>?_
   have hs_hc31_:=hc31_.size
   have o69_c31:=(o69_c30.ext (Ext.refl w30_)).chg hc31_ (by omega)
   have o73_c31:=(o73_c30.ext (Ext.refl w30_)).chg hc31_ (by omega)
   have o74_c31:=(o74_c30.ext (Ext.refl w30_)).chg hc31_ (by omega)
   have hv6_s30_c31:=(hv6_s30.ext (Ext.refl w30_)).chg hc31_ (by omega) (by omega)
   have o80_c31:=(o80_c30.ext (Ext.refl w30_)).chg hc31_ (by omega)
   have o82_c31:=(o82.ext (Ext.refl w30_)).chg hc31_ (by omega)
   refine zbA zbp hv4_s31 (Ext.refl w31_) fun r4 hr4=>?_
   replace hr4:=hr4.ext (Ext.refl w31_)
   refine ⟨(ChgI.out (ChgI.out (ChgI.trans (ChgI.trans (ChgI.out (ChgI.trans (ChgI.trans (ChgI.trans (ChgI.trans (ChgI.trans (Ext.toI hx1_) hc2_) (Ext.toI hx3_)) hc24_) hc25_) (Ext.toI hx26_)) hc27_ (by omega)) hc28_) hc29_) hc30_ (by omega)) hc31_ (by omega)),?_⟩
   rw [zgv hK,zio,if_neg (by omega),if_pos (by first | assumption | (unfold zaQ at *;assumption))]
   exact ⟨(CurAt.chg (CurAt.chg hC29_ hc30_ (by omega) (by omega)) hc31_ (by omega) (by omega)),hr4.mono (by omega) (by omega)⟩
 refine zeB zbp hv6_s27_c28 (Ext.refl w28_) fun v82 o82=>?_
 refine zaP zbp (hv4_c28.ext (Ext.refl w28_)) (o82.ext (Ext.refl w28_)) (by omega) fun w32_ hc32_ hv4_s32=>?_
 have hs_hc32_:=hc32_.size
 have o69_c32:=(o69_c28.ext (Ext.refl w28_)).chg hc32_ (by omega)
 have o73_c32:=(o73_c28.ext (Ext.refl w28_)).chg hc32_ (by omega)
 have o74_c32:=(o74_c28.ext (Ext.refl w28_)).chg hc32_ (by omega)
 have hv6_s27_c32:=(hv6_s27_c28.ext (Ext.refl w28_)).chg hc32_ (by omega) (by omega)
 have o82_c32:=(o82.ext (Ext.refl w28_)).chg hc32_ (by omega)
 refine zbA zbp hv4_s32 (Ext.refl w32_) fun r4 hr4=>?_
 replace hr4:=hr4.ext (Ext.refl w32_)
 refine ⟨(ChgI.out (ChgI.trans (ChgI.out (ChgI.trans (ChgI.trans (ChgI.trans (ChgI.trans (ChgI.trans (Ext.toI hx1_) hc2_) (Ext.toI hx3_)) hc24_) hc25_) (Ext.toI hx26_)) hc27_ (by omega)) hc28_) hc32_ (by omega)),?_⟩
 rw [zgv hK,zio,if_neg (by omega),if_neg (by first | assumption | (unfold zaQ at *;assumption))]
 exact ⟨(CurAt.chg hC28_ hc32_ (by omega) (by omega)),hr4.mono (by omega) (by omega)⟩
theorem zle:∀ (n:Nat),n≤10→zl1 n∧znW n
 | 0,hn=>by
   have h1:zl1 0:=fun {_ _ _ _ _ _} h hd=>zgN h hd (fun m hm=>absurd hm (by omega)) hn
   exact ⟨h1,fun {_ _ _ _ _ _} h hd=>zgM h hd h1⟩
 | n+1,hn=>by
   have ih:=zle n (by omega)
   have hm:∀ m,m+1=n+1→znW m:=fun m hm=>by
     obtain rfl:m=n:=by omega
     exact ih.2
   have h1:zl1 (n+1):=fun {_ _ _ _ _ _} h hd=>zgN h hd hm hn
   exact ⟨h1,fun {_ _ _ _ _ _} h hd=>zgM h hd h1⟩
end Go.Proofs.YtbnjpfjjmhodnaaGreat
namespace Go.Sh
open Rep (rep)
def RowG {α:Type} [Rep α] (F:List Nat) (e:TypeId) (w:World) (v:Value) (l:List α):Prop:=(∃ a,v=.slice a 0 0∧l=[]∧F=[])∨RowF F e w v l
section
variable {P:Program} {w w0 w':World} {α β γ:Type} [Rep α] [Rep β] {e lo hi:Nat} {v:Value} {l:List α} {F:List Nat}
theorem RowG.lt (h:RowG F e w v l):∀ b∈F,b<w.heap.size:=by
 rcases h with ⟨a,_,_,rfl⟩ | h
 · simp
 exact h.lt
theorem RowG.keep (h:RowG F e w v l) (hk:∀ b∈F,w'.heap[b]?=w.heap[b]?):RowG F e w' v l:=by
 rcases h with h | h
 · exact .inl h
 exact .inr (h.keep hk)
theorem RowG.own (h:RowG F e w v l):OwnF F w v l:=by
 rcases h with ⟨a,rfl,rfl,rfl⟩ | h
 · exact ⟨_,⟨a,0,[],[],rfl,Nat.le_refl _,Nat.zero_le _,⟨rfl,rfl⟩,.inl ⟨rfl,rfl⟩⟩,rfl⟩
 exact h.own
theorem RowG.wr (h:RowG F e w v l):Wr F w:=by
 rcases h with ⟨a,_,_,rfl⟩ | h
 · exact Wr.nil w
 exact h.wr
theorem RowG.one (h:RowG F e w v l):v.oneCell'=true:=by
 obtain ⟨cs,⟨a,cap,Fi,xs,rfl,_⟩,rfl⟩:=h.own
 rfl
theorem zcU:RowI lo hi e w v l↔∃ F,RowG F e w v l∧F.Nodup∧∀ b∈F,lo≤b∧b<hi:=by
 constructor
 · rintro (⟨a,h1,h2⟩ | ⟨F,h1,h2,h3⟩)
   · exact ⟨[],.inl ⟨a,h1,h2,rfl⟩,List.nodup_nil,by simp⟩
   exact ⟨F,.inr h1,h2,h3⟩
 rintro ⟨F,(⟨a,h1,h2,_⟩ | h1),h2',h3⟩
 · exact .inl ⟨a,h1,h2⟩
 exact .inr ⟨F,h1,h2',h3⟩
end
structure RV (α:Type) (e:TypeId) where
 v:Value
 l:List α
instance {α:Type} [Rep α] {e:TypeId}:Rep (RV α e) where
 size:=1
 agg:=false
 rep F w cs x:=cs=[x.v]∧RowG F e w x.v x.l
 pos:=by decide
 sz _:=rfl
 len:=by rintro _ _ _ _ ⟨rfl,_⟩;rfl
 one:=by rintro _ _ _ _ ⟨rfl,h⟩ v hv;simp at hv;subst hv;exact h.one
 keep:=by rintro _ _ _ _ _ ⟨rfl,h⟩ hk;exact ⟨rfl,h.keep hk⟩
 lt:=by rintro _ _ _ _ ⟨rfl,h⟩;exact h.lt
section
variable {P:Program} {w w0 w':World} {α β γ:Type} [Rep α] [Rep β] {e lo hi:Nat} {v:Value} {l:List α} {F:List Nat}
theorem zdd (h:RowI lo hi e w v l):OwnI lo hi w v (⟨v,l⟩:RV α e):=by
 obtain ⟨F,h1,h2,h3⟩:=zcU.1 h
 exact ⟨F,⟨⟨[v],⟨rfl,h1⟩,rfl⟩,h2,h1.wr⟩,h3⟩
theorem zh4 {x:RV α e} (h:Is w v x):v=x.v∧Is w x.v x.l:=by
 obtain ⟨F,cs,⟨rfl,h1⟩,hv⟩:=h
 obtain ⟨cs,hr,hv'⟩:=h1.own
 exact ⟨hv,F,cs,hr,hv'⟩
theorem zaS {t by_ b o:Nat} {x:RV α e} {K:Value→Prop} (ht:tyI P t=some (1,by_,false)) (h:At w0 b o x) (hx:Ext w0 w) (k:K x.v):RD P (Instr.loadAt t (.pointer (some ⟨b,o,none⟩))) w K:=
 zab (α:=RV α e) ht h hx fun v hv=>by rw [(zh4 hv).1];exact k
theorem zqM {k:Nat} (hm:RowG F e w v l) (hn:F.Nodup) (hk:k<l.length) :
   ∃ b a cap G,v=.slice (some ⟨b,a,none⟩) l.length cap∧Lens (fun F w l=>RowG F e w v l∧F.Nodup) F w b (a+k*Rep.size α) G l[k] (fun y=>l.set k y):=by
 rcases hm with ⟨a,_,rfl,_⟩ | hm
 · simp at hk
 have hwF:=hm.wr
 obtain ⟨xs,Fi,ho,hc,rfl,hwi⟩:=hm
 rcases ho.2 with ⟨_,h0⟩ | ⟨g,cap,cur,rfl,hb0,hg,h1,h2,h3,h4⟩
 · omega
 simp only [Value.ownBlock,Option.toList_some,List.cons_append,List.nil_append] at hn hwF ⊢
 have hlx:=ho.1
 have e0:l=l.take k++(l[k] :: l.drop (k+1)):=by simp
 have hc':=hc
 rw [e0] at hc'
 obtain ⟨F1,F2',x1,x2',hFi,hxs,c1,c2'⟩:=Cells.split hc'
 obtain ⟨G,F2,cg,x2,rfl,rfl,hgr,c2⟩:=c2'
 subst hFi hxs
 have hl1:x1.length=k*Rep.size α:=by rw [Cells.len c1,List.length_take];congr 1;omega
 have hlg:=Rep.len hgr
 have hn':=hn
 rw [List.nodup_cons] at hn
 obtain ⟨hbn,hn⟩:=hn
 rw [List.nodup_append] at hn
 obtain ⟨hn1,hn2,hn3⟩:=hn
 rw [List.nodup_append] at hn2
 obtain ⟨hnG,hnF2,hn4⟩:=hn2
 have hrange:w.rangeAt g 0 (x1++(cg++x2)):=by
   intro j u hu
   rw [←h4,List.getElem?_take] at hu
   split at hu
   · simpa [World.cell?,hg] using hu
   cases hu
 obtain ⟨r1,r2⟩:=zar hrange
 obtain ⟨rg,r3⟩:=zar r2
 rw [hl1] at rg r3
 refine ⟨g,0,cap,G,rfl,⟨cg,hgr,rg,hnG,hwi.sub (by simp +contextual),fun h=>hbn (by simp [h]),cur,e,hg⟩,by simp +contextual,fun w' G' y' hch hO hs=>?_⟩
 obtain ⟨cg',hg',rg',hnG',hwG',hbG',hwb'⟩:=hO
 have hlg':=Rep.len hg'
 obtain ⟨cur',hcur',hsame⟩:=hch.cell cur e hg
 have keep1:∀ c∈F1,w'.heap[c]?=w.heap[c]?:=fun c hc1=>by
   refine hch.chg.block c (Cells.lt c1 c hc1) fun hm=>?_
   rcases List.mem_cons.1 hm with rfl | hm
   · exact hbn (by simp [hc1])
   exact hn3 c hc1 c (by simp [hm]) rfl
 have keep2:∀ c∈F2,w'.heap[c]?=w.heap[c]?:=fun c hc1=>by
   refine hch.chg.block c (Cells.lt c2 c hc1) fun hm=>?_
   rcases List.mem_cons.1 hm with rfl | hm
   · exact hbn (by simp [hc1])
   exact hn4 c hm c hc1 rfl
 have hfit:k*Rep.size α+Rep.size α≤cur.size:=by
   rw [h3]
   have:=Nat.mul_le_mul_right (Rep.size α) (show k+1≤cap by omega)
   rw [Nat.add_mul,Nat.one_mul] at this
   exact this
 have hcell':∀ j,j<cg'.length→cur'[0+k*Rep.size α+j]?=cg'[j]?:=by
   intro j hj
   have:=rg' j cg'[j] (by simp [hj])
   simpa [World.cell?,hcur',hj] using this
 have hpos:=Rep.pos (α:=α)
 have hsz':cur'.size=cur.size:=by
   rcases Nat.lt_trichotomy cur'.size cur.size with h | h | h
   · exfalso
     rcases Nat.lt_or_ge cur'.size (k*Rep.size α+Rep.size α) with h' | h'
     · have:=hcell' (Rep.size α-1) (by omega)
       rw [List.getElem?_eq_getElem (by omega)] at this
       have:=(Array.getElem?_eq_some_iff.1 this).1
       omega
     have:=hsame cur'.size (.inr (by omega))
     rw [Array.getElem?_eq_none (Nat.le_refl _),Array.getElem?_eq_getElem h] at this
     cases this
   · exact h
   exfalso
   have:=hsame cur.size (.inr (by omega))
   rw [Array.getElem?_eq_none (Nat.le_refl _),Array.getElem?_eq_getElem h] at this
   cases this
 have hlset:(l.set k y').length=l.length:=by simp
 refine ⟨g :: (F1++(G'++F2)),⟨.inr ⟨x1++(cg'++x2),F1++(G'++F2),⟨?_,.inr ⟨g,cap,cur',by rw [hlset],hb0,hcur',by rw [hlset];exact h1,h2,by rw [hsz'];exact h3,?_⟩⟩,?_,rfl,?_⟩,zjG hn' hnG' hs⟩,?_⟩
 · rw [hlset]
   simp only [List.length_append] at hlx ⊢
   omega
 · rw [hlset]
   apply List.ext_getElem?
   intro j
   have hjx:(cur.toList.take (l.length*Rep.size α))[j]?=(x1++(cg++x2))[j]?:=by rw [h4]
   rcases Nat.lt_or_ge j (l.length*Rep.size α) with hj | hj
   · rw [List.getElem?_take,if_pos hj] at hjx ⊢
     rcases Nat.lt_or_ge j (k*Rep.size α) with h' | h'
     · rw [Array.getElem?_toList,hsame j (.inl (by omega)),←Array.getElem?_toList,hjx,List.getElem?_append_left (by omega),List.getElem?_append_left (by omega)]
     rcases Nat.lt_or_ge j (k*Rep.size α+Rep.size α) with h'' | h''
     · rw [Array.getElem?_toList,List.getElem?_append_right (by omega),List.getElem?_append_left (by omega),hl1,←hcell' (j-k*Rep.size α) (by omega)]
       congr 1
       omega
     rw [Array.getElem?_toList,hsame j (.inr (by omega)),←Array.getElem?_toList,hjx,List.getElem?_append_right (by omega),List.getElem?_append_right (by omega),List.getElem?_append_right (by omega),List.getElem?_append_right (by omega),hlg,hlg']
   rw [List.getElem?_take,if_neg (by omega),List.getElem?_eq_none]
   simp only [List.length_append] at hlx ⊢
   omega
 · have:l.set k y'=l.take k++(y' :: l.drop (k+1)):=by rw [List.set_eq_take_append_cons_drop];simp [hk]
   rw [this]
   exact Cells.append (Cells.keep c1 keep1) ⟨G',F2,cg',x2,rfl,rfl,hg',Cells.keep c2 keep2⟩
 · exact ((hwi.sub (by simp +contextual)).keep keep1).append (hwG'.append ((hwi.sub (by simp +contextual)).keep keep2))
 intro c hcm
 rcases List.mem_cons.1 hcm with rfl | hcm
 · exact .inl (by simp)
 rcases List.mem_append.1 hcm with hcm | hcm
 · exact .inl (by simp [hcm])
 rcases List.mem_append.1 hcm with hcm | hcm
 · exact .inr hcm
 exact .inl (by simp [hcm])
theorem Lens.elemV {H:List Nat→World→γ→Prop} {S:List Nat} {b o:Nat} {G:List Nat} {x:RV β e} {upd:RV β e→γ} (h:Lens H S w b o G x upd) {k:Nat} (hk:k<x.l.length) :
   ∃ b2 a cap G2,x.v=.slice (some ⟨b2,a,none⟩) x.l.length cap∧(∀ c∈b2 :: G2,c∈G)∧Lens H S w b2 (a+k*Rep.size β) G2 x.l[k] (fun y=>upd ⟨x.v,x.l.set k y⟩):=by
 obtain ⟨⟨cs,⟨rfl,hrow⟩,hr,hn,hw,hb,hwb⟩,hsub,hback⟩:=h
 obtain ⟨b2,a,cap,G2,hu,hL⟩:=zqM hrow hn hk
 have hG:∀ c∈G,c∈S:=fun c hc=>hsub c (by simp [hc])
 refine ⟨b2,a,cap,G2,hu,hL.sub,hL.here,fun c hc=>hG c (hL.sub c hc),fun w' G' y' hch hO hs=>?_⟩
 obtain ⟨F1,⟨hR1,hN1⟩,hF1⟩:=hL.back w' G' y' hch hO fun c hc=>by
   rcases hs c hc with h | h
   · exact .inl h
   exact .inr fun e=>h (hG c e)
 have hchG:Chg G w w':=hch.chg.mono hL.sub
 have hbl:b<w.heap.size:=by obtain ⟨c,e,h⟩:=hwb;exact (Array.getElem?_eq_some_iff.1 h).1
 have hbk:w'.heap[b]?=w.heap[b]?:=hchG.block b hbl hb
 have hs1:∀ c∈F1,c∈G∨c∉S:=fun c hc=>by
   rcases hF1 c hc with h | h
   · exact .inl h
   rcases hs c h with h | h
   · exact .inl (hL.sub c (by simp [h]))
   exact .inr h
 have hbF1:b∉F1:=fun hm=>by
   rcases hs1 b hm with h | h
   · exact hb h
   exact h (hsub b (by simp))
 obtain ⟨F',hM',hF'⟩:=hback w' F1 ⟨x.v,x.l.set k y'⟩ ⟨hchG.mono (by simp +contextual),fun c e hc=>⟨c,by rw [hbk];exact hc,fun _ _=>rfl⟩⟩
   ⟨[x.v],⟨rfl,hR1⟩,zaN hr hbk,hN1,hR1.wr,hbF1,by obtain ⟨c,e,h⟩:=hwb;exact ⟨c,e,by rw [hbk];exact h⟩⟩ hs1
 refine ⟨F',hM',fun c hc=>?_⟩
 rcases hF' c hc with h | h
 · exact .inl h
 rcases hF1 c h with h | h
 · exact .inl (hG c h)
 exact .inr h
theorem zl2 {t te:TypeId} {by_:Nat} {H:List Nat→World→γ→Prop} {S:List Nat} {b o:Nat} {G:List Nat} {x:RV β e} {upd:RV β e→γ} {k:Nat} {K:Value→Prop} (ht:P.underlying t=some (.slice te)) (he:tyI P te=some (Rep.size β,by_,Rep.agg β)) (h:Lens H S w b o G x upd) (hk:k<x.l.length)
   (kk:∀ b2 o2 G2,Lens H S w b2 o2 G2 x.l[k] (fun y=>upd ⟨x.v,x.l.set k y⟩)→K (.pointer (some ⟨b2,o2,none⟩))):RD P (Instr.indexAt t x.v (.int .i64 (k:Int))) w K:=by
 obtain ⟨b2,a,cap,G2,hv,_,hL⟩:=h.elemV hk
 refine zbb (v:=.pointer (some ⟨b2,a+k*Rep.size β,none⟩)) (fun w' _=>?_) (kk _ _ _ hL)
 rw [hv,zbz ht he (by omega) (by omega)];simp
instance:RepZ (RV α e):=⟨⟨.slice none 0 0,[]⟩,[.slice none 0 0],fun _=>⟨rfl,.inl ⟨none,rfl,rfl,rfl⟩⟩⟩
end
end Go.Sh
namespace Go.Sh
open Rep (rep)
structure Raw where
 v:Value
instance:Rep Raw where
 size:=1
 agg:=false
 rep F _ cs x:=F=[]∧cs=[x.v]∧x.v.oneCell'=true
 pos:=by decide
 sz _:=rfl
 len:=by rintro _ _ _ _ ⟨_,rfl,_⟩;rfl
 one:=by rintro _ _ _ _ ⟨_,rfl,h⟩ v hv;simp at hv;subst hv;exact h
 keep:=by rintro _ _ _ _ _ h _;exact h
 lt:=by rintro _ _ _ _ ⟨rfl,_⟩ b hb;cases hb
section
variable {P:Program} {w w0 w' w1:World} {α β γ:Type} [Rep α] [Rep β] {e lo hi:Nat} {v:Value} {F G S:List Nat} {b o g:Nat}
theorem ChgAt.ext_left {n:Nat} (hx:Ext w w1) (h:ChgAt b o n G w1 w'):ChgAt b o n G w w':=
 ⟨(hx.chg _).trans h.chg,fun c e hc=>h.cell c e (by rw [hx.heap (Array.getElem?_eq_some_iff.1 hc).1];exact hc)⟩
theorem OAt.ext {x:α} (h:OAt G w b o x) (hx:Ext w w1):OAt G w1 b o x:=h.keep fun c hc=>hx.heap (h.lts c hc)
theorem Lens.ext {H:List Nat→World→γ→Prop} {y:β} {upd:β→γ} (h:Lens H S w b o G y upd) (hx:Ext w w1):Lens H S w1 b o G y upd:=
 ⟨h.here.ext hx,h.sub,fun w' G' y' hch hO hs=>h.back w' G' y' (hch.ext_left hx) hO hs⟩
theorem zbI {ft by_:Nat} {u:Value} {K:Value→Prop} (hft:tyI P ft=some (1,by_,false)) (hr:w.rangeAt b o [u]) (k:K u):RD P (Instr.loadAt ft (.pointer (some ⟨b,o,none⟩))) w K:=by
 refine zbb (fun w' hx'=>?_) k
 have h0:w'.cell? ⟨b,o,none⟩=some u:=by simpa using (zbj hr hx') 0 u rfl
 have hA:=zeA hft w'
 simp [Instr.loadAt,Instr.sureAddr,loadVar,hA,h0]
theorem zg8 {t by_:Nat} {u old:Value} {K:World→Prop} (ht:tyI P t=some (1,by_,false)) (hw:∃ c e,w.heap[b]?=some (.cells c e (0,0))) (hr:w.rangeAt b o [old]) (ho:old.oneCell'=true) (hu:u.oneCell'=true)
   (k:∀ w',ChgAt b o 1 [] w w'→w'.rangeAt b o [u]→K w'):OPU P (Instr.storeAt t (.pointer (some ⟨b,o,none⟩)) u) w K:=by
 refine zlJ (β:=Raw) (G:=[]) (y:=⟨old⟩) (y':=⟨u⟩) (G':=[]) ht ⟨[old],⟨rfl,rfl,ho⟩,hr,List.nodup_nil,Wr.nil w,by simp,hw⟩ ⟨[u],⟨rfl,rfl,hu⟩,rfl⟩ List.nodup_nil (Wr.nil w) (by simp) fun w' hc hO=>k w' hc ?_
 obtain ⟨cs,⟨_,rfl,_⟩,hr',_⟩:=hO
 exact hr'
theorem zdL {t by_:Nat} {y y':β} {upd:β→α} {u:Value} {K:World→Prop} (ht:tyI P t=some (Rep.size β,by_,Rep.agg β)) (hL:Lens (VH g) (g :: F) w b o G y upd) (hF:∀ b∈F,lo≤b∧b<hi) (hg:lo≤g∧g<hi) (hu:Mine [] w u y')
   (k:∀ w',ChgI lo hi w w'→VarI lo hi w' g (upd y')→K w'):OPU P (Instr.storeAt t (.pointer (some ⟨b,o,none⟩)) u) w K:=by
 refine zgZ ht hL hu (by simp) fun w' hc ⟨F',h1,h2⟩=>k w' (hc.toI fun c hcm=>?_) ⟨F',h1,fun c hcm=>?_⟩
 · rcases List.mem_cons.1 hcm with rfl | hcm
   · exact hg
   exact hF c hcm
 rcases h2 c hcm with h | h
 · rcases List.mem_cons.1 h with rfl | h
   · obtain ⟨_,_,_,_,_,hn,_⟩:=h1;exact absurd hcm hn
   exact hF c h
 simp at h
theorem VarI.mono {lo' hi':Nat} {x:α} (h:VarI lo hi w g x) (h1:lo'≤lo) (h2:hi≤hi'):VarI lo' hi' w g x:=by
 obtain ⟨F,h,hF⟩:=h;exact ⟨F,h,fun b hb=>by have:=hF b hb;omega⟩
theorem zl3:∀ {l:List (RV α e)} {F:List Nat} {xs:List Value},Cells F w xs l→Cells F w xs (l.map RV.l)
 | [],_,_,h=>h
 | x :: l,_,_,⟨F1,F2,c1,c2,hF,h,⟨hc,h1⟩,h2⟩=>by
   obtain ⟨cs,hr,hv⟩:=h1.own
   have:cs=[x.v]:=by
     obtain ⟨a,cap,Fi,xs,rfl,_⟩:=hr
     rw [hv];rfl
   subst this
   exact ⟨F1,F2,c1,c2,hF,h,by rw [hc];exact hr,zl3 h2⟩
theorem zpv {e2:TypeId} {cs:List Value} {x:RV (RV α e) e2} (h:rep F w cs x):rep F w cs (x.l.map RV.l):=by
 obtain ⟨rfl,h⟩:=h
 obtain ⟨cs,⟨a,cap,Fi,xs,rfl,h1,h2,hc,h4⟩,hv⟩:=h.own
 have hvv:x.v=.slice a x.l.length cap:=hv
 rw [hvv]
 refine ⟨a,cap,Fi,xs,by simp,by simpa using h1,h2,zl3 hc,?_⟩
 rcases h4 with ⟨h4,h5⟩ | h4
 · exact .inl ⟨by simp [h4],h5⟩
 exact .inr h4
theorem zdn {t ty:TypeId} {by_:Nat} {u:Value} {x:β} {l:List β} {GX:List Nat} {K:World→Value→World→Prop} {C:Value→World→Prop} (ht:P.underlying t=some (.slice e)) (he:tyI P e=some (Rep.size β,by_,Rep.agg β)) (hz:zbQ P e=true)
   (hzc:(P.info? e).map (fun i=>(i.zero.map (·.cells.size)))=some (some (Rep.size β))) (hsz:Rep.size β≤1000) (hv:RowG G e w v l) (hn:G.Nodup) (hx:Mine GX w u x) (hd:∀ c∈GX,c∉G) (hm:l.length+1≤maxLen) (hb:(l.length+1)*by_≤140737488355328)
   (k:∀ w1 v' w' G',Ext w w1→Chg G w1 w'→RowG G' e w' v' (l++[x])→G'.Nodup→(∀ c∈G',c∈G∨c∈GX∨w.heap.size≤c)→K w1 v' w')
   (hC:∀ s w1,Ext w w1→OP P (Builtin.append_ #[t,t] ty [v,s].toArray) w1 (K w1)→C s w1):OP P (Instr.buildSlice t 1 #[(0,u)]) w C:=by
 refine zfM ht he hz hsz hx fun w1 hx1 hm1=>?_
 obtain ⟨⟨cs,⟨a,cap,Fi,xs,rfl,h1,h2,hc,h4⟩,hveq⟩,hn1,hw1⟩:=hm1
 simp only [mkv,Rep.agg,cond_false,List.headD_cons,Value.slice.injEq,List.length_cons,List.length_nil] at hveq
 obtain ⟨rfl,_,rfl⟩:=hveq
 rcases h4 with ⟨h4,_⟩ | ⟨b,o,hab,hFe,hra,hbl⟩
 · simp at h4
 simp only [List.cons.injEq] at hFe
 obtain ⟨_,rfl⟩:=hFe
 refine hC _ w1 hx1 ?_
 have key:∀ (v:Value) (F:List Nat),RowF F e w v l→F.Nodup→(∀ c∈F,c∈G)→OP P (Builtin.append_ #[t,t] ty [v,.slice (some ⟨w.heap.size,0,none⟩) 1 1].toArray) w1 (K w1):=by
   intro v F hF hFn hFG
   have hF1:=hF.ext hx1
   have hdd:(GX++F).Nodup:=by
     rw [List.nodup_append]
     exact ⟨hx.nodup,hFn,fun p hp q hq e=>hd p hp (hFG _ (e▸hq))⟩
   refine zdY (m:=[x]) ht he hzc hF1 hFn rfl hc (.inr ⟨b,o,hab,hra⟩) (hw1.sub (by simp +contextual)) hdd (by simpa using hm) (by simpa using hb) fun v' w' F' hch hfull hr' hn' hs'=>?_
   have hown:∀ c∈v.ownBlock.toList,c∈G:=fun c hc=>by
     obtain ⟨xs,Fi,_,_,rfl,_⟩:=hF
     exact hFG c (by simp only [List.mem_append];exact .inl hc)
   refine k w1 v' w' F' hx1 (hch.mono hown) (.inr hr') hn' fun c hc=>?_
   rcases hs' c hc with h | h | h
   · exact .inl (hFG c h)
   · exact .inr (.inl h)
   exact .inr (.inr (Nat.le_trans hx1.size h))
 rcases hv with ⟨a0,rfl,rfl,rfl⟩ | hF
 · have kn:=key (.slice none 0 0) [] (zfL e w) List.nodup_nil (by simp)
   cases a0 with
   | none=>exact kn
   | some x0=>
     simp only [Option.some.injEq,Addr.mk.injEq] at hab
     obtain ⟨rfl,rfl,_⟩:=hab
     exact zg1 (zei (α:=β) (n:=1) ht he hzc (by simpa using Cells.len hc) hra (by omega) (by rw [zak];omega) (by simpa using hb)) kn
 exact key v G hF hn (fun _ h=>h)
theorem zeb {t by_:Nat} {x:RV β e} {upd:RV β e→α} {w2:World} {v':Value} {l':List β} {G':List Nat} {K:World→Prop} (ht:tyI P t=some (1,by_,false)) (hL:Lens (VH g) (g :: F) w b o G x upd) (hlt:∀ c∈g :: F,c<w.heap.size) (hc:Chg G w w2)
   (hR:RowG G' e w2 v' l') (hN:G'.Nodup) (hs:∀ c∈G',c∈G∨w.heap.size≤c)
   (k:∀ w3,Chg (b :: G) w w3→(∃ F',OAt F' w3 g 0 (upd ⟨v',l'⟩)∧∀ c∈F',c∈g :: F∨w.heap.size≤c)→K w3):OPU P (Instr.storeAt t (.pointer (some ⟨b,o,none⟩)) v') w2 K:=by
 obtain ⟨cs,⟨rfl,hrow⟩,hr,hn,hw,hb,hwb⟩:=hL.here
 have hbl:b<w.heap.size:=hlt b (hL.sub b (by simp))
 have hbk:w2.heap[b]?=w.heap[b]?:=hc.block b hbl hb
 have hwb2:∃ c e,w2.heap[b]?=some (.cells c e (0,0)):=by obtain ⟨c,e,h⟩:=hwb;exact ⟨c,e,by rw [hbk];exact h⟩
 have hbG':b∉G':=fun hm=>by
   rcases hs b hm with h | h
   · exact hb h
   omega
 refine zg8 ht hwb2 (zaN hr hbk) hrow.one hR.one fun w3 hc3 hr3=>?_
 have hcat:ChgAt b o 1 G w w3:=by
   refine ⟨(hc.mono (by simp +contextual)).trans (hc3.chg.mono (by simp +contextual)),fun c e hcc=>?_⟩
   obtain ⟨c',h1,h2⟩:=hc3.cell c e (by rw [hbk];exact hcc)
   exact ⟨c',h1,h2⟩
 have hkeep:∀ c∈G',w3.heap[c]?=w2.heap[c]?:=fun c hcm=>hc3.chg.block c (hR.lt c hcm) (by simp;exact fun e=>hbG' (e▸hcm))
 obtain ⟨c',e',hc'⟩:=hwb2
 obtain ⟨c'',hc'',_⟩:=hc3.cell c' e' hc'
 obtain ⟨F',h1,h2⟩:=hL.back w3 G' ⟨v',l'⟩ hcat ⟨[v'],⟨rfl,hR.keep hkeep⟩,hr3,hN,(hR.keep hkeep).wr,hbG',c'',e',hc''⟩ fun c hcm=>by
   rcases hs c hcm with h | h
   · exact .inl h
   exact .inr fun hm=>by have:=hlt c hm;omega
 refine k w3 hcat.chg ⟨F',h1,fun c hcm=>?_⟩
 rcases h2 c hcm with h | h
 · exact .inl h
 rcases hs c h with h | h
 · exact .inl (hL.sub c (by simp [h]))
 exact .inr h
theorem ze2 {t:TypeId} {by_:Nat} {u:Value} {x:β} {K:Value→World→Prop} (ht:P.underlying t=some (.slice e)) (he:tyI P e=some (Rep.size β,by_,Rep.agg β)) (hz:zbQ P e=true) (hsz:Rep.size β≤1000) (hx:Mine [] w u x)
   (k:∀ v w',Ext w w'→RowI w.heap.size w'.heap.size e w' v [x]→K v w'):OP P (Instr.buildSlice t 1 #[(0,u)]) w K:=by
 obtain ⟨⟨cs,hr,rfl⟩,hn,hw⟩:=hx
 have hcl:=zcX hr
 have hlen:=Rep.len hr
 have hvs:(mkv β cs).cells.size=Rep.size β:=by rw [←Array.length_toList,hcl,hlen]
 obtain ⟨i,d,hi,hd,hs,hby,hg⟩:=zcf he
 unfold zbQ at hz
 rw [hi] at hz
 obtain ⟨z,hz⟩:=Option.isSome_iff_exists.1 hz
 have hpos:=Rep.pos (α:=β)
 refine ⟨_,w.alloc (.cells (mkv β cs).cells e),?_,k (.slice (some ⟨w.heap.size,0,none⟩) 1 1) _ (zaL w _) (.inr ⟨[w.heap.size],⟨cs,[],⟨by simp [hlen],.inr ⟨w.heap.size,1,(mkv β cs).cells,rfl,Nat.zero_le _,heap_alloc_new w _,Nat.le_refl _,by rw [zak];omega,by rw [hvs,Nat.one_mul],?_⟩⟩,Cells.single (zbw hr (zaL w _)),rfl,Wr.nil _⟩,by simp,?_⟩)⟩
 · have hne:¬Rep.size β=0:=by omega
   have h24:¬2^24<Rep.size β:=by omega
   simp only [Instr.buildSlice,Sem.run_bind,run_underlying ht,Result.andThen_ok,zaE he,Nat.one_mul]
   simp [h24,hne,zeroValue,typeInfo,hi,hz,zi0 _ _ _ hvs,newRow]
 · rw [hcl,List.length_singleton,Nat.one_mul,List.take_of_length_le (by omega)]
 intro b hb
 simp only [List.mem_cons,List.not_mem_nil,or_false] at hb
 subst hb
 exact ⟨Nat.le_refl _,(Array.getElem?_eq_some_iff.1 (heap_alloc_new w _)).1⟩
theorem Ext.toX {X:Nat→Prop} (h:Ext w w'):ExtX X w w':=⟨h.os,h.tape,h.output,h.size,fun b hb _=>h.block b hb⟩
theorem Chg.toX {X:Nat→Prop} (h:Chg G w w') (hX:∀ c∈G,X c):ExtX X w w':=⟨h.os,h.tape,h.output,h.size,fun b hb hn=>h.block b hb fun hm=>hn (hX b hm)⟩
theorem zcF {X:Nat→Prop} {m:Sem Value} {K:Value→Prop} (hX:∀ b,X b→w0.heap.size≤b) (hx:Ext w0 w) (h:RD P m w0 K):RDX P X m w K:=by
 obtain ⟨v,h1,h2⟩:=h
 exact ⟨v,fun w' hw=>h1 w' ⟨hw.os.trans hx.os,hw.tape.trans hx.tape,hw.output.trans hx.output,Nat.le_trans hx.size hw.size,fun b hb=>(hw.block b (Nat.lt_of_lt_of_le hb hx.size) fun hXb=>by have:=hX b hXb;omega).trans (hx.block b hb)⟩,h2⟩
theorem zcP {X:Nat→Prop} {t i off:Nat} {K:Value→Prop} (hf:zdO P t i=some off) (k:K (.pointer (some ⟨b,o+off,none⟩))):RDX P X (Instr.fieldAt t (.pointer (some ⟨b,o,none⟩)) i) w K:=by
 obtain ⟨v,h1,h2⟩:=zaa (P:=P) (w:=w) (K:=fun v=>∀ w':World,(Instr.fieldAt t (.pointer (some ⟨b,o,none⟩)) i).run P w'=.ok v w'∧v=.pointer (some ⟨b,o+off,none⟩)) hf (fun w'=>by
   obtain ⟨v,h1,h2⟩:=zaa (P:=P) (w:=w') (b:=b) (o:=o) (K:=fun v=>v=.pointer (some ⟨b,o+off,none⟩)) hf rfl
   subst h2
   exact ⟨h1 w' (Ext.refl w'),rfl⟩)
 refine ⟨v,fun w' _=>(h2 w').1,?_⟩
 rw [(h2 w).2];exact k
theorem zdo {X:Nat→Prop} {ft by_:Nat} {u:Value} {K:Value→Prop} (hft:tyI P ft=some (1,by_,false)) (hr:w.rangeAt b o [u]) (hX:¬X b) (k:K u):RDX P X (Instr.loadAt ft (.pointer (some ⟨b,o,none⟩))) w K:=by
 refine ⟨u,fun w' hx'=>?_,k⟩
 have hb:=zgc hr (by simp)
 have h0:w'.cell? ⟨b,o,none⟩=some u:=by simpa using (zaN hr (hx'.block b hb hX)) 0 u rfl
 have hA:=zeA hft w'
 simp [Instr.loadAt,Instr.sureAddr,loadVar,hA,h0]
theorem znX {x:Int} (h:At w b o x):w.rangeAt b o [.int .i64 x]:=by
 obtain ⟨F,cs,⟨_,rfl,_⟩,hr⟩:=h
 exact hr
end
end Go.Sh
namespace Go.Sh
open Rep (rep)
theorem ChgI.toC {g:Nat} {w w':World} (h:ChgI g (g+1) w w'):Chg [g] w w':=⟨h.os,h.tape,h.output,h.size,fun i hi hn=>h.block i hi (by simp only [List.mem_singleton] at hn;omega)⟩
theorem Ext.chgL {F:List Nat} {W w w':World} (h:Ext W w) (k:Chg F w w') (hl:∀ c∈F,W.heap.size≤c):Ext W w':=
 ⟨k.os.trans h.os,k.tape.trans h.tape,k.output.trans h.output,Nat.le_trans h.size k.size,fun i hi=>(k.block i (Nat.lt_of_lt_of_le hi h.size) fun e=>by have:=hl i e;omega).trans (h.block i hi)⟩
theorem Mine.chgF {α:Type} [Rep α] {F G:List Nat} {w w':World} {v:Value} {x:α} (h:Mine F w v x) (hc:Chg G w w') (hd:∀ c∈F,c∉G):Mine F w' v x:=h.keep fun c hcm=>hc.block c (h.lt c hcm) (hd c hcm)
def IsK {α:Type} [Rep α] (lo hi:Nat) (w:World) (v:Value) (x:α):Prop:=hi≤w.heap.size∧∀ w':World,(∀ b,lo≤b→b<hi→w'.heap[b]?=w.heap[b]?)→Is w' v x
section
variable {α:Type} [Rep α] {lo hi:Nat} {w w':World} {v:Value} {x:α}
theorem IsK.is (h:IsK lo hi w v x):Is w v x:=h.2 w fun _ _ _=>rfl
theorem IsK.chgF {G:List Nat} (h:IsK lo hi w v x) (hc:Chg G w w') (hd:∀ c∈G,c<lo∨hi≤c):IsK lo hi w' v x:=
 ⟨Nat.le_trans h.1 hc.size,fun w2 h2=>h.2 w2 fun b h3 h4=>(h2 b h3 h4).trans (hc.block b (Nat.lt_of_lt_of_le h4 h.1) fun hm=>by have:=hd b hm;omega)⟩
theorem OwnI.isK (h:OwnI lo hi w v x) (hh:hi≤w.heap.size):IsK lo hi w v x:=by
 obtain ⟨F,hm,hF⟩:=h
 exact ⟨hh,fun w' hw=>⟨F,by
   obtain ⟨cs,hr,hv⟩:=hm.own
   exact ⟨cs,Rep.keep hr fun b hb=>hw b (hF b hb).1 (hF b hb).2,hv⟩⟩⟩
theorem IsK.take {l:List α} {a:Option Addr} {cap k:Nat} (h:IsK lo hi w (.slice a l.length cap) l) (hk:k≤l.length):IsK lo hi w (.slice a k cap) (l.take k):=⟨h.1,fun w' hw=>zk3 (h.2 w' hw) k hk⟩
theorem IsK.drop {l:List α} {a:Option Addr} {cap k:Nat} (h:IsK lo hi w (.slice a l.length cap) l) (hk:k≤l.length):IsK lo hi w (.slice (if cap=k then a else a.map (·.add (k*Rep.size α))) (l.length-k) (cap-k)) (l.drop k):=⟨h.1,fun w' hw=>zkP (h.2 w' hw) k hk _ rfl⟩
end
end Go.Sh
namespace Go.Proofs.YtbnjpfjjmhodnaaGreat
open Go Go.Sh Go.Proofs
open Rep (rep)
def F201 (a0 a1 a2:Value) (w:World) (R:VW):Prop:=
 LOOPI [7] [(iV 0)] w fun u2 w next2=>
 rN 162 3 a1 w fun x10=>
 rC (u2 7) x10 w fun x11=>
 BR x11
 (JOIN [] (fun J6=>
 rX 162 a1 (u2 7) w fun x16=>
 rF 209 x16 0 w fun x17=>
 rL 3 x17 w fun x18=>
 rB .eql 3 T0 U0 x18 (iV 4) w fun x19=>
 BR x19
 (rN 24 3 a2 w fun x33=>
 cL 71 [a0,x33] w fun x34 w=>
 rX 24 a2 x34 w fun x35=>
 rL 9 x35 w fun x36=>
 rX 162 a1 (u2 7) w fun x37=>
 rF 209 x37 1 w fun x38=>
 oS 9 x38 x36 w fun w=>
 J6 [] w)
 (rX 162 a1 (u2 7) w fun x23=>
 rF 209 x23 0 w fun x24=>
 rL 3 x24 w fun x25=>
 rB .eql 3 T0 U0 x25 (iV 5) w fun x26=>
 BR x26
 (rN 24 3 a2 w fun x33=>
 cL 71 [a0,x33] w fun x34 w=>
 rX 24 a2 x34 w fun x35=>
 rL 9 x35 w fun x36=>
 rX 162 a1 (u2 7) w fun x37=>
 rF 209 x37 1 w fun x38=>
 oS 9 x38 x36 w fun w=>
 J6 [] w)
 (J6 [] w))) (fun u6 w=>
 rX 162 a1 (u2 7) w fun x44=>
 rF 209 x44 3 w fun x45=>
 rL 162 x45 w fun x46=>
 cL 201 [a0,x46,a2] w fun x48 w=>
 rX 162 a1 (u2 7) w fun x49=>
 rF 209 x49 3 w fun x50=>
 oS 162 x50 x48 w fun w=>
 rX 162 a1 (u2 7) w fun x56=>
 rF 209 x56 4 w fun x57=>
 rL 162 x57 w fun x58=>
 cL 201 [a0,x58,a2] w fun x60 w=>
 rX 162 a1 (u2 7) w fun x61=>
 rF 209 x61 4 w fun x62=>
 oS 162 x62 x60 w fun w=>
 rA (u2 7) (iV 1) w fun x13=>
 next2 [x13] w))
 (R a1 w)
def cfg201:Cfg:=⟨extL,[(6,549755797504,[])],[(2,9223372036854775680,[7])],[],[],[],[]⟩
theorem F201_call {a0 a1 a2:Value} {w:World} {R:VW} (h:F201 a0 a1 a2 w R):cL 201 [a0,a1,a2] w R:=co (g:=cfg201) Tryz.func201 (by kernel_rfl) (by kernel_rfl) (by kernel_rfl) h
theorem CurAt.chgF {W w w':World} {g:Nat} {bs:List UInt8} {s:Cur} {F:List Nat} (h:CurAt W g bs s w) (hc:Chg F w w') (hg:g∉F) (hl:∀ c∈F,W.heap.size≤c):CurAt W g bs s w':=by
 obtain ⟨v,h0,hx,h2,h3,h4⟩:=h
 exact ⟨v,h0,hx.chgL hc hl,h2,h3.chg hc hg,h4⟩
theorem zl4 {a:Prop} [Decidable a] {Q kt kf:Prop} (hq:a→Q) (key:Q→kt) (rest:(Q→kt)→¬a→kf):BR (.bool (decide a)) kt kf:=br (fun h=>key (hq h)) fun h=>rest key h
theorem zp3 {γ β:Type} [Rep γ] [Rep β] {w w2:World} {v u:Value} {F G G2:List Nat} {g:Nat} {m2:List β} {upd:List β→γ}
   (hb:∀ w' G' l',Chg G w w'→Mine G' w' u l'→(∀ c∈G',c∈G∨c∉F)→∃ F',MH v F' w' (upd l')∧∀ c∈F',c∈F∨c∈G') (hGF:∀ c∈G,c∈F) (hc:Chg (g :: G) w w2) (hg:g∉F) (hgl:g<w.heap.size)
   (hM2:Mine G2 w2 u m2) (hs:∀ c∈G2,c∈G):∃ F',Mine F' w2 v (upd m2)∧∀ c∈F',c∈F:=by
 obtain ⟨w3,h3⟩:∃ w3:World,w3={ w2 with heap:=w2.heap.setIfInBounds g w.heap[g] }:=⟨_,rfl⟩
 have hgl2:g<w2.heap.size:=Nat.lt_of_lt_of_le hgl hc.size
 have hne:∀ c,c≠g→w3.heap[c]?=w2.heap[c]?:=fun c hcg=>by
   rw [h3];exact Array.getElem?_setIfInBounds_ne (fun e=>hcg e.symm)
 have heq:w3.heap[g]?=w.heap[g]?:=by
   rw [h3]
   show (w2.heap.setIfInBounds g w.heap[g])[g]?=_
   rw [Array.getElem?_setIfInBounds_self_of_lt hgl2,Array.getElem?_eq_getElem hgl]
 have hsz:w3.heap.size=w2.heap.size:=by rw [h3];simp
 have hc3:Chg G w w3:=⟨by rw [h3];exact hc.os,by rw [h3];exact hc.tape,by rw [h3];exact hc.output,by rw [hsz];exact hc.size,fun c hcl hcG=>by
   by_cases e:c=g
   · rw [e];exact heq
   rw [hne c e];exact hc.block c hcl (by simp [e,hcG])⟩
 have hgG2:∀ c∈G2,c≠g:=fun c hcm e=>hg (by rw [←e];exact hGF c (hs c hcm))
 obtain ⟨F',h1,h2⟩:=hb w3 G2 m2 hc3 (hM2.keep fun c hcm=>hne c (hgG2 c hcm)) fun c hcm=>.inl (hs c hcm)
 have hF':∀ c∈F',c∈F:=fun c hcm=>(h2 c hcm).elim id fun h=>hGF c (hs c h)
 refine ⟨F',Mine.keep h1 fun c hcm=>(hne c fun e=>hg (by rw [←e];exact hF' c hcm)).symm,hF'⟩
theorem zj6 {P:Program} {w:World} {α:Type} [Rep α] {t e:TypeId} {by_:Nat} {F:List Nat} {v:Value} {l:List α} {k:Nat} {K:Value→Prop} (ht:P.underlying t=some (.slice e)) (he:tyI P e=some (Rep.size α,by_,Rep.agg α)) (hm:Mine F w v l) (hk:k<l.length)
   (kk:∀ b a cap G,v=.slice (some ⟨b,a,none⟩) l.length cap→Lens (MH v) F w b (a+k*Rep.size α) G l[k] (fun y=>l.set k y)→K (.pointer (some ⟨b,a+k*Rep.size α,none⟩))):RD P (Instr.indexAt t v (.int .i64 (k:Int))) w K:=by
 obtain ⟨b,a,cap,G,hv,hL⟩:=zpP hm hk
 refine zbb (v:=.pointer (some ⟨b,a+k*Rep.size α,none⟩)) (fun w' _=>?_) (kk _ _ _ _ hv hL)
 rw [hv,zbz ht he (by omega) (by omega)];simp
theorem zjf {α:Type} {D r:List α} {x y:α} {k:Nat} (h:D.length=k):(D++x :: r).set k y=D++y :: r:=by
 subst h;rw [List.set_append_right _ _ (Nat.le_refl _)];simp
theorem zgw {α:Type} {D r:List α} {x:α} {k:Nat} (h:D.length=k) (hk:k<(D++x :: r).length):(D++x :: r)[k]=x:=by
 subst h;simp
def zlf (l:List DStmt):Prop:=∀ {W w:World} {g:Nat} {bs:List UInt8} {s:Cur} {v vp:Value} {F:List Nat} {lp hp:Nat} {pr:List ByteArray},CurAt W g bs s w→Mine F w v l→g∉F→(∀ c∈F,W.heap.size≤c)→IsK lp hp w vp pr→(g<lp∨hp≤g)→(∀ c∈F,c<lp∨hp≤c)→0<pr.length→pr.length≤1000 →
 CALL Tryz.prog 201 [.pointer (some ⟨g,0,none⟩),v,vp] w fun r w'=>r=v∧Chg (g :: F) w w'∧CurAt W g bs (zdm bs pr l s).2 w'∧∃ F',Mine F' w' v (zdm bs pr l s).1∧∀ c∈F',c∈F
theorem znY {fld off:Nat} {sel:DStmt→List DStmt} {put:DStmt→List DStmt→DStmt} (hfd:zdO Tryz.prog 209 fld=some off) (hpp:∀ x m m',put (put x m) m'=put x m') (hsp:∀ x m,sel (put x m)=m)
   (hl:∀ {H:List Nat→World→List DStmt→Prop} {F:List Nat} {w:World} {b o:Nat} {G:List Nat} {x:DStmt} {upd:DStmt→List DStmt},Lens H F w b o G x upd→∃ G1,Lens H F w b (o+off) G1 (sel x) (fun y=>upd (put x y)))
   {W w:World} {g k:Nat} {bs:List UInt8} {s:Cur} {v vp:Value} {F:List Nat} {lp hp:Nat} {pr:List ByteArray} {D r:List DStmt} {y:DStmt} {K:World→Prop} (hC:CurAt W g bs s w) (hM:Mine F w v (D++y :: r)) (hD:D.length=k) (hgF:g∉F) (hFW:∀ c∈F,W.heap.size≤c)
   (hP:IsK lp hp w vp pr) (hgP:g<lp∨hp≤g) (hFP:∀ c∈F,c<lp∨hp≤c) (hp0:0<pr.length) (hp1:pr.length≤1000) (ih:zlf (sel y))
   (kk:∀ w' F',Chg (g :: F) w w'→CurAt W g bs (zdm bs pr (sel y) s).2 w'→Mine F' w' v (D++put y (zdm bs pr (sel y) s).1 :: r)→(∀ c∈F',c∈F)→IsK lp hp w' vp pr→K w') :
   RD Tryz.prog (Instr.indexAt 162 v (.int .i64 (k:Int))) w fun x44=>RD Tryz.prog (Instr.fieldAt 209 x44 fld) w fun x45=>RD Tryz.prog (Instr.loadAt 162 x45) w fun x46=>
     CALL Tryz.prog 201 [.pointer (some ⟨g,0,none⟩),x46,vp] w fun x48 w=>RD Tryz.prog (Instr.indexAt 162 v (.int .i64 (k:Int))) w fun x49=>RD Tryz.prog (Instr.fieldAt 209 x49 fld) w fun x50=>
     OPU Tryz.prog (Instr.storeAt 162 x50 x48) w fun w=>K w:=by
 have hkl:k<(D++y :: r).length:=by simp;omega
 refine zj6 zd3 zbp hM hkl fun b a cap G hv hL=>?_
 rw [zgw hD hkl] at hL
 obtain ⟨G3,hL3⟩:=hl hL
 obtain ⟨cs3,_,_,_,_,hb3,_⟩:=hL3.here
 have hbF:b∈F:=hL3.sub b (by simp)
 obtain ⟨ub,hMb,hrb,hGb,hbb⟩:=hL3.row
 have hgl:=hC.lt.2
 refine zaa hfd ?_
 refine zbI zcB hrb ?_
 refine (ih hC hMb (fun h=>hgF (hGb _ h)) (fun c hc=>hFW c (hGb c hc)) hP hgP (fun c hc=>hFP c (hGb c hc)) hp0 hp1).mono ?_
 rintro r48 w3 ⟨h48,hc3,hC3,Gb',hMb',hGb'⟩
 rw [h48]
 obtain ⟨F3,hM3,hF3⟩:=zp3 hbb hGb hc3 hgF hgl hMb' hGb'
 rw [zjf hD] at hM3
 have hP3:=hP.chgF hc3 fun c hc=>by
   rcases List.mem_cons.1 hc with rfl | h
   · exact hgP
   exact hFP c (hGb c h)
 have hkl3:k<(D++put y (zdm bs pr (sel y) s).1 :: r).length:=by simp;omega
 refine zj6 zd3 zbp hM3 hkl3 fun b5 a5 cap5 G5 hv5 hL5=>?_
 rw [zgw hD hkl3] at hL5
 have hba:b5=b∧a5=a:=by
   rw [hv] at hv5
   simp only [Value.slice.injEq,Option.some.injEq,Addr.mk.injEq,and_true] at hv5
   exact ⟨hv5.1.1.symm,hv5.1.2.symm⟩
 obtain ⟨rfl,rfl⟩:=hba
 obtain ⟨G6,hL6⟩:=hl hL5
 obtain ⟨u6,hM6,hr6,hG6,_⟩:=hL6.row
 have hbk:w3.heap[b5]?=w.heap[b5]?:=hc3.block b5 (hM.lt b5 hbF) (by
   simp only [List.mem_cons,not_or]
   exact ⟨fun e=>hgF (by rw [←e];exact hbF),hb3⟩)
 have hu6:u6=ub:=by
   have h1:=hr6 0 u6 rfl
   have h2:=(zaN hrb hbk) 0 ub rfl
   rw [h1] at h2
   exact Option.some.inj h2
 subst hu6
 refine zaa hfd ?_
 refine zgZ zcB hL6 hM6 (fun c hc=>.inl hc) fun w4 hc4 ⟨F4,hM4,hF4⟩=>?_
 have hM4:Mine F4 w4 v ((D++put y (zdm bs pr (sel y) s).1 :: r).set k (put (put y (zdm bs pr (sel y) s).1) (sel (put y (zdm bs pr (sel y) s).1)))):=hM4
 rw [zjf hD,hpp,hsp] at hM4
 refine kk w4 F4 ((hc3.mono fun c hc=>?_).trans (hc4.mono fun c hc=>by simp [hF3 c hc])) (hC3.chgF hc4 (fun h=>hgF (hF3 _ h)) fun c hc=>hFW c (hF3 c hc)) hM4 (fun c hc=>?_) (hP3.chgF hc4 fun c hc=>hFP c (hF3 c hc))
 · rcases List.mem_cons.1 hc with rfl | hc
   · simp
   simp [hGb c hc]
 rcases hF4 c hc with h | h
 · exact hF3 c h
 exact hF3 c (hG6 c h)
theorem zp4 {bs:List UInt8} {pr:List ByteArray} (x:DStmt) (s:Cur) {n:ByteArray} {s2:Cur} (h:(if x.kind=4∨x.kind=5 then (zb8 bs pr s,zaj bs (pr.length:Int) s) else (x.name,s))=(n,s2)) :
   zk9 bs pr x s=(.mk x.kind n x.term (zdm bs pr x.body s2).1 (zdm bs pr x.els (zdm bs pr x.body s2).2).1,(zdm bs pr x.els (zdm bs pr x.body s2).2).2):=by
 obtain ⟨k,nm,t,b,e⟩:=x
 have h:(if k=4∨k=5 then (zb8 bs pr s,zaj bs (pr.length:Int) s) else (nm,s))=(n,s2):=h
 show _=(DStmt.mk k n t (zdm bs pr b s2).1 (zdm bs pr e (zdm bs pr b s2).2).1,(zdm bs pr e (zdm bs pr b s2).2).2)
 by_cases hk:k=4∨k=5
 · rw [if_pos hk] at h
   simp only [Prod.mk.injEq] at h
   obtain ⟨rfl,rfl⟩:=h
   rw [zk9,if_pos hk]
 rw [if_neg hk] at h
 simp only [Prod.mk.injEq] at h
 obtain ⟨rfl,rfl⟩:=h
 rw [zk9,if_neg hk]
def zrh (x:DStmt) (m:List DStmt):DStmt:=.mk x.kind x.name x.term m x.els
def zrq (x:DStmt) (m:List DStmt):DStmt:=.mk x.kind x.name x.term x.body m
theorem zfu {l:List DStmt} (ih:∀ x∈l,zlf x.body∧zlf x.els):zlf l:=by
 intro W w g bs s v vp F lp hp pr hC hM hgF hFW hP hgP hFP hp0 hp1
 have hln:=zaf hM.is
 refine F201_call ?_
 unfold F201
 refine zaF l.length (fun k us w'=>us=[.int .i64 (k:Int)]∧∃ (D:List DStmt) (s1:Cur) (F1:List Nat),D.length=k∧k≤l.length∧zdm bs pr l s=(D++(zdm bs pr (l.drop k) s1).1,(zdm bs pr (l.drop k) s1).2)∧Chg (g :: F) w w'∧CurAt W g bs s1 w' ∧
     Mine F1 w' v (D++l.drop k)∧(∀ c∈F1,c∈F)∧IsK lp hp w' vp pr) 0 (Nat.zero_le _) ⟨rfl,[],s,F,rfl,Nat.zero_le _,by simp,Chg.refl _ _,hC,by simpa using hM,fun _ h=>h,hP⟩ ?_
 rintro k m u w1 hkm ⟨hu,D,s1,F1,hD,hkl,hfx,hc1,hC1,hM1,hF1,hP1⟩
 simp only [List.map_cons,List.map_nil,List.cons.injEq,and_true] at hu
 rw [hu]
 refine zae zd3 hM1.is ?_
 have hlen:(D++l.drop k).length=l.length:=by simp;omega
 rw [hlen]
 refine zai ?_
 refine br (fun hlt=>?_) (fun hge=>?_)
 · have hk:k<l.length:=by omega
   obtain ⟨x,hx⟩:∃ x,x=l[k]:=⟨_,rfl⟩
   have hxm:x∈l:=by rw [hx];exact List.getElem_mem hk
   have hdr:l.drop k=x :: l.drop (k+1):=by rw [hx];exact List.drop_eq_getElem_cons hk
   rw [hdr] at hM1
   rw [hdr,zdm] at hfx
   have hkl1:k<(D++x :: l.drop (k+1)).length:=by simp;omega
   refine JOIN.mk (fun us w'=>∃ F2 n s2,Chg (g :: F) w w'∧CurAt W g bs s2 w'∧Mine F2 w' v (D++DStmt.mk x.kind n x.term x.body x.els :: l.drop (k+1))∧(∀ c∈F2,c∈F)∧IsK lp hp w' vp pr ∧
       (if x.kind=4∨x.kind=5 then (zb8 bs pr s1,zaj bs (pr.length:Int) s1) else (x.name,s1))=(n,s2)) ?_ ?_
   · refine zad zd3 zbp hM1.is hkl1 fun b16 o16 hA16=>?_
     rw [zgw hD hkl1] at hA16
     refine zaa zdQ ?_
     refine zac ty3 (zbY hA16) (Ext.refl _) fun hI18=>?_
     refine zag ?_
     refine zl4 (Q:=x.kind=4∨x.kind=5) .inl (fun hQ=>?_) (fun key h4=>?_)
     · refine zae u24 hP1.is ?_
       refine (zbV hC1 (by omega)).mono ?_
       rintro _ w2 ⟨hc2',hC2,rfl⟩
       have hc2:=hc2'.toC
       have hM2:=hM1.chgF hc2 fun c hc h=>by
         simp only [List.mem_singleton] at h
         exact hgF (h▸hF1 c hc)
       have hP2:=hP1.chgF hc2 fun c hc=>by
         simp only [List.mem_singleton] at hc
         exact hc▸hgP
       have hbx:=zbM bs (n:=(pr.length:Int)) (by omega) s1
       refine zas u24 ty9 hP2.is hbx.1 (by omega) fun b35 o35 hA35=>?_
       refine zam ty9 hA35 (Ext.refl _) fun hS36=>?_
       refine zo0 zd3 zbp hM2 hkl1 fun b37 o37 G37 hL37=>?_
       rw [zgw hD hkl1] at hL37
       refine zaa zb7 ?_
       obtain ⟨G38,hL38⟩:=zjN hL37
       refine znV ty9 hL38 (zlZ hS36) fun w3 F3 hc3 hM3 hF3=>?_
       have hM3:Mine F3 w3 v ((D++x :: l.drop (k+1)).set k (.mk x.kind (pr[(zbg bs (pr.length:Int) s1).toNat]'(by omega)) x.term x.body x.els)):=hM3
       rw [zjf hD] at hM3
       refine ⟨F3,_,_,((hc1.trans (hc2.mono (by simp))).trans (hc3.mono fun c hc=>by simp [hF1 c hc])),hC2.chgF hc3 (fun h=>hgF (hF1 _ h)) (fun c hc=>hFW c (hF1 c hc)),hM3,fun c hc=>hF1 c (hF3 c hc),hP2.chgF hc3 (fun c hc=>hFP c (hF1 c hc)),?_⟩
       rw [if_pos hQ]
       unfold zb8
       rw [←zdD (by omega)]
     refine zad zd3 zbp hM1.is hkl1 fun b23 o23 hA23=>?_
     rw [zgw hD hkl1] at hA23
     refine zaa zdQ ?_
     refine zac ty3 (zbY hA23) (Ext.refl _) fun hI25=>?_
     refine zag ?_
     refine br (fun h5=>key (.inr h5)) fun h5=>?_
     exact ⟨F1,x.name,s1,hc1,hC1,by rw [DStmt.eta];exact hM1,hF1,hP1,by rw [if_neg (by omega)]⟩
   rintro u6 w2 ⟨F2,n,s2,hc2,hC2,hM2,hF2,hP2,hn⟩
   have hfs:=zp4 x s1 hn
   rw [hfs] at hfx
   refine znY (fld:=3) (sel:=DStmt.body) (put:=zrh) zda (fun _ _ _=>rfl) (fun _ _=>rfl) zjO hC2 hM2 hD (fun h=>hgF (hF2 _ h)) (fun c hc=>hFW c (hF2 c hc)) hP2 hgP (fun c hc=>hFP c (hF2 c hc)) hp0 hp1 (ih x hxm).1 fun w3 F3 hc3 hC3 hM3 hF3 hP3=>?_
   have hF3':∀ c∈F3,c∈F:=fun c hc=>hF2 c (hF3 c hc)
   refine znY (fld:=4) (sel:=DStmt.els) (put:=zrq) zcC (fun _ _ _=>rfl) (fun _ _=>rfl) zgH hC3 hM3 hD (fun h=>hgF (hF3' _ h)) (fun c hc=>hFW c (hF3' c hc)) hP3 hgP (fun c hc=>hFP c (hF3' c hc)) hp0 hp1 (ih x hxm).2 fun w4 F4 hc4 hC4 hM4 hF4 hP4=>?_
   refine zal (by omega) ?_
   refine ⟨m-1,by omega,k+1,by omega,rfl,D++[DStmt.mk x.kind n x.term (zdm bs pr x.body s2).1 (zdm bs pr x.els (zdm bs pr x.body s2).2).1],_,F4,by simp [hD],by omega,?_,(hc2.trans (hc3.mono fun c hc=>?_)).trans (hc4.mono fun c hc=>?_),hC4,?_,fun c hc=>hF3' c (hF4 c hc),hP4⟩
   · rw [hfx];simp [DStmt.body,DStmt.els,zrh]
   · rcases List.mem_cons.1 hc with rfl | hc
     · simp
     simp [hF2 c hc]
   · rcases List.mem_cons.1 hc with rfl | hc
     · simp
     simp [hF3' c hc]
   simpa [zrq,zrh,DStmt.body,DStmt.els,DStmt.kind,DStmt.name,DStmt.term] using hM4
 have hk:k=l.length:=by omega
 subst hk
 rw [List.drop_length,zlX] at hfx
 rw [List.drop_length] at hM1
 rw [hfx]
 exact ⟨rfl,hc1,hC1,F1,hM1,hF1⟩
theorem znZ (l:List DStmt):zlf l:=by
 refine zfu fun x _=>?_
 refine DStmt.ind (p:=fun x=>zlf x.body∧zlf x.els) (fun t hb he=>⟨?_,?_⟩) x
 · intro W w g bs s v vp F lp hp pr;exact zfu hb
 intro W w g bs s v vp F lp hp pr;exact zfu he
def F226 (a0:Value) (w:World) (R:VW):Prop:=
 oP (Instr.box 75 a0) w fun x1 w=>
 oP (Instr.alloc 75 true (.tuple #[])) w fun x2 w=>
 rF 75 x1 0 w fun x5=>
 rL 3 x5 w fun x6=>
 rF 75 x1 1 w fun x7=>
 rL 3 x7 w fun x8=>
 rF 75 x1 2 w fun x9=>
 rL 9 x9 w fun x10=>
 rD (Instr.build 75 #[(0,x6),(1,x8),(2,x10)]) w fun x11=>
 oP (Instr.alloc 75 true (.tuple #[])) w fun x3 w=>
 oS 75 x3 x11 w fun w=>
 LOOPI [4] [(iV 0)] w fun u3 w next3=>
 rF 75 x1 3 w fun x13=>
 rL 73 x13 w fun x14=>
 rN 73 3 x14 w fun x15=>
 rC (u3 4) x15 w fun x16=>
 BR x16
 ((fun w=>rF 75 x3 3 w fun x19=>
 rL 73 x19 w fun x20=>
 rF 75 x1 3 w fun x21=>
 rL 73 x21 w fun x22=>
 rX 73 x22 (u3 4) w fun x24=>
 rL 75 x24 w fun x25=>
 (fun w_=>cL 226 [x25] w_ fun x26 w=>
 Ext w_ w ∧
 (fun w_=>oP (Instr.buildSlice 73 1 #[(0,x26)]) w_ fun x27 w=>
 Ext w_ w ∧
 (oP (Builtin.append_ #[73,73] 73 [x20,x27].toArray) w fun x28 w=>
 rF 75 x3 3 w fun x29=>
 oS 73 x29 x28 w fun w=>
 rA (u3 4) (iV 1) w fun x18=>
 next3 [x18] w)) w) w) (World.drew1 w))
 (rL 75 x3 w fun x30=>
 oS 75 x2 x30 w fun w=>
 rD (zaw 75 x2) w fun r2=>R r2 w)
def cfg226:Cfg:=⟨extL,[],[(3,1073737744,[4])],[(5,[0,1,2,3,4,5,6,7,8,9,10,11],384)],[],[],[]⟩
theorem F226_call {a0:Value} {w:World} {R:VW} (h:F226 a0 w R):cL 226 [a0] w R:=co (g:=cfg226) Tryz.func226 (by kernel_rfl) (by kernel_rfl) (by kernel_rfl) h
def zn0 (t:DTerm):Prop:=∀ {w W:World} {v:Value},Is W v t→Ext W w→wT t≤1048576 →
 CALL Tryz.prog 226 [v] w fun r w'=>Ext w w'∧Own w.heap.size w' r t
theorem zj7 {t:DTerm} (ih:∀ x∈t.kids,zn0 x):zn0 t:=by
 intro w W v h e hw
 have hkl:t.kids.length≤1048576:=by have:=zpV t;have:=znK t.kids;omega
 have hkw:∀ x∈t.kids,wT x≤1048576:=fun x hx=>by have:=zpV t;have:=znK t.kids;have:=zqG wT hx;omega
 refine F226_call ?_
 unfold F226
 refine zbR h e fun w1 hx1 hA=>?_
 have hs1:=hx1.size
 refine za6 zqp fun w2 hx2 hB2=>?_
 have hg2:=hB2.lt
 have hs2:=hx2.size
 refine zaa zdi ?_
 refine zac ty3 (za4 hA) hx2 fun hI6=>?_
 refine zaa zd2 ?_
 refine zac ty3 (zbn hA) hx2 fun hI8=>?_
 refine zaa zdx ?_
 refine zam ty9 (zbd hA) hx2 fun hS10=>?_
 refine zaR (cells:=#[.int .i64 t.kind,.int .i64 t.num,.string t.name,.slice none 0 0]) (by kernel_rfl) ?_
 refine za6 zqp fun w3 hx3 hB3=>?_
 have hg3:=hB3.lt
 have hs3:=hx3.size
 refine za7 (x:=DTerm.mk t.kind t.num t.name []) (lo:=w3.heap.size) (hi:=w3.heap.size) zb6 rfl hB3 rfl (zd1 hI6 hI8 hS10 zbN) fun w4 hc4 hB4=>?_
 have hs4:=hc4.size
 have hx14:Ext w1 w4:=Ext.chgI (hx2.trans hx3) hc4 (by omega)
 refine zaF t.kids.length (fun k us w'=>us=[.int .i64 (k:Int)]∧∃ v1 hi,hi≤w'.heap.size∧w4.heap.size≤hi∧Ext w1 w'∧Blk w2.heap.size 75 w' [.int .i64 t.kind,.int .i64 t.num,.string t.name,v1] ∧
     RowI w4.heap.size hi 75 w' v1 (t.kids.take k)∧Blk w1.heap.size 75 w' [.int .i64 0,.int .i64 0,.string ByteArray.empty,.slice none 0 0]∧k≤t.kids.length) 0 (Nat.zero_le _)
     ⟨rfl,.slice none 0 0,w4.heap.size,Nat.le_refl _,Nat.le_refl _,hx14,hB4,zcS _ _ _ _,(hB2.ext hx3).chgI hc4 (by omega),Nat.zero_le _⟩ ?_
 rintro k m u w5 hkm ⟨hu,v1,hi,hhi,hlo,hx5,hB5,r5,hB25,hkl5⟩
 simp only [List.map_cons,List.map_nil,List.cons.injEq,and_true] at hu
 rw [hu]
 have hs5:=hx5.size
 refine zaa zbu ?_
 refine zab zfx (zay hA) hx5 fun v14 h14=>?_
 refine zae u73 h14 ?_
 refine zai ?_
 refine br (fun hlt=>?_) (fun hge=>?_)
 · have hk:k<t.kids.length:=by omega
   have hx6:=zah w5
   have hs6:=hx6.size
   have hx56:=hx5.trans hx6
   refine zaa zbu ?_
   refine zb9 zfx (hB5.ext hx6) rfl ?_
   refine zaa zbu ?_
   refine zab zfx (zay hA) hx56 fun v22 h22=>?_
   refine zad u73 zb6 h22 hk fun b24 o24 hA24=>?_
   refine zab zb6 hA24 hx56 fun v25 h25=>?_
   refine (ih _ (List.getElem_mem hk) h25 hx56 (hkw _ (List.getElem_mem hk))).mono ?_
   rintro r26 w7 ⟨hx7,o26⟩
   have o26:=o26.toI
   have hs7:=hx7.size
   refine ⟨hx7,?_⟩
   have hx57:=hx6.trans hx7
   refine zg2 (α:=DTerm) u73 zb6 z75 zrA (by decide) (r5.ext hx57) (by omega) o26 (by omega) (by omega) (by rw [zak,List.length_take];omega) (by rw [List.length_take];omega) fun v28 w8 hc8 r8=>?_
   have hs8:=hc8.size
   refine zaa zbu ?_
   refine zcp (α:=List DTerm) zfx rfl rfl ((hB5.ext hx57).chgI hc8 (by omega)) (by simp) r8.own fun w9 hc9 hB9=>?_
   have hs9:=hc9.size
   refine zal (by omega) ?_
   refine ⟨m-1,by omega,k+1,by omega,rfl,v28,w8.heap.size,by omega,by omega,Ext.chgI (Ext.chgI (hx5.trans hx57) hc8 (by omega)) hc9 (by omega),hB9,?_,((hB25.ext hx57).chgI hc8 (by omega)).chgI hc9 (by omega),by omega⟩
   have:=r8.chg hc9 (by omega)
   rwa [←List.take_succ_eq_append_getElem hk] at this
 have hk:t.kids.length≤k:=by omega
 refine zdb hB5 zb6 ?_
 have hI:=(show I64 t.kind from hI6)
 have ost:OwnI w4.heap.size hi w5 (.agg #[.int .i64 t.kind,.int .i64 t.num,.string t.name,v1]) t:=by
   have:=zd1 hI6 hI8 hS10 r5.own
   rwa [List.take_of_length_le hk,DTerm.eta] at this
 refine za7 zb6 rfl hB25 rfl ost fun w6 hc6 hB6=>?_
 refine zdc hB6 zb6 ?_
 exact ⟨Ext.chgI (hx1.trans hx5) hc6 (by omega),(ost.chg hc6 (by omega)).own.mono (by omega)⟩
theorem zgx (t:DTerm):zn0 t:=DTerm.ind (fun t ih {_ _ _}=>zj7 ih) t
section
variable (G L P:List ByteArray)
mutual
def emS:DStmt→Nat→List DIns
  | .mk k n t b e,at_=>
    if k=1 then [⟨1,plc n G,t,0⟩]
    else if k=4 then [⟨4,plc n P,term0,0⟩]
    else if k=5 then [⟨5,plc n P,term0,0⟩]
    else if k=6 then [⟨6,plc n L,term0,0⟩]
    else if k=7 then [⟨7,plc n L,term0,0⟩]
    else if k=8 then [⟨8,0,term0,0⟩]
    else if k=3 then ⟨2,0,t,((at_+1+(emL b (at_+1)).length+1:Nat):Int)⟩ :: (emL b (at_+1)++[⟨3,0,term0,(at_:Int)⟩])
    else if k=2 then
      (if e.length=0 then ⟨2,0,t,((at_+1+(emL b (at_+1)).length:Nat):Int)⟩ :: emL b (at_+1)
      else ⟨2,0,t,((at_+1+(emL b (at_+1)).length+1:Nat):Int)⟩ :: (emL b (at_+1) ++
        (⟨3,0,term0,((at_+1+(emL b (at_+1)).length+1+(emL e (at_+1+(emL b (at_+1)).length+1)).length:Nat):Int)⟩ :: emL e (at_+1+(emL b (at_+1)).length+1))))
    else []
def emL:List DStmt→Nat→List DIns
  | [],_=>[]
  | x :: l,at_=>emS x at_++emL l (at_+(emS x at_).length)
end
def InsQ (x:DIns) (lo hi:Nat):Prop:=1≤x.op∧x.op≤8 ∧
 (0≤x.arg∧x.arg<if x.op=1 then (G.length:Int) else if x.op=4∨x.op=5 then P.length else if x.op=6∨x.op=7 then L.length else 1) ∧
 (if x.op=1∨x.op=2 then TmR x.term else x.term=term0)∧(if x.op=2∨x.op=3 then (lo:Int)≤x.to∧x.to≤hi else x.to=0)
end
section
variable {G L P:List ByteArray}
theorem InsQ.mono {x:DIns} {lo hi lo' hi':Nat} (h:InsQ G L P x lo hi) (h1:lo'≤lo) (h2:hi≤hi'):InsQ G L P x lo' hi':=by
 obtain ⟨a,b,c,d,e⟩:=h
 refine ⟨a,b,c,d,?_⟩
 split at e
 · rename_i hh;rw [if_pos hh];omega
 rename_i hh;rw [if_neg hh];exact e
theorem zj8 {n:ByteArray} {l:List ByteArray} (h:n∈l):0≤plc n l∧plc n l<l.length:=⟨zdS.2 h,zhq.2⟩
theorem zpw {op arg to:Int} {t:DTerm} {lo hi:Nat} (h1:1≤op) (h1':op≤8) (h2:0≤arg∧arg<if op=1 then (G.length:Int) else if op=4∨op=5 then P.length else if op=6∨op=7 then L.length else 1)
   (h3:if op=1∨op=2 then TmR t else t=term0) (h4:if op=2∨op=3 then (lo:Int)≤to∧to≤hi else to=0):InsQ G L P ⟨op,arg,t,to⟩ lo hi:=⟨h1,h1',h2,h3,h4⟩
theorem zn1 {t:DTerm} (ht:TmR t) {to lo hi:Nat} (h1:lo≤to) (h2:to≤hi):InsQ G L P ⟨2,0,t,(to:Int)⟩ lo hi:=
 zpw (by decide) (by decide) (by rw [if_neg (by decide),if_neg (by decide),if_neg (by decide)];decide) (by rw [if_pos (.inr rfl)];exact ht) (by rw [if_pos (.inl rfl)];omega)
theorem zpx {to lo hi:Nat} (h1:lo≤to) (h2:to≤hi):InsQ G L P ⟨3,0,term0,(to:Int)⟩ lo hi:=
 zpw (by decide) (by decide) (by rw [if_neg (by decide),if_neg (by decide),if_neg (by decide)];decide) (by rw [if_neg (by decide)]) (by rw [if_pos (.inr rfl)];omega)
theorem zri {pr:List ByteArray} (hG:G=glb) (hL:L=lks) (hP:∀ x∈pr,x∈P):∀ (n:Nat),
   (∀ (t:DStmt) (a:Nat),StR pr n t→(∀ x∈emS G L P t a,InsQ G L P x a (a+(emS G L P t a).length))∧(emS G L P t a).length≤2*szS t) ∧
   ∀ (l:List DStmt) (a:Nat),(∀ x∈l,StR pr n x)→(∀ x∈emL G L P l a,InsQ G L P x a (a+(emL G L P l a).length))∧(emL G L P l a).length≤2*szL l:=by
 have hl:∀ n,(∀ (t:DStmt) (a:Nat),StR pr n t→(∀ x∈emS G L P t a,InsQ G L P x a (a+(emS G L P t a).length))∧(emS G L P t a).length≤2*szS t) →
     ∀ (l:List DStmt) (a:Nat),(∀ x∈l,StR pr n x)→(∀ x∈emL G L P l a,InsQ G L P x a (a+(emL G L P l a).length))∧(emL G L P l a).length≤2*szL l:=by
   intro n hs l
   induction l with
   | nil=>intro a _;rw [emL];exact ⟨(fun x hx=>by cases hx),Nat.zero_le _⟩
   | cons t l ih=>
     intro a h
     have h1:=hs t a (h t (by simp))
     have h2:=ih (a+(emS G L P t a).length) fun x hx=>h x (by simp [hx])
     rw [emL,szL]
     generalize emS G L P t a=u at *
     generalize emL G L P l (a+u.length)=v at *
     rw [List.length_append]
     refine ⟨fun x hx=>?_,by omega⟩
     rcases List.mem_append.1 hx with hx | hx
     · exact (h1.1 x hx).mono (Nat.le_refl _) (by omega)
     exact (h2.1 x hx).mono (by omega) (by omega)
 have h0:∀ (t:DStmt) (a:Nat),St0 pr t→(∀ x∈emS G L P t a,InsQ G L P x a (a+(emS G L P t a).length))∧(emS G L P t a).length≤2*szS t:=by
   rintro ⟨k,n,t,b,e⟩ a h
   rw [emS,szS]
   rcases h with ⟨hk,hn,ht,_,_⟩ | ⟨hk,hn,_⟩ | ⟨hk,hn,_⟩ | ⟨hk,hn,_⟩
   · have hk:k=1:=hk
     have hn:n∈glb:=hn
     rw [if_pos hk]
     refine ⟨fun x hx=>?_,by simp;omega⟩
     simp only [List.mem_cons,List.not_mem_nil,or_false] at hx
     subst hx
     exact zpw (by decide) (by decide) (by rw [if_pos rfl];exact zj8 (by rw [hG];exact hn)) (by rw [if_pos (.inl rfl)];exact ht) (by rw [if_neg (by decide)])
   · have hk:k=4∨k=5:=hk
     have hn:n∈pr:=hn
     rw [if_neg (by omega)]
     rcases hk with hk | hk
     · rw [if_pos hk]
       refine ⟨fun x hx=>?_,by simp;omega⟩
       simp only [List.mem_cons,List.not_mem_nil,or_false] at hx
       subst hx
       exact zpw (by decide) (by decide) (by rw [if_neg (by decide),if_pos (.inl rfl)];exact zj8 (hP _ hn)) (by rw [if_neg (by decide)]) (by rw [if_neg (by decide)])
     rw [if_neg (by omega),if_pos hk]
     refine ⟨fun x hx=>?_,by simp;omega⟩
     simp only [List.mem_cons,List.not_mem_nil,or_false] at hx
     subst hx
     exact zpw (by decide) (by decide) (by rw [if_neg (by decide),if_pos (.inr rfl)];exact zj8 (hP _ hn)) (by rw [if_neg (by decide)]) (by rw [if_neg (by decide)])
   · have hk:k=6∨k=7:=hk
     have hn:n∈lks:=hn
     rw [if_neg (by omega),if_neg (by omega),if_neg (by omega)]
     rcases hk with hk | hk
     · rw [if_pos hk]
       refine ⟨fun x hx=>?_,by simp;omega⟩
       simp only [List.mem_cons,List.not_mem_nil,or_false] at hx
       subst hx
       exact zpw (by decide) (by decide) (by rw [if_neg (by decide),if_neg (by decide),if_pos (.inl rfl)];exact zj8 (by rw [hL];exact hn)) (by rw [if_neg (by decide)]) (by rw [if_neg (by decide)])
     rw [if_neg (by omega),if_pos hk]
     refine ⟨fun x hx=>?_,by simp;omega⟩
     simp only [List.mem_cons,List.not_mem_nil,or_false] at hx
     subst hx
     exact zpw (by decide) (by decide) (by rw [if_neg (by decide),if_neg (by decide),if_pos (.inr rfl)];exact zj8 (by rw [hL];exact hn)) (by rw [if_neg (by decide)]) (by rw [if_neg (by decide)])
   have hk:k=8:=hk
   rw [if_neg (by omega),if_neg (by omega),if_neg (by omega),if_neg (by omega),if_neg (by omega),if_pos hk]
   refine ⟨fun x hx=>?_,by simp;omega⟩
   simp only [List.mem_cons,List.not_mem_nil,or_false] at hx
   subst hx
   exact zpw (by decide) (by decide) (by rw [if_neg (by decide),if_neg (by decide),if_neg (by decide)];decide) (by rw [if_neg (by decide)]) (by rw [if_neg (by decide)])
 intro n
 induction n with
 | zero=>exact ⟨fun t a h=>h0 t a h.zero,hl 0 fun t a h=>h0 t a h.zero⟩
 | succ n ih=>
   have hs:∀ (t:DStmt) (a:Nat),StR pr (n+1) t→(∀ x∈emS G L P t a,InsQ G L P x a (a+(emS G L P t a).length))∧(emS G L P t a).length≤2*szS t:=by
     intro t a h
     rcases h.succ with h | ⟨hk,hn,ht,hb,he⟩
     · exact h0 t a h
     obtain ⟨k,nm,t,b,e⟩:=t
     have hq:k=2∨k=3∧e=[]:=hk
     clear hk
     replace ht:TmR t:=ht
     have h1:=ih.2 b (a+1) hb
     have h2:=ih.2 e (a+1+(emL G L P b (a+1)).length+1) he
     rw [emS,szS,if_neg (by omega),if_neg (by omega),if_neg (by omega),if_neg (by omega),if_neg (by omega),if_neg (by omega)]
     generalize emL G L P b (a+1)=u at *
     generalize emL G L P e (a+1+u.length+1)=v at *
     rcases hq with hq | ⟨hq,rfl⟩
     · rw [if_neg (by omega),if_pos hq]
       split
       · refine ⟨fun x hx=>?_,by simp only [List.length_cons];omega⟩
         rw [List.length_cons]
         rcases List.mem_cons.1 hx with rfl | hx
         · exact zn1 ht (by omega) (by omega)
         exact (h1.1 x hx).mono (by omega) (by omega)
       rename_i hne
       refine ⟨fun x hx=>?_,?_⟩
       · simp only [List.length_cons,List.length_append]
         rcases List.mem_cons.1 hx with rfl | hx
         · exact zn1 ht (by omega) (by omega)
         rcases List.mem_append.1 hx with hx | hx
         · exact (h1.1 x hx).mono (by omega) (by omega)
         rcases List.mem_cons.1 hx with rfl | hx
         · exact zpx (by omega) (by omega)
         exact (h2.1 x hx).mono (by omega) (by omega)
       have:=zjc e
       simp only [List.length_cons,List.length_append];omega
     rw [if_pos hq]
     refine ⟨fun x hx=>?_,by simp only [List.length_cons,List.length_append,List.length_nil];omega⟩
     simp only [List.length_cons,List.length_append,List.length_nil]
     rcases List.mem_cons.1 hx with rfl | hx
     · exact zn1 ht (by omega) (by omega)
     rcases List.mem_append.1 hx with hx | hx
     · exact (h1.1 x hx).mono (by omega) (by omega)
     simp only [List.mem_cons,List.not_mem_nil,or_false] at hx
     subst hx
     exact zpx (by omega) (by omega)
   exact ⟨hs,hl (n+1) hs⟩
end
def zp5:DIns:=⟨9,0,term0,0⟩
section
variable (G L P:List ByteArray)
def emP:List DProc→Nat→List DIns
 | [],_=>[]
 | x :: l,a=>emL G L P x.body a++(zp5 :: emP l (a+(emL G L P x.body a).length+1))
def zj9:List DProc→Nat→List Int
 | [],_=>[]
 | x :: l,a=>(a:Int) :: zj9 l (a+(emL G L P x.body a).length+1)
end
def zcb (p:DProg):DCode:=
 ⟨p.globals,p.locks,p.procs.map DProc.name,zj9 p.globals p.locks (p.procs.map DProc.name) p.procs 0,emP p.globals p.locks (p.procs.map DProc.name) p.procs 0⟩
theorem zg9 (G L P:List ByteArray):∀ (l:List DProc) (a:Nat),(zj9 G L P l a).length=l.length
 | [],_=>by rw [zj9];rfl
 | x :: l,a=>by rw [zj9,List.length_cons,List.length_cons,zg9 G L P l]
theorem zpy (G L P:List ByteArray):∀ (l:List DProc) (a i:Nat) (hi:i<l.length),∃ s,(zj9 G L P l a)[i]?=some ((a+s:Nat):Int)∧s+(emL G L P l[i].body (a+s)).length+1≤(emP G L P l a).length ∧
   (∀ k,k<(emL G L P l[i].body (a+s)).length→(emP G L P l a)[s+k]?=(emL G L P l[i].body (a+s))[k]?)∧(emP G L P l a)[s+(emL G L P l[i].body (a+s)).length]?=some zp5 ∧
   (i=0→s=0)∧(i+1<l.length→(zj9 G L P l a)[i+1]?=some ((a+s+(emL G L P l[i].body (a+s)).length+1:Nat):Int))∧(i+1=l.length→s+(emL G L P l[i].body (a+s)).length+1=(emP G L P l a).length)
 | x :: l,a,0,hi=>by
   refine ⟨0,?_⟩
   simp only [Nat.add_zero,Nat.zero_add,List.getElem_cons_zero]
   rw [zj9,emP]
   generalize emL G L P x.body a=u
   refine ⟨by simp,by simp,fun k hk=>List.getElem?_append_left hk,by simp,by simp,fun h=>?_,fun h=>?_⟩
   · cases l with
     | nil=>simp at h
     | cons y l=>rw [zj9];rfl
   have:l=[]:=List.eq_nil_of_length_eq_zero (by simpa using h)
   subst this
   rw [emP];simp
 | x :: l,a,i+1,hi=>by
   obtain ⟨s,h1,h2,h3,h4,h5,h6,h7⟩:=zpy G L P l (a+(emL G L P x.body a).length+1) i (by simpa using hi)
   refine ⟨(emL G L P x.body a).length+1+s,?_⟩
   simp only [List.getElem_cons_succ]
   rw [zj9,emP]
   have e:a+((emL G L P x.body a).length+1+s)=a+(emL G L P x.body a).length+1+s:=by omega
   rw [e]
   generalize emL G L P x.body a=u at *
   have hil:i<l.length:=by simpa using hi
   generalize emL G L P (l[i]'hil).body (a+u.length+1+s)=v at *
   have sh:∀ (q:Nat) (m:List DIns),(u++zp5 :: m)[u.length+1+q]?=m[q]?:=by
     intro q m
     rw [List.getElem?_append_right (by omega),show u.length+1+q-u.length=q+1 by omega,List.getElem?_cons_succ]
   refine ⟨by simpa using h1,by simp only [List.length_append,List.length_cons];omega,fun k hk=>?_,?_,fun h=>by omega,fun h=>?_,fun h=>?_⟩
   · rw [show u.length+1+s+k=u.length+1+(s+k) by omega,sh];exact h3 k hk
   · rw [show u.length+1+s+v.length=u.length+1+(s+v.length) by omega,sh];exact h4
   · rw [List.getElem?_cons_succ];exact h6 (by simpa using h)
   have:=h7 (by simpa using h)
   simp only [List.length_append,List.length_cons];omega
theorem zn2 (G L P:List ByteArray) {m:Nat}:∀ (l:List DProc) (a:Nat),(∀ x∈l,∀ b,(emL G L P x.body b).length≤m)→(emP G L P l a).length≤l.length*(m+1)
 | [],_,_=>by rw [emP];simp
 | x :: l,a,h=>by
   have h1:=h x (by simp) a
   have h2:=zn2 G L P l (a+(emL G L P x.body a).length+1) fun y hy=>h y (by simp [hy])
   rw [emP,List.length_append,List.length_cons,List.length_cons,Nat.add_mul,Nat.one_mul]
   omega
theorem zjg {α:Type} {l:List α} {i:Nat} {x d:α} (h:l[i]?=some x):l.getD i d=x:=by rw [List.getD_eq_getElem?_getD,h];rfl
theorem zka:∀ k,k<3→(prc4.take (2+k)).length≤4∧(prc4.take (2+k)).all zaZ=true∧(prc4.take (2+k)).Nodup∧zgi∈prc4.take (2+k)
 | 0,_=>by decide
 | 1,_=>by decide
 | 2,_=>by decide
 | k+3,h=>absurd h (by omega)
theorem zlg {p:DProg} (hp:ProgR p) {i:Nat} (hi:i<p.procs.length):∃ s n:Nat,en (zcb p) i=(s:Int)∧zdj (zcb p) i=((s+n+1:Nat):Int)∧s+n+1≤(zcb p).ins.length ∧
   (∀ k,k<n→InsQ (zcb p).globals (zcb p).locks (zcb p).procs (zbG (zcb p) (s+k)) s (s+n))∧zbG (zcb p) (s+n)=zp5∧(i=0→s=0):=by
 obtain ⟨s,h1,h2,h3,h4,h5,h6,h7⟩:=zpy p.globals p.locks (p.procs.map DProc.name) p.procs 0 i hi
 simp only [Nat.zero_add] at h1 h2 h3 h4 h5 h6 h7
 have hb:=hp.b _ (List.getElem_mem hi)
 have hr:=(zri (G:=p.globals) (L:=p.locks) (P:=p.procs.map DProc.name) (pr:=(p.procs.map DProc.name).drop 1) hp.g hp.l (fun x hx=>List.mem_of_mem_drop hx) 2).2 p.procs[i].body s hb.1
 generalize emL p.globals p.locks (p.procs.map DProc.name) p.procs[i].body s=u at *
 refine ⟨s,u.length,zjg h1,?_,h2,fun k hk=>?_,zjg h4,h5⟩
 · unfold zdj
   have hl:(zcb p).entry.length=p.procs.length:=zg9 _ _ _ _ _
   split
   · rename_i hh;exact zjg (h6 (by omega))
   rename_i hh;show ((emP _ _ _ _ _).length:Int)=_;rw [←h7 (by omega)]
 have e:zbG (zcb p) (s+k)=u[k]:=zjg (by
   have:=h3 k hk
   rw [List.getElem?_eq_getElem hk] at this
   exact this)
 rw [e]
 exact (hr.1 _ (List.getElem_mem hk)).mono (Nat.le_refl _) (Nat.le_refl _)
theorem zis {p:DProg} (hp:ProgR p):CodeR (zcb p)∧(zcb p).ins.length≤436:=by
 obtain ⟨k,hk,hn⟩:=hp.n
 obtain ⟨n1,n2,n3,n4⟩:=zka k hk
 have hl:(zcb p).entry.length=p.procs.length:=zg9 _ _ _ _ _
 have hpl:(p.procs.map DProc.name).length=p.procs.length:=List.length_map _
 have hp4:p.procs.length≤4:=by rw [←hpl,hn];exact n1
 have hN:NamesR (zcb p):=by
   refine ⟨?_,?_,?_,?_,?_,?_,?_⟩
   · show (decide ((p.globals.length:Int)≤6)&&p.globals.all zaZ)=true
     rw [hp.g];decide
   · show (decide ((p.locks.length:Int)≤6)&&p.locks.all zaZ)=true
     rw [hp.l];decide
   · show (decide (((p.procs.map DProc.name).length:Int)≤8)&&(p.procs.map DProc.name).all zaZ)=true
     rw [hn,n2,decide_eq_true (by omega)];rfl
   · show p.globals.Nodup
     rw [hp.g];decide
   · show p.locks.Nodup
     rw [hp.l];decide
   · show (p.procs.map DProc.name).Nodup
     rw [hn];exact n3
   show zgi∈p.procs.map DProc.name
   rw [hn];exact n4
 have hil:(zcb p).ins.length≤436:=by
   have:=zn2 p.globals p.locks (p.procs.map DProc.name) (m:=108) p.procs 0 fun x hx b=>by
     have hb:=hp.b x hx
     have hr:=(zri (G:=p.globals) (L:=p.locks) (P:=p.procs.map DProc.name) (pr:=(p.procs.map DProc.name).drop 1) hp.g hp.l (fun x hx=>List.mem_of_mem_drop hx) 2).2 x.body b hb.1
     have:=hb.2
     omega
   show (emP _ _ _ _ _).length≤436
   omega
 have h0:0<p.procs.length:=by
   rw [←hpl,hn];exact List.length_pos_of_mem n4
 have hF:EntF (zcb p):=by
   refine ⟨by rw [hl];exact hpl.symm,by omega,?_,fun i hi=>?_⟩
   · obtain ⟨s,n,e1,_,_,_,_,e0⟩:=zlg hp h0
     rw [e1,e0 rfl];rfl
   obtain ⟨s,n,e1,e2,e3,_,_,_⟩:=zlg hp (i:=i) (by omega)
   rw [e1,e2];omega
 have hpp:0<(zcb p).procs.length:=by show 0<(p.procs.map DProc.name).length;omega
 have hfind:∀ j:Nat,j<(zcb p).ins.length→∃ i s n:Nat,i<p.procs.length∧en (zcb p) i=(s:Int)∧zdj (zcb p) i=((s+n+1:Nat):Int)∧s≤j∧j≤s+n∧zaD (zcb p) j=i ∧
     (∀ k,k<n→InsQ (zcb p).globals (zcb p).locks (zcb p).procs (zbG (zcb p) (s+k)) s (s+n))∧zbG (zcb p) (s+n)=zp5:=by
   intro j hj
   obtain ⟨i,hi,a1,a2,a3⟩:=hF.find hpp (a:=(j:Int)) (by omega) (by omega)
   obtain ⟨s,n,e1,e2,e3,e4,e5,_⟩:=zlg hp (i:=i) (by omega)
   rw [e1] at a1
   rw [e2] at a2
   exact ⟨i,s,n,by omega,e1,e2,by omega,by omega,a3,e4,e5⟩
 have hends:∀ (i:Nat),zd5 (zcb p) i=zdj (zcb p) i-1:=fun i=>zcT _ i
 refine ⟨⟨hN,⟨hF.len,hF.ins,fun i hi=>⟨fun h=>by subst h;exact hF.zero,fun h=>?_,?_⟩,fun j hj=>?_⟩,fun j hj=>?_⟩,hil⟩
 · have h1:=(hF.lt (i-1) (by omega)).1
   rw [hF.step (by omega),show i-1+1=i by omega] at h1
   exact h1
 · have:=hF.lt i hi;omega
 · obtain ⟨i,s,n,hi,e1,e2,a1,a2,a3,e4,e5⟩:=hfind j hj
   rw [a3,hends,e2]
   constructor
   · intro h9
     by_cases hjn:j=s+n
     · omega
     have:=e4 (j-s) (by omega)
     rw [show s+(j-s)=j by omega] at this
     have:=this.2.1
     omega
   intro h9
   have:j=s+n:=by omega
   rw [this,e5];rfl
 obtain ⟨i,s,n,hi,e1,e2,a1,a2,a3,e4,e5⟩:=hfind j hj
 rw [a3,hends,e2]
 simp only [Int.toNat_natCast]
 rw [e1]
 by_cases hjn:j=s+n
 · rw [hjn,e5]
   have ha:(0:Int)<zbH (zcb p) 9:=by
     unfold zbH
     rw [if_neg (by decide),if_neg (by decide),if_neg (by decide)];decide
   refine ⟨by decide,⟨by decide,ha⟩,by rw [if_neg (by decide)];rfl,by rw [if_neg (by decide)];rfl⟩
 have hq:=e4 (j-s) (by omega)
 rw [show s+(j-s)=j by omega] at hq
 generalize zbG (zcb p) j=x at *
 obtain ⟨q1,q2,q3,q4,q5⟩:=hq
 refine ⟨⟨q1,by omega⟩,?_,?_,?_⟩
 · unfold zbH;exact q3
 · split at q4
   · rename_i hh
     rw [if_pos hh]
     refine ⟨q4.1,fun y hy=>?_⟩
     show y∈p.globals
     rw [hp.g];exact q4.2.1 y hy
   rename_i hh;rw [if_neg hh];exact q4
 split at q5
 · rename_i hh;rw [if_pos hh];omega
 rename_i hh;rw [if_neg hh];exact q5
end Go.Proofs.YtbnjpfjjmhodnaaGreat
namespace Go.Sh
open Rep (rep)
structure UpG (g lo:Nat) (w w':World):Prop where
 os:w'.os=w.os
 tape:w'.tape=w.tape
 output:w'.output=w.output
 size:w.heap.size≤w'.heap.size
 block:∀ b,b<w.heap.size→b<lo→b≠g→w'.heap[b]?=w.heap[b]?
section
variable {g lo:Nat} {w w' w2:World} {α:Type} [Rep α]
theorem UpG.refl (g lo:Nat) (w:World):UpG g lo w w:=⟨rfl,rfl,rfl,Nat.le_refl _,fun _ _ _ _=>rfl⟩
theorem UpG.trans (h:UpG g lo w w') (k:UpG g lo w' w2):UpG g lo w w2:=
 ⟨k.os.trans h.os,k.tape.trans h.tape,k.output.trans h.output,Nat.le_trans h.size k.size,fun b h1 h2 h3=>(k.block b (Nat.lt_of_lt_of_le h1 h.size) h2 h3).trans (h.block b h1 h2 h3)⟩
theorem UpG.mono {lo2:Nat} (h:UpG g lo w w') (hl:lo2≤lo):UpG g lo2 w w':=⟨h.os,h.tape,h.output,h.size,fun b h1 h2 h3=>h.block b h1 (by omega) h3⟩
theorem Ext.upG (h:Ext w w'):UpG g lo w w':=⟨h.os,h.tape,h.output,h.size,fun b h1 _ _=>h.block b h1⟩
theorem ChgI.upG1 (h:ChgI g (g+1) w w'):UpG g lo w w':=⟨h.os,h.tape,h.output,h.size,fun b h1 _ h3=>h.block b h1 (by omega)⟩
theorem ChgI.upG {a b:Nat} (h:ChgI a b w w') (ha:lo≤a):UpG g lo w w':=⟨h.os,h.tape,h.output,h.size,fun c h1 h2 _=>h.block c h1 (by omega)⟩
theorem Chg.upG {F:List Nat} (h:Chg (g :: F) w w') (hF:∀ c∈F,lo≤c):UpG g lo w w':=⟨h.os,h.tape,h.output,h.size,fun c h1 h2 h3=>h.block c h1 fun hm=>by
 rcases List.mem_cons.1 hm with e | hm
 · exact h3 e
 have:=hF c hm;omega⟩
theorem UpG.toI (h:UpG g lo w w') (hl:w.heap.size≤lo):ChgI g (g+1) w w':=⟨h.os,h.tape,h.output,h.size,fun b h1 h2=>h.block b h1 (by omega) (by omega)⟩
theorem Blk.upG {b e:Nat} {cs:List Value} (h:Blk b e w cs) (hu:UpG g lo w w') (h1:b<lo) (h2:b≠g):Blk b e w' cs:=h.keep (hu.block b h.lt h1 h2)
theorem OwnI.upG {a b:Nat} {v:Value} {x:α} (h:OwnI a b w v x) (hu:UpG g lo w w') (h1:b≤lo) (h2:g<a∨b≤g):OwnI a b w' v x:=by
 obtain ⟨F,hm,hF⟩:=h
 exact ⟨F,hm.keep fun c hc=>hu.block c (hm.lt c hc) (by have:=hF c hc;omega) (by have:=hF c hc;omega),hF⟩
theorem RowI.upG {a b e:Nat} {v:Value} {l:List α} (h:RowI a b e w v l) (hu:UpG g lo w w') (h1:b≤lo) (h2:g<a∨b≤g):RowI a b e w' v l:=by
 obtain ⟨F,hm,hn,hF⟩:=zcU.1 h
 exact zcU.2 ⟨F,hm.keep fun c hc=>hu.block c (hm.lt c hc) (by have:=hF c hc;omega) (by have:=hF c hc;omega),hn,hF⟩
theorem IsK.upG {a b:Nat} {v:Value} {x:α} (h:IsK a b w v x) (hu:UpG g lo w w') (h1:b≤lo) (h2:g<a∨b≤g):IsK a b w' v x:=
 ⟨Nat.le_trans h.1 hu.size,fun w3 h3=>h.2 w3 fun c h4 h5=>(h3 c h4 h5).trans (hu.block c (Nat.lt_of_lt_of_le h5 h.1) (by omega) (by omega))⟩
theorem zit {v:Value} {x:α} (h:OwnI lo lo w v x):Mine [] w v x:=by
 obtain ⟨F,hm,hF⟩:=h
 have:F=[]:=List.eq_nil_iff_forall_not_mem.2 fun c hc=>by have:=hF c hc;omega
 subst this;exact hm
theorem zn3 {hi:Nat} {n:ByteArray} {vb:Value} {l:List DStmt} (hn:n.size≤maxLen) (h:OwnI lo hi w vb l):OwnI lo hi w (.agg #[.string n,vb]) (⟨n,l⟩:DProc):=by
 obtain ⟨F,⟨⟨cs,hr,hv⟩,hnd,hw⟩,hF⟩:=h
 obtain ⟨c,rfl⟩:=zcZ hr
 simp only [mkv,Rep.agg,cond_false,List.headD_cons] at hv
 subst hv
 exact ⟨F,⟨⟨[.string n,vb],zav (F:=[]) (c1:=[.string n]) (show rep [] w [.string n] n from ⟨rfl,rfl,hn⟩) hr,rfl⟩,hnd,hw⟩,hF⟩
theorem zkb {a b c:Value} {p:DProg} {lo hi l0 h0 l1 h1 l2 h2:Nat} (m0:OwnI l0 h0 w a p.globals) (m1:OwnI l1 h1 w b p.locks) (m2:OwnI l2 h2 w c p.procs) (d01:h0≤l1∨h1≤l0) (d02:h0≤l2∨h2≤l0) (d12:h1≤l2∨h2≤l1)
   (b0:lo≤l0∧h0≤hi) (b1:lo≤l1∧h1≤hi) (b2:lo≤l2∧h2≤hi):OwnI lo hi w (.agg #[a,b,c]) p:=by
 obtain ⟨F0,M0,B0⟩:=m0
 obtain ⟨F1,M1,B1⟩:=m1
 obtain ⟨F2,M2,B2⟩:=m2
 refine ⟨F0++(F1++F2),⟨⟨[a,b,c],zav (zaV rfl M0.own) (zav (zaV rfl M1.own) (zaV rfl M2.own)),rfl⟩,?_,M0.wr.append (M1.wr.append M2.wr)⟩,fun x hx=>?_⟩
 · rw [List.nodup_append,List.nodup_append]
   refine ⟨M0.nodup,⟨M1.nodup,M2.nodup,fun p hp q hq e=>?_⟩,fun p hp q hq e=>?_⟩
   · subst e;have:=B1 p hp;have:=B2 p hq;omega
   subst e
   have:=B0 p hp
   rcases List.mem_append.1 hq with hq | hq
   · have:=B1 p hq;omega
   have:=B2 p hq;omega
 rcases List.mem_append.1 hx with hx | hx
 · have:=B0 x hx;omega
 rcases List.mem_append.1 hx with hx | hx
 · have:=B1 x hx;omega
 have:=B2 x hx;omega
end
end Go.Sh
namespace Go.Proofs.YtbnjpfjjmhodnaaGreat
open Go Go.Sh Go.Proofs
open Rep (rep)
def F200 (a0 a1:Value) (w:World) (R:VW):Prop:=
 oP (Instr.buildSlice 24 3 #[(0,(Value.string (ByteArray.mk #[97]))),(1,(Value.string (ByteArray.mk #[98]))),(2,(Value.string (ByteArray.mk #[109])))]) w fun x9 w=>
 cL 95 [a0,x9] w fun x10 w=>
 oP (Instr.buildSlice 24 3 #[(0,(Value.string (ByteArray.mk #[97]))),(1,(Value.string (ByteArray.mk #[98]))),(2,(Value.string (ByteArray.mk #[109])))]) w fun x12 w=>
 cL 95 [a0,x12] w fun x13 w=>
 rD (Instr.build 209 #[(0,(iV 6)),(1,x10)]) w fun x15=>
 oP (Instr.buildSlice 162 1 #[(0,x15)]) w fun x16 w=>
 JOIN [7] (fun J6=>
 rB .neq 9 T0 T0 x10 x13 w fun x19=>
 BR x19
 (cL 92 [a0,(iV 2)] w fun x22 w=>
 BR x22
 (rD (Instr.build 209 #[(0,(iV 6)),(1,x13)]) w fun x26=>
 oP (Instr.buildSlice 162 1 #[(0,x26)]) w fun x27 w=>
 oP (Builtin.append_ #[162,162] 162 [x16,x27].toArray) w fun x28 w=>
 J6 [x28] w)
 (J6 [x16] w))
 (J6 [x16] w)) (fun u6 w=>
 oP (Builtin.append_ #[162,162] 162 [(u6 7),a1].toArray) w fun x31 w=>
 rD (Instr.build 209 #[(0,(iV 7)),(1,x10)]) w fun x34=>
 oP (Instr.buildSlice 162 1 #[(0,x34)]) w fun x35 w=>
 oP (Builtin.append_ #[162,162] 162 [x31,x35].toArray) w fun x36 w=>
 R x36 w)
def cfg200:Cfg:=⟨extL,[(6,536739968,[7])],[],[],[],[],[]⟩
theorem F200_call {a0 a1:Value} {w:World} {R:VW} (h:F200 a0 a1 w R):cL 200 [a0,a1] w R:=co (g:=cfg200) Tryz.func200 (by kernel_rfl) (by kernel_rfl) (by kernel_rfl) h
section
variable {w:World} {K:Value→World→Prop}
theorem zn4 (k:∀ v w',Ext w w'→OwnI w.heap.size w'.heap.size w' v lks→K v w'):OP Tryz.prog (Instr.buildSlice 24 3 #[(0,(Value.string (ByteArray.mk #[97]))),(1,(Value.string (ByteArray.mk #[98]))),(2,(Value.string (ByteArray.mk #[109])))]) w K:=
 zeI (vs:=lks.map Value.string) (l:=lks) u24 ty9 zbU (by decide) (by kernel_rfl) rfl (fun w=>zb1 (by decide)) k
theorem zqN (k:∀ v w',Ext w w'→OwnI w.heap.size w'.heap.size w' v glb→K v w'):OP Tryz.prog (Instr.buildSlice 24 4 #[(0,(Value.string (ByteArray.mk #[120]))),(1,(Value.string (ByteArray.mk #[121]))),(2,(Value.string (ByteArray.mk #[122]))),(3,(Value.string (ByteArray.mk #[117])))]) w K:=
 zeI (vs:=glb.map Value.string) (l:=glb) u24 ty9 zbU (by decide) (by kernel_rfl) rfl (fun w=>zb1 (by decide)) k
theorem zqO (k:∀ v w',Ext w w'→OwnI w.heap.size w'.heap.size w' v prc4→K v w'):OP Tryz.prog (Instr.buildSlice 24 4 #[(0,(Value.string (ByteArray.mk #[109,97,105,110]))),(1,(Value.string (ByteArray.mk #[112]))),(2,(Value.string (ByteArray.mk #[113]))),(3,(Value.string (ByteArray.mk #[114])))]) w K:=
 zeI (vs:=prc4.map Value.string) (l:=prc4) u24 ty9 zbU (by decide) (by kernel_rfl) rfl (fun w=>zb1 (by decide)) k
end
mutual
theorem zp6:∀ (x:DStmt) (n:Int),0≤n→-1≤zna x n∧zna x n≤n
  | .mk k s t b e,n,hn=>by
    rw [zna]
    have h1:=zhF b (n-1) (by omega)
    have h2:=zhF e (zgK b (n-1)) h1.1
    omega
theorem zhF:∀ (l:List DStmt) (n:Int),-1≤n→-1≤zgK l n∧zgK l n≤n
  | [],n,hn=>by rw [zgK];omega
  | x :: l,n,hn=>by
    rw [zgK]
    split
    · rename_i h
      have h1:=zp6 x n h
      have h2:=zhF l (zna x n) h1.1
      omega
    omega
end
theorem zo4 (x:DStmt) (n:Int):zna x n=zgK x.els (zgK x.body (n-1)):=by cases x;rw [zna];rfl
def zp7 (l:List DStmt):Prop:=∀ {w W:World} {v:Value} {n:Int},Is W v l→Ext W w→-1≤n→n≤1000→CALL Tryz.prog 199 [v,.int .i64 n] w fun r w'=>Ext w w'∧(r=.int .i64 (zgK l n))
def F199 (a0 a1:Value) (w:World) (R:VW):Prop:=
 LOOPI [1,5] [a1,(iV 0)] w fun u2 w next2=>
 rN 162 3 a0 w fun x8=>
 rC (u2 5) x8 w fun x9=>
 BR x9
 (rB .geq 3 T0 U0 (u2 1) (iV 0) w fun x12=>
 BR x12
 ((fun w=>rX 162 a0 (u2 5) w fun x18=>
 rF 209 x18 4 w fun x19=>
 rL 162 x19 w fun x20=>
 rX 162 a0 (u2 5) w fun x23=>
 rF 209 x23 3 w fun x24=>
 rL 162 x24 w fun x25=>
 rB .sub 3 T0 U0 (u2 1) (iV 1) w fun x27=>
 (fun w_=>cL 199 [x25,x27] w_ fun x28 w=>
 Ext w_ w ∧
 cL 199 [x20,x28] w fun x29 w=>
 rA (u2 5) (iV 1) w fun x15=>
 next2 [x29,x15] w) w) (World.drew1 w))
 (R (u2 1) w))
 (R (u2 1) w)
def cfg199:Cfg:=⟨extL,[],[(2,1073741794,[1,5])],[(4,[0,1,2,3,4,5,6,7,8,9,10,11,12,13,14],4096)],[],[],[]⟩
theorem F199_call {a0 a1:Value} {w:World} {R:VW} (h:F199 a0 a1 w R):cL 199 [a0,a1] w R:=co (g:=cfg199) Tryz.func199 (by kernel_rfl) (by kernel_rfl) (by kernel_rfl) h
theorem zen {w:World} {v0:Value} {W0:World} {l:(List DStmt)} {n:Int}  (h0:Is W0 v0 l) (e0:Ext W0 w) (ih:∀ x∈l,zp7 x.body∧zp7 x.els) (hn0:-1≤n) (hn1:n≤1000) :
   CALL Tryz.prog 199 [v0,.int .i64 n] w fun r w'=>Ext w w'∧(r=.int .i64 (zgK l n)):=by
 refine F199_call ?_
 unfold F199
 refine zaF (l.length) (fun k us w'=>∃ (n1:Int),us=[.int .i64 n1,.int .i64 (k:Int)]∧Ext w w'∧(zgK l n=zgK (l.drop k) n1∧-1≤n1∧n1≤1000∧k≤l.length)) (0) (by omega) ⟨n,rfl,Ext.refl w,by simp,hn0,hn1,by omega⟩ ?_
 rintro k m2 uu2 w1_ hk2 ⟨n1,hu,hx1_,hcl,hm0,hm1,hkl⟩
 obtain ⟨hu0,hu1⟩:=zkG hu
 try rw [hu0]
 try rw [hu1]
 try clear hu0 hu1
 have hln8:=zaf h0
 refine zae zd3 h0 ?_
 refine zai ?_
 refine br (fun c1=>?_) (fun c1=>?_)
 · refine zbP ?_
   refine br (fun c2=>?_) (fun c2=>?_)
   · have hx2_:=zah w1_
     have hk:k<l.length:=by omega
     have hcb:=zhF (l[k]).body (n1-1) (by omega)
     refine zad zd3 zbp h0 (by omega) fun b18 o18 h18=>?_
     refine zaa zcC ?_
     refine zab zcB (zbZ h18) (e0.trans (hx1_.trans hx2_)) fun v20 h20=>?_
     refine zad zd3 zbp h0 (by omega) fun b23 o23 h23=>?_
     refine zaa zda ?_
     refine zab zcB (zcg h23) (e0.trans (hx1_.trans hx2_)) fun v25 h25=>?_
     refine za8 (by unfold I64;omega) ?_
     refine ((ih _ (List.getElem_mem hk)).1 h25 (e0.trans (hx1_.trans hx2_)) (by omega) (by omega)).mono ?_
     rintro _ w3_ ⟨hx3_,rfl⟩
     refine ⟨hx3_,?_⟩
     refine ((ih _ (List.getElem_mem hk)).2 h20 (e0.trans (hx1_.trans (hx2_.trans hx3_))) hcb.1 (by omega)).mono ?_
     rintro _ w4_ ⟨hx4_,rfl⟩
     refine zal (by omega) ?_
     refine ⟨m2-1,by omega,k+1,by omega,_,rfl,(hx1_.trans (hx2_.trans (hx3_.trans hx4_))),?_⟩
     have h2:=zhF (l[k]).els _ hcb.1
     refine ⟨?_,by omega,by omega,by omega⟩
     rw [hcl,List.drop_eq_getElem_cons hk,zgK,if_pos (by omega),zo4]
   refine ⟨hx1_,?_⟩
   rw [hcl]
   cases h:l.drop k with
   | nil=>rw [zgK]
   | cons x r=>rw [zgK,if_neg (by omega)]
 refine ⟨hx1_,?_⟩
 rw [hcl,List.drop_eq_nil_of_le (by omega),zgK]
theorem zhG (l:List DStmt):zp7 l:=by
 have h:∀ x:DStmt,zp7 x.body∧zp7 x.els:=fun x=>by
   refine DStmt.ind (p:=fun x=>zp7 x.body∧zp7 x.els) (fun t hb he=>⟨?_,?_⟩) x
   · intro w W v n h e h0 h1;exact zen h e hb h0 h1
   intro w W v n h e h0 h1;exact zen h e he h0 h1
 intro w W v n hv e h0 h1
 exact zen hv e (fun x _=>h x) h0 h1
theorem zjh {W w:World} {g lo1 hi1:Nat} {bs:List UInt8} {s:Cur} {v1:Value} {body:List DStmt} (hC:CurAt W g bs s w) (h1:OwnI lo1 hi1 w v1 body) (hlo:lo1≤w.heap.size) (hhi:hi1≤w.heap.size) (hg1:g<lo1) (hbl:body.length≤1000) :
   CALL Tryz.prog 200 [.pointer (some ⟨g,0,none⟩),v1] w fun r w'=>UpG g lo1 w w'∧CurAt W g bs (zhz bs body s).2 w'∧RowI lo1 w'.heap.size 209 w' r (zhz bs body s).1:=by
 have hgl:=hC.lt
 have hl3:((lks.length:Nat):Int)=3:=rfl
 refine F200_call ?_
 unfold F200
 refine zn4 fun v9 w1 hx1 o9=>?_
 have hs1:=hx1.size
 refine (zcy (hC.ext hx1) o9 (by omega) (by omega) (by omega) (by decide) (by decide)).mono ?_
 rintro _ w2 ⟨hc2,hC2,rfl,hS10⟩
 have hs2:=hc2.size
 rw [hl3] at hC2
 refine zn4 fun v12 w3 hx3 o12=>?_
 have hs3:=hx3.size
 refine (zcy (hC2.ext hx3) o12 (by omega) (by omega) (by omega) (by decide) (by decide)).mono ?_
 rintro _ w4 ⟨hc4,hC4,rfl,hS13⟩
 have hs4:=hc4.size
 rw [hl3] at hC4
 refine zca (lo:=w4.heap.size) (hi:=w4.heap.size) (Nat.le_refl _) (by unfold I64;omega) hS10 fun v15 o15=>?_
 refine ze2 (β:=DStmt) zd3 zbp zqq (by decide) (zit o15) fun v16 w5 hx5 r16=>?_
 have hs5:=hx5.size
 have hu5:UpG g lo1 w w5:=(hx1.upG.trans hc2.upG1).trans ((hx3.upG.trans hc4.upG1).trans hx5.upG)
 have h15:=((((h1.ext hx1).chg hc2 (by omega)).ext hx3).chg hc4 (by omega)).ext hx5
 have hC5:=hC4.ext hx5
 obtain ⟨na,hna⟩:∃ x,x=zb8 bs lks s:=⟨_,rfl⟩
 obtain ⟨nb,hnb⟩:∃ x,x=zb8 bs lks (zaj bs 3 s):=⟨_,rfl⟩
 rw [←hna] at hS10 o15 r16
 rw [←hnb] at hS13
 rw [←hna,←hnb]
 have hg:zhz bs body s=(if na=nb then (zd8 na :: (body++[zcN na]),zaj bs 3 (zaj bs 3 s)) else if zbg bs 2 (zaj bs 3 (zaj bs 3 s))=0 then (zd8 na :: zd8 nb :: (body++[zcN na]),zaj bs 2 (zaj bs 3 (zaj bs 3 s)))
     else (zd8 na :: (body++[zcN na]),zaj bs 2 (zaj bs 3 (zaj bs 3 s)))):=by unfold zhz;rw [←hna,←hnb]
 clear hna hnb
 refine JOIN.mk (fun us w'=>∃ v l s',us=[v]∧ChgI g (g+1) w4 w'∧CurAt W g bs s' w'∧RowI w4.heap.size w'.heap.size 209 w' v l∧l.length≤2∧zhz bs body s=(l++(body++[zcN na]),s')) ?_ ?_
 · refine ziQ ?_
   refine br (fun hne=>?_) (fun he=>?_)
   · refine (ze0 hC5 (by omega)).mono ?_
     rintro _ w6 ⟨hc6,hC6,rfl⟩
     have hs6:=hc6.size
     have r6:=r16.chg hc6 (by omega)
     refine br (fun h0=>?_) (fun h0=>?_)
     · refine zca (lo:=w6.heap.size) (hi:=w6.heap.size) (Nat.le_refl _) (by unfold I64;omega) hS13 fun v26 o26=>?_
       refine zeF (α:=DStmt) zd3 zbp zqq zmv (by decide) r6 (by omega) o26 (by omega) (by omega) (by rw [zak];simp) (by simp) fun v28 w7 hc7 r28=>?_
       refine ⟨v28,[zd8 na,zd8 nb],_,rfl,ChgI.out (hx5.toI.trans hc6) hc7 (by omega),hC6.chg hc7 (by omega) (by omega),r28,by simp,?_⟩
       rw [hg,if_neg hne,if_pos h0];rfl
     refine ⟨v16,[zd8 na],_,rfl,hx5.toI.trans hc6,hC6,r6.mono (by omega) (by omega),by simp,?_⟩
     rw [hg,if_neg hne,if_neg h0];rfl
   refine ⟨v16,[zd8 na],_,rfl,hx5.toI,hC5,r16,by simp,?_⟩
   rw [hg,if_pos (Decidable.not_not.1 he)];rfl
 rintro u6 w6 ⟨v,l,s',hu,hc6,hC6,r6,hll,hgd⟩
 simp only [List.map_cons,List.map_nil,List.cons.injEq,and_true] at hu
 rw [hu,hgd]
 have hs6:=hc6.size
 have h16:=(((((h1.ext hx1).chg hc2 (by omega)).ext hx3).chg hc4 (by omega))).chg hc6 (by omega)
 refine zgt (α:=DStmt) (lo0:=lo1) zd3 zbp zmv r6 (by omega) h16 (by omega) (by omega) (by omega) (by rw [zak];omega) (by omega) fun v31 w7 hc7 r31=>?_
 have hs7:=hc7.size
 refine zca (lo:=w7.heap.size) (hi:=w7.heap.size) (Nat.le_refl _) (by unfold I64;omega) hS10 fun v34 o34=>?_
 refine zeF (α:=DStmt) zd3 zbp zqq zmv (by decide) r31 (by omega) o34 (by omega) (by omega) (by rw [zak,List.length_append];omega) (by rw [List.length_append];omega) fun v36 w8 hc8 r36=>?_
 refine ⟨(((hx1.upG.trans hc2.upG1).trans (hx3.upG.trans hc4.upG1)).trans hc6.upG1).trans ((hc7.upG (by omega)).trans (hc8.upG (by omega))),(hC6.chg hc7 (by omega) (by omega)).chg hc8 (by omega) (by omega),?_⟩
 simpa [zcN] using r36
theorem zo5 {P:Program} {X:Nat→Prop} {m:Sem Value} {w:World} {v:Value} {K:Value→Prop} (h:∀ w':World,m.run P w'=.ok v w') (k:K v):RDX P X m w K:=⟨v,fun w' _=>h w',k⟩
theorem zn5 (bs:List UInt8) (s:Cur):2≤(zhA bs s).length∧(zhA bs s).length≤4:=by
 have:=znU bs s
 unfold zhA
 rw [List.length_take]
 show 2≤min _ 4∧min _ 4≤4
 omega
end Go.Proofs.YtbnjpfjjmhodnaaGreat
namespace Go.Sh
open Rep (rep)
section
variable {P:Program} {w w0 w':World} {α:Type} [Rep α] {lo hi e:Nat} {v:Value} {l:List α}
theorem RowG.flat [Flat α] {F:List Nat} (h:RowG F e w v l):F=[]∨∃ b,F=[b]:=by
 rcases h with ⟨_,_,_,rfl⟩ | ⟨xs,Fi,_,hc,rfl,_⟩
 · exact .inl rfl
 have:=Cells.flat (xs:=xs) hc
 subst this
 rcases hv:v.ownBlock with _ | b
 · exact .inl (by simp)
 exact .inr ⟨b,by simp⟩
theorem zn6 [RepZ α]:OwnI lo hi w (mkv α (RepZ.zc α)) (RepZ.zv:α):=⟨[],⟨⟨RepZ.zc α,RepZ.zr w,rfl⟩,List.nodup_nil,Wr.nil w⟩,by simp⟩
theorem Chg.ofI {F:List Nat} (h:Chg F w w') (hF:∀ b∈F,lo≤b∧b<hi):ChgI lo hi w w':=
 ⟨h.os,h.tape,h.output,h.size,fun b hb hx=>h.block b hb fun hm=>by have:=hF b hm;omega⟩
theorem ChgI.ext_left {w1:World} (hx:Ext w w1) (h:ChgI lo hi w1 w'):ChgI lo hi w w':=
 ⟨h.os.trans hx.os,h.tape.trans hx.tape,h.output.trans hx.output,Nat.le_trans hx.size h.size,fun b hb ho=>by rw [h.block b (Nat.lt_of_lt_of_le hb hx.size) ho,hx.block b hb]⟩
theorem zhH [Flat α] {t ty:TypeId} {by_:Nat} {u:Value} {x:α} {lo2 hi2:Nat} {K:Value→World→Prop} (ht:P.underlying t=some (.slice e)) (he:tyI P e=some (Rep.size α,by_,Rep.agg α)) (hz:zbQ P e=true)
   (hzc:(P.info? e).map (fun i=>(i.zero.map (·.cells.size)))=some (some (Rep.size α))) (hsz:Rep.size α≤1000) (hv:RowI lo hi e w v l) (hx:OwnI lo2 hi2 w u x) (hm:l.length+1≤maxLen) (hb:(l.length+1)*by_≤140737488355328)
   (k:∀ v' w' lo' hi',ChgI lo hi w w'→RowI lo' hi' e w' v' (l++[x])→(lo'=lo∧hi'=hi∨lo'=w.heap.size∧hi'=w'.heap.size)→K v' w'):OP P (Instr.buildSlice t 1 #[(0,u)]) w fun s w1=>OP P (Builtin.append_ #[t,t] ty [v,s].toArray) w1 K:=by
 obtain ⟨F,h1,h2,h3⟩:=zcU.1 hv
 obtain ⟨G,hmx,hG⟩:=hx
 have hGn:G=[]:=by obtain ⟨cs,hr,_⟩:=hmx.own;exact Flat.flat hr
 subst hGn
 refine zdn (K:=fun _=>K) ht he hz hzc hsz h1 h2 hmx (by simp) hm hb (fun w1 v' w' G' hx1 hc hR hN hs=>?_) fun _ _ _ h=>h
 have hcI:=ChgI.ext_left hx1 (hc.ofI h3)
 have hlt:=hR.lt
 rcases hR.flat with rfl | ⟨b,rfl⟩
 · exact k v' w' lo hi hcI (zcU.2 ⟨[],hR,hN,by simp⟩) (.inl ⟨rfl,rfl⟩)
 rcases hs b (by simp) with h | h | h
 · exact k v' w' lo hi hcI (zcU.2 ⟨[b],hR,hN,fun c hc=>by simp at hc;subst hc;exact h3 _ h⟩) (.inl ⟨rfl,rfl⟩)
 · cases h
 exact k v' w' w.heap.size w'.heap.size hcI (zcU.2 ⟨[b],hR,hN,fun c hc=>by simp at hc;subst hc;exact ⟨h,hlt _ (by simp)⟩⟩) (.inr ⟨rfl,rfl⟩)
end
end Go.Sh
namespace Go.Proofs.YtbnjpfjjmhodnaaGreat
open Go Go.Sh Go.Proofs
open Rep (rep)
def F316 (a0 a1:Value) (w:World) (R:VW):Prop:=
 LOOPI [5] [(iV 0)] w fun u2 w next2=>
 rN 162 3 a0 w fun x10=>
 rC (u2 5) x10 w fun x11=>
 BR x11
 (rX 162 a0 (u2 5) w fun x16=>
 rL 209 x16 w fun x17=>
 oP (Instr.alloc 209 true (.tuple #[])) w fun x6 w=>
 oS 209 x6 x17 w fun w=>
 JOIN [7] (fun J6=>
 rF 209 x6 0 w fun x18=>
 rL 3 x18 w fun x19=>
 rB .eql 3 T0 U0 x19 (iV 2) w fun x20=>
 BR x20
 (J6 [(Value.bool true)] w)
 (rF 209 x6 0 w fun x22=>
 rL 3 x22 w fun x23=>
 rB .eql 3 T0 U0 x23 (iV 3) w fun x24=>
 J6 [x24] w)) (fun u6 w=>
 rL 209 x6 w fun x26=>
 cL 340 [x26] w fun x27 w=>
 rD (Op.unary .not x27) w fun x28=>
 BR x28
 (R (Value.bool false) w)
 (GBR (u6 7)
 (rB .eql 3 T0 U0 a1 (iV 0) w fun x33=>
 BR x33
 (R (Value.bool false) w)
 (GBR (u6 7)
 (rF 209 x6 3 w fun x39=>
 rL 162 x39 w fun x40=>
 rB .sub 3 T0 U0 a1 (iV 1) w fun x42=>
 cL 316 [x40,x42] w fun x43 w=>
 rD (Op.unary .not x43) w fun x44=>
 GBR x44
 (R (Value.bool false) w)
 (rF 209 x6 4 w fun x46=>
 rL 162 x46 w fun x47=>
 rB .sub 3 T0 U0 a1 (iV 1) w fun x49=>
 cL 316 [x47,x49] w fun x50 w=>
 rD (Op.unary .not x50) w fun x51=>
 BR x51
 (R (Value.bool false) w)
 (rA (u2 5) (iV 1) w fun x13=>
 next2 [x13] w))
 (BR undef
 (R (Value.bool false) w)
 (BR undef
 (R (Value.bool false) w)
 (rA (u2 5) (iV 1) w fun x13=>
 next2 [x13] w))))
 (rA (u2 5) (iV 1) w fun x13=>
 next2 [x13] w)
 (BR undef
 (BR undef
 (R (Value.bool false) w)
 (rA (u2 5) (iV 1) w fun x13=>
 next2 [x13] w))
 (rA (u2 5) (iV 1) w fun x13=>
 next2 [x13] w))))
 (GBR (u6 7)
 (rF 209 x6 3 w fun x39=>
 rL 162 x39 w fun x40=>
 rB .sub 3 T0 U0 a1 (iV 1) w fun x42=>
 cL 316 [x40,x42] w fun x43 w=>
 rD (Op.unary .not x43) w fun x44=>
 GBR x44
 (R (Value.bool false) w)
 (rF 209 x6 4 w fun x46=>
 rL 162 x46 w fun x47=>
 rB .sub 3 T0 U0 a1 (iV 1) w fun x49=>
 cL 316 [x47,x49] w fun x50 w=>
 rD (Op.unary .not x50) w fun x51=>
 BR x51
 (R (Value.bool false) w)
 (rA (u2 5) (iV 1) w fun x13=>
 next2 [x13] w))
 (BR undef
 (R (Value.bool false) w)
 (BR undef
 (R (Value.bool false) w)
 (rA (u2 5) (iV 1) w fun x13=>
 next2 [x13] w))))
 (rA (u2 5) (iV 1) w fun x13=>
 next2 [x13] w)
 (BR undef
 (BR undef
 (R (Value.bool false) w)
 (rA (u2 5) (iV 1) w fun x13=>
 next2 [x13] w))
 (rA (u2 5) (iV 1) w fun x13=>
 next2 [x13] w)))
 (BR undef
 (BR undef
 (R (Value.bool false) w)
 (GBR (u6 7)
 (rF 209 x6 3 w fun x39=>
 rL 162 x39 w fun x40=>
 rB .sub 3 T0 U0 a1 (iV 1) w fun x42=>
 cL 316 [x40,x42] w fun x43 w=>
 rD (Op.unary .not x43) w fun x44=>
 GBR x44
 (R (Value.bool false) w)
 (rF 209 x6 4 w fun x46=>
 rL 162 x46 w fun x47=>
 rB .sub 3 T0 U0 a1 (iV 1) w fun x49=>
 cL 316 [x47,x49] w fun x50 w=>
 rD (Op.unary .not x50) w fun x51=>
 BR x51
 (R (Value.bool false) w)
 (rA (u2 5) (iV 1) w fun x13=>
 next2 [x13] w))
 (BR undef
 (R (Value.bool false) w)
 (BR undef
 (R (Value.bool false) w)
 (rA (u2 5) (iV 1) w fun x13=>
 next2 [x13] w))))
 (rA (u2 5) (iV 1) w fun x13=>
 next2 [x13] w)
 (BR undef
 (BR undef
 (R (Value.bool false) w)
 (rA (u2 5) (iV 1) w fun x13=>
 next2 [x13] w))
 (rA (u2 5) (iV 1) w fun x13=>
 next2 [x13] w))))
 (GBR (u6 7)
 (rF 209 x6 3 w fun x39=>
 rL 162 x39 w fun x40=>
 rB .sub 3 T0 U0 a1 (iV 1) w fun x42=>
 cL 316 [x40,x42] w fun x43 w=>
 rD (Op.unary .not x43) w fun x44=>
 GBR x44
 (R (Value.bool false) w)
 (rF 209 x6 4 w fun x46=>
 rL 162 x46 w fun x47=>
 rB .sub 3 T0 U0 a1 (iV 1) w fun x49=>
 cL 316 [x47,x49] w fun x50 w=>
 rD (Op.unary .not x50) w fun x51=>
 BR x51
 (R (Value.bool false) w)
 (rA (u2 5) (iV 1) w fun x13=>
 next2 [x13] w))
 (BR undef
 (R (Value.bool false) w)
 (BR undef
 (R (Value.bool false) w)
 (rA (u2 5) (iV 1) w fun x13=>
 next2 [x13] w))))
 (rA (u2 5) (iV 1) w fun x13=>
 next2 [x13] w)
 (BR undef
 (BR undef
 (R (Value.bool false) w)
 (rA (u2 5) (iV 1) w fun x13=>
 next2 [x13] w))
 (rA (u2 5) (iV 1) w fun x13=>
 next2 [x13] w)))))))
 (R (Value.bool true) w)
def cfg316:Cfg:=⟨extL,[(6,66846848,[7])],[(2,36028797018963952,[5])],[],[],[],[]⟩
theorem F316_call {a0 a1:Value} {w:World} {R:VW} (h:F316 a0 a1 w R):cL 316 [a0,a1] w R:=co (g:=cfg316) Tryz.func316 (by kernel_rfl) (by kernel_rfl) (by kernel_rfl) h
def F274 (a0:Value) (w:World) (R:VW):Prop:=
 cL 199 [a0,(iV 60)] w fun x4 w=>
 rB .geq 3 T0 U0 x4 (iV 0) w fun x5=>
 BR x5
 (cL 316 [a0,(iV 6)] w fun x8 w=>
 R x8 w)
 (R (Value.bool false) w)
def cfg274:Cfg:=⟨extL,[],[],[],[],[],[]⟩
theorem F274_call {a0:Value} {w:World} {R:VW} (h:F274 a0 w R):cL 274 [a0] w R:=co (g:=cfg274) Tryz.func274 (by kernel_rfl) (by kernel_rfl) (by kernel_rfl) h
def F223 (a0:Value) (w:World) (R:VW):Prop:=
 oP (Instr.box 112 a0) w fun x1 w=>
 oP (Instr.buildSlice 24 0 #[]) w fun x5 w=>
 LOOPI [3,4] [x5,(iV 0)] w fun u3 w next3=>
 rF 112 x1 2 w fun x7=>
 rL 110 x7 w fun x8=>
 rN 110 3 x8 w fun x9=>
 rC (u3 4) x9 w fun x10=>
 BR x10
 (rF 112 x1 2 w fun x14=>
 rL 110 x14 w fun x15=>
 rX 110 x15 (u3 4) w fun x17=>
 rF 164 x17 0 w fun x18=>
 rL 9 x18 w fun x19=>
 oP (Instr.buildSlice 24 1 #[(0,x19)]) w fun x20 w=>
 oP (Builtin.append_ #[24,24] 24 [(u3 3),x20].toArray) w fun x21 w=>
 rA (u3 4) (iV 1) w fun x12=>
 next3 [x21,x12] w)
 (R (u3 3) w)
def cfg223:Cfg:=⟨extL,[],[(3,4194264,[3,4])],[],[],[],[]⟩
theorem F223_call {a0:Value} {w:World} {R:VW} (h:F223 a0 w R):cL 223 [a0] w R:=co (g:=cfg223) Tryz.func223 (by kernel_rfl) (by kernel_rfl) (by kernel_rfl) h
def F317 (a0 a1 a2:Value) (w:World) (R:VW):Prop:=
 cL 233 [a1,a2] w fun x9 w=>
 BR x9
 (R a0 w)
 (cL 233 [a0,a2] w fun x13 w=>
 BR x13
 (R a0 w)
 (oP (Instr.buildSlice 24 1 #[(0,a2)]) w fun x18 w=>
 oP (Builtin.append_ #[24,24] 24 [a0,x18].toArray) w fun x19 w=>
 R x19 w))
def cfg317:Cfg:=⟨extL,[],[],[],[],[],[]⟩
theorem F317_call {a0 a1 a2:Value} {w:World} {R:VW} (h:F317 a0 a1 a2 w R):cL 317 [a0,a1,a2] w R:=co (g:=cfg317) Tryz.func317 (by kernel_rfl) (by kernel_rfl) (by kernel_rfl) h
def F275 (a0 a1 a2:Value) (w:World) (R:VW):Prop:=
 oP (Instr.box 112 a0) w fun x3 w=>
 LOOPI [2,7] [a2,(iV 0)] w fun u2 w next2=>
 rN 162 3 a1 w fun x13=>
 rC (u2 7) x13 w fun x14=>
 BR x14
 (rX 162 a1 (u2 7) w fun x19=>
 rL 209 x19 w fun x20=>
 oP (Instr.alloc 209 true (.tuple #[])) w fun x8 w=>
 oS 209 x8 x20 w fun w=>
 JOIN [2] (fun J14=>
 rF 209 x8 0 w fun x21=>
 rL 3 x21 w fun x22=>
 rB .eql 3 T0 U0 x22 (iV 1) w fun x24=>
 BR x24
 (rF 112 x3 0 w fun x26=>
 rL 24 x26 w fun x27=>
 rF 209 x8 1 w fun x28=>
 rL 9 x28 w fun x29=>
 cL 317 [(u2 2),x27,x29] w fun x30 w=>
 J14 [x30] w)
 (rB .eql 3 T0 U0 x22 (iV 6) w fun x32=>
 BR x32
 (rF 112 x3 1 w fun x35=>
 rL 24 x35 w fun x36=>
 rF 209 x8 1 w fun x37=>
 rL 9 x37 w fun x38=>
 cL 317 [(u2 2),x36,x38] w fun x39 w=>
 J14 [x39] w)
 (rB .eql 3 T0 U0 x22 (iV 7) w fun x33=>
 BR x33
 (rF 112 x3 1 w fun x35=>
 rL 24 x35 w fun x36=>
 rF 209 x8 1 w fun x37=>
 rL 9 x37 w fun x38=>
 cL 317 [(u2 2),x36,x38] w fun x39 w=>
 J14 [x39] w)
 (rB .eql 3 T0 U0 x22 (iV 4) w fun x41=>
 BR x41
 ((fun w=>rL 112 x3 w fun x44=>
 rF 209 x8 1 w fun x46=>
 rL 9 x46 w fun x47=>
 (fun w_=>cL 223 [x44] w_ fun x45 w=>
 Ext w_ w ∧
 cL 317 [(u2 2),x45,x47] w fun x48 w=>
 J14 [x48] w) w) (World.drew1 w))
 (rB .eql 3 T0 U0 x22 (iV 5) w fun x42=>
 BR x42
 ((fun w=>rL 112 x3 w fun x44=>
 rF 209 x8 1 w fun x46=>
 rL 9 x46 w fun x47=>
 (fun w_=>cL 223 [x44] w_ fun x45 w=>
 Ext w_ w ∧
 cL 317 [(u2 2),x45,x47] w fun x48 w=>
 J14 [x48] w) w) (World.drew1 w))
 (J14 [(u2 2)] w)))))) (fun u14 w=>
 JOIN [2] (fun J20=>
 rF 209 x8 0 w fun x49=>
 rL 3 x49 w fun x50=>
 rB .eql 3 T0 U0 x50 (iV 1) w fun x51=>
 BR x51
 (rF 209 x8 2 w fun x62=>
 rL 75 x62 w fun x63=>
 cL 215 [x63] w fun x64 w=>
 LOOPI [2,10] [(u14 2),(iV 0)] w fun u17 w next17=>
 rN 24 3 x64 w fun x67=>
 rC (u17 10) x67 w fun x68=>
 BR x68
 ((fun w=>rF 112 x3 0 w fun x72=>
 rL 24 x72 w fun x73=>
 rX 24 x64 (u17 10) w fun x76=>
 rL 9 x76 w fun x77=>
 cL 317 [(u17 2),x73,x77] w fun x78 w=>
 rA (u17 10) (iV 1) w fun x70=>
 next17 [x78,x70] w) (World.drew1 w))
 (J20 [(u17 2)] w))
 (rF 209 x8 0 w fun x53=>
 rL 3 x53 w fun x54=>
 rB .eql 3 T0 U0 x54 (iV 2) w fun x55=>
 BR x55
 (rF 209 x8 2 w fun x62=>
 rL 75 x62 w fun x63=>
 cL 215 [x63] w fun x64 w=>
 LOOPI [2,10] [(u14 2),(iV 0)] w fun u17 w next17=>
 rN 24 3 x64 w fun x67=>
 rC (u17 10) x67 w fun x68=>
 BR x68
 ((fun w=>rF 112 x3 0 w fun x72=>
 rL 24 x72 w fun x73=>
 rX 24 x64 (u17 10) w fun x76=>
 rL 9 x76 w fun x77=>
 cL 317 [(u17 2),x73,x77] w fun x78 w=>
 rA (u17 10) (iV 1) w fun x70=>
 next17 [x78,x70] w) (World.drew1 w))
 (J20 [(u17 2)] w))
 (rF 209 x8 0 w fun x58=>
 rL 3 x58 w fun x59=>
 rB .eql 3 T0 U0 x59 (iV 3) w fun x60=>
 BR x60
 (rF 209 x8 2 w fun x62=>
 rL 75 x62 w fun x63=>
 cL 215 [x63] w fun x64 w=>
 LOOPI [2,10] [(u14 2),(iV 0)] w fun u17 w next17=>
 rN 24 3 x64 w fun x67=>
 rC (u17 10) x67 w fun x68=>
 BR x68
 ((fun w=>rF 112 x3 0 w fun x72=>
 rL 24 x72 w fun x73=>
 rX 24 x64 (u17 10) w fun x76=>
 rL 9 x76 w fun x77=>
 cL 317 [(u17 2),x73,x77] w fun x78 w=>
 rA (u17 10) (iV 1) w fun x70=>
 next17 [x78,x70] w) (World.drew1 w))
 (J20 [(u17 2)] w))
 (J20 [(u14 2)] w)))) (fun u20 w=>
 rL 112 x3 w fun x79=>
 rF 209 x8 3 w fun x80=>
 rL 162 x80 w fun x81=>
 cL 275 [x79,x81,(u20 2)] w fun x83 w=>
 rL 112 x3 w fun x84=>
 rF 209 x8 4 w fun x85=>
 rL 162 x85 w fun x86=>
 cL 275 [x84,x86,x83] w fun x88 w=>
 rA (u2 7) (iV 1) w fun x16=>
 next2 [x88,x16] w)))
 (R (u2 2) w)
def cfg275:Cfg:=⟨extL,[(14,562949951324164,[2]),(20,604462909244364633933316,[2])],[(2,618970019642690137449561988,[2,7]),(17,604426016319167168250884,[2,10])],[(13,[0,1,3,4,2,5,6],4),(19,[0,1,2,3,4,5,6,7,8],0)],[],[],[]⟩
theorem F275_call {a0 a1 a2:Value} {w:World} {R:VW} (h:F275 a0 a1 a2 w R):cL 275 [a0,a1,a2] w R:=co (g:=cfg275) Tryz.func275 (by kernel_rfl) (by kernel_rfl) (by kernel_rfl) h
def F222 (a0:Value) (w:World) (R:VW):Prop:=
 oP (Instr.box 112 a0) w fun x1 w=>
 rF 112 x1 0 w fun x4=>
 rL 24 x4 w fun x5=>
 cL 211 [x5,(iV 6)] w fun x6 w=>
 rD (Op.unary .not x6) w fun x7=>
 BR x7
 (R (Value.bool false) w)
 (rF 112 x1 1 w fun x9=>
 rL 24 x9 w fun x10=>
 cL 211 [x10,(iV 6)] w fun x11 w=>
 rD (Op.unary .not x11) w fun x12=>
 BR x12
 (R (Value.bool false) w)
 (rF 112 x1 2 w fun x15=>
 rL 110 x15 w fun x16=>
 rN 110 3 x16 w fun x17=>
 rB .gtr 3 T0 U0 x17 (iV 8) w fun x18=>
 BR x18
 (R (Value.bool false) w)
 (LOOPI [3] [(iV 0)] w fun u4 w next4=>
 rF 112 x1 2 w fun x21=>
 rL 110 x21 w fun x22=>
 rN 110 3 x22 w fun x23=>
 rC (u4 3) x23 w fun x24=>
 BR x24
 (rF 112 x1 2 w fun x27=>
 rL 110 x27 w fun x28=>
 rX 110 x28 (u4 3) w fun x30=>
 rF 164 x30 0 w fun x31=>
 rL 9 x31 w fun x32=>
 cL 261 [x32] w fun x33 w=>
 rD (Op.unary .not x33) w fun x34=>
 BR x34
 (R (Value.bool false) w)
 (rF 112 x1 2 w fun x36=>
 rL 110 x36 w fun x37=>
 rX 110 x37 (u4 3) w fun x39=>
 rF 164 x39 1 w fun x40=>
 rL 162 x40 w fun x41=>
 cL 274 [x41] w fun x42 w=>
 rD (Op.unary .not x42) w fun x43=>
 BR x43
 (R (Value.bool false) w)
 (rA (u4 3) (iV 1) w fun x26=>
 next4 [x26] w)))
 (R (Value.bool true) w))))
def cfg222:Cfg:=⟨extL,[],[(4,35184371040268,[3])],[],[],[],[]⟩
theorem F222_call {a0:Value} {w:World} {R:VW} (h:F222 a0 w R):cL 222 [a0] w R:=co (g:=cfg222) Tryz.func222 (by kernel_rfl) (by kernel_rfl) (by kernel_rfl) h
def F224 (a0:Value) (w:World) (R:VW):Prop:=
 oP (Instr.box 112 a0) w fun x1 w=>
 oP (Instr.buildSlice 24 0 #[]) w fun x5 w=>
 LOOPI [3,4] [x5,(iV 0)] w fun u3 w next3=>
 rL 112 x1 w fun x6=>
 cL 222 [x6] w fun x7 w=>
 BR x7
 (rF 112 x1 2 w fun x10=>
 rL 110 x10 w fun x11=>
 rN 110 3 x11 w fun x12=>
 rC (u3 4) x12 w fun x13=>
 BR x13
 ((fun w=>rL 112 x1 w fun x17=>
 rF 112 x1 2 w fun x18=>
 rL 110 x18 w fun x19=>
 rX 110 x19 (u3 4) w fun x21=>
 rF 164 x21 1 w fun x22=>
 rL 162 x22 w fun x23=>
 cL 275 [x17,x23,(u3 3)] w fun x25 w=>
 rA (u3 4) (iV 1) w fun x16=>
 next3 [x25,x16] w) (World.drew1 w))
 (R (u3 3) w))
 (R (u3 3) w)
def cfg224:Cfg:=⟨extL,[],[(3,67108824,[3,4])],[(5,[0,1,2,3,4,5,6,7,8,9],0)],[],[],[]⟩
theorem F224_call {a0:Value} {w:World} {R:VW} (h:F224 a0 w R):cL 224 [a0] w R:=co (g:=cfg224) Tryz.func224 (by kernel_rfl) (by kernel_rfl) (by kernel_rfl) h
def F158 (a0:Value) (w:World) (R:VW):Prop:=
 oP (Instr.box 112 a0) w fun x1 w=>
 rL 112 x1 w fun x4=>
 cL 222 [x4] w fun x5 w=>
 rD (Op.unary .not x5) w fun x6=>
 BR x6
 (R (iV 1) w)
 (rF 112 x1 0 w fun x8=>
 rL 24 x8 w fun x9=>
 cL 212 [x9] w fun x10 w=>
 BR x10
 (R (iV 2) w)
 (rF 112 x1 1 w fun x12=>
 rL 24 x12 w fun x13=>
 cL 212 [x13] w fun x14 w=>
 BR x14
 (R (iV 2) w)
 (rL 112 x1 w fun x17=>
 cL 223 [x17] w fun x18 w=>
 cL 212 [x18] w fun x19 w=>
 BR x19
 (R (iV 2) w)
 (rL 112 x1 w fun x22=>
 cL 224 [x22] w fun x23 w=>
 rN 24 3 x23 w fun x24=>
 rB .gtr 3 T0 U0 x24 (iV 0) w fun x25=>
 BR x25
 (R (iV 3) w)
 (rL 112 x1 w fun x27=>
 cL 225 [x27,(Value.string (ByteArray.mk #[109,97,105,110]))] w fun x28 w=>
 rB .lss 3 T0 U0 x28 (iV 0) w fun x29=>
 BR x29
 (R (iV 4) w)
 (R (iV 0) w))))))
def cfg158:Cfg:=⟨extL,[],[],[],[],[],[]⟩
theorem F158_call {a0:Value} {w:World} {R:VW} (h:F158 a0 w R):cL 158 [a0] w R:=co (g:=cfg158) Tryz.func158 (by kernel_rfl) (by kernel_rfl) (by kernel_rfl) h
def zrj (t:DStmt):Prop:=(t.kind=1∧zaZ t.name=true∧zaI 6 t.term=true∧t.body=[]∧t.els=[])∨((t.kind=4∨t.kind=5∨t.kind=6∨t.kind=7)∧zaZ t.name=true∧t.term=term0∧t.body=[]∧t.els=[]) ∨
 (t.kind=8∧t.name=ByteArray.mk #[]∧t.term=term0∧t.body=[]∧t.els=[])∨(t.kind=2∧t.name=ByteArray.mk #[]∧zaI 6 t.term=true)∨(t.kind=3∧t.name=ByteArray.mk #[]∧zaI 6 t.term=true∧t.els=[])
theorem StR.one {pr:List ByteArray} {n:Nat} {t:DStmt} (hp:∀ x∈pr,zaZ x=true) (h:StR pr n t):zrj t:=by
 have h0:St0 pr t→zrj t:=fun h=>by
   rcases h with ⟨h1,h2,h3,h4,h5⟩ | ⟨h1,h2,h3,h4,h5⟩ | ⟨h1,h2,h3,h4,h5⟩ | ⟨h1,h2,h3,h4,h5⟩
   · exact .inl ⟨h1,zlV h2,h3.1,h4,h5⟩
   · exact .inr (.inl ⟨by omega,hp _ h2,h3,h4,h5⟩)
   · exact .inr (.inl ⟨by omega,zoX h2,h3,h4,h5⟩)
   exact .inr (.inr (.inl ⟨h1,h2,h3,h4,h5⟩))
 cases n with
 | zero=>exact h0 h.zero
 | succ n=>
   rcases h.succ with h | ⟨h1,h2,h3,h4,h5⟩
   · exact h0 h
   rcases h1 with h1 | ⟨h1,h6⟩
   · exact .inr (.inr (.inr (.inl ⟨h1,h2,h3.1⟩)))
   exact .inr (.inr (.inr (.inr ⟨h1,h2,h3.1,h6⟩)))
def F340 (a0:Value) (w:World) (R:VW):Prop:=
 oP (Instr.box 209 a0) w fun x1 w=>
 rF 209 x1 2 w fun x4=>
 rL 75 x4 w fun x5=>
 rD (Instr.build 75 #[]) w fun x6=>
 cL 216 [x5,x6] w fun x7 w=>
 rF 209 x1 0 w fun x8=>
 rL 3 x8 w fun x9=>
 rB .eql 3 T0 U0 x9 (iV 1) w fun x11=>
 BR x11
 (rF 209 x1 1 w fun x12=>
 rL 9 x12 w fun x13=>
 cL 261 [x13] w fun x14 w=>
 BR x14
 (rF 209 x1 2 w fun x16=>
 rL 75 x16 w fun x17=>
 cL 214 [x17] w fun x18 w=>
 BR x18
 (rF 209 x1 3 w fun x21=>
 rL 162 x21 w fun x22=>
 rN 162 3 x22 w fun x23=>
 rF 209 x1 4 w fun x24=>
 rL 162 x24 w fun x25=>
 rN 162 3 x25 w fun x26=>
 rB .add 3 T0 T0 x23 x26 w fun x27=>
 rB .eql 3 T0 U0 x27 (iV 0) w fun x28=>
 R x28 w)
 (R (Value.bool false) w))
 (R (Value.bool false) w))
 (rB .eql 3 T0 U0 x9 (iV 2) w fun x31=>
 BR x31
 (rF 209 x1 1 w fun x32=>
 rL 9 x32 w fun x33=>
 rB .eql 9 T0 U0 x33 (Value.string (ByteArray.mk #[])) w fun x34=>
 BR x34
 (rF 209 x1 2 w fun x36=>
 rL 75 x36 w fun x37=>
 cL 214 [x37] w fun x38 w=>
 R x38 w)
 (R (Value.bool false) w))
 (rB .eql 3 T0 U0 x9 (iV 3) w fun x41=>
 BR x41
 (rF 209 x1 1 w fun x42=>
 rL 9 x42 w fun x43=>
 rB .eql 9 T0 U0 x43 (Value.string (ByteArray.mk #[])) w fun x44=>
 BR x44
 (rF 209 x1 2 w fun x46=>
 rL 75 x46 w fun x47=>
 cL 214 [x47] w fun x48 w=>
 BR x48
 (rF 209 x1 4 w fun x51=>
 rL 162 x51 w fun x52=>
 rN 162 3 x52 w fun x53=>
 rB .eql 3 T0 U0 x53 (iV 0) w fun x54=>
 R x54 w)
 (R (Value.bool false) w))
 (R (Value.bool false) w))
 (rB .eql 3 T0 U0 x9 (iV 4) w fun x57=>
 BR x57
 (rF 209 x1 1 w fun x61=>
 rL 9 x61 w fun x62=>
 cL 261 [x62] w fun x63 w=>
 BR x63
 (BR x7
 (rF 209 x1 3 w fun x68=>
 rL 162 x68 w fun x69=>
 rN 162 3 x69 w fun x70=>
 rF 209 x1 4 w fun x71=>
 rL 162 x71 w fun x72=>
 rN 162 3 x72 w fun x73=>
 rB .add 3 T0 T0 x70 x73 w fun x74=>
 rB .eql 3 T0 U0 x74 (iV 0) w fun x75=>
 R x75 w)
 (R (Value.bool false) w))
 (R (Value.bool false) w))
 (rB .eql 3 T0 U0 x9 (iV 5) w fun x58=>
 BR x58
 (rF 209 x1 1 w fun x61=>
 rL 9 x61 w fun x62=>
 cL 261 [x62] w fun x63 w=>
 BR x63
 (BR x7
 (rF 209 x1 3 w fun x68=>
 rL 162 x68 w fun x69=>
 rN 162 3 x69 w fun x70=>
 rF 209 x1 4 w fun x71=>
 rL 162 x71 w fun x72=>
 rN 162 3 x72 w fun x73=>
 rB .add 3 T0 T0 x70 x73 w fun x74=>
 rB .eql 3 T0 U0 x74 (iV 0) w fun x75=>
 R x75 w)
 (R (Value.bool false) w))
 (R (Value.bool false) w))
 (rB .eql 3 T0 U0 x9 (iV 6) w fun x59=>
 BR x59
 (rF 209 x1 1 w fun x61=>
 rL 9 x61 w fun x62=>
 cL 261 [x62] w fun x63 w=>
 BR x63
 (BR x7
 (rF 209 x1 3 w fun x68=>
 rL 162 x68 w fun x69=>
 rN 162 3 x69 w fun x70=>
 rF 209 x1 4 w fun x71=>
 rL 162 x71 w fun x72=>
 rN 162 3 x72 w fun x73=>
 rB .add 3 T0 T0 x70 x73 w fun x74=>
 rB .eql 3 T0 U0 x74 (iV 0) w fun x75=>
 R x75 w)
 (R (Value.bool false) w))
 (R (Value.bool false) w))
 (rB .eql 3 T0 U0 x9 (iV 7) w fun x60=>
 BR x60
 (rF 209 x1 1 w fun x61=>
 rL 9 x61 w fun x62=>
 cL 261 [x62] w fun x63 w=>
 BR x63
 (BR x7
 (rF 209 x1 3 w fun x68=>
 rL 162 x68 w fun x69=>
 rN 162 3 x69 w fun x70=>
 rF 209 x1 4 w fun x71=>
 rL 162 x71 w fun x72=>
 rN 162 3 x72 w fun x73=>
 rB .add 3 T0 T0 x70 x73 w fun x74=>
 rB .eql 3 T0 U0 x74 (iV 0) w fun x75=>
 R x75 w)
 (R (Value.bool false) w))
 (R (Value.bool false) w))
 (rB .eql 3 T0 U0 x9 (iV 8) w fun x78=>
 BR x78
 (rF 209 x1 1 w fun x79=>
 rL 9 x79 w fun x80=>
 rB .eql 9 T0 U0 x80 (Value.string (ByteArray.mk #[])) w fun x81=>
 BR x81
 (BR x7
 (rF 209 x1 3 w fun x86=>
 rL 162 x86 w fun x87=>
 rN 162 3 x87 w fun x88=>
 rF 209 x1 4 w fun x89=>
 rL 162 x89 w fun x90=>
 rN 162 3 x90 w fun x91=>
 rB .add 3 T0 T0 x88 x91 w fun x92=>
 rB .eql 3 T0 U0 x92 (iV 0) w fun x93=>
 R x93 w)
 (R (Value.bool false) w))
 (R (Value.bool false) w))
 (R (Value.bool false) w))))))))
def cfg340:Cfg:=⟨extL,[],[],[],[],[],[]⟩
theorem F340_call {a0:Value} {w:World} {R:VW} (h:F340 a0 w R):cL 340 [a0] w R:=co (g:=cfg340) Tryz.func340 (by kernel_rfl) (by kernel_rfl) (by kernel_rfl) h
theorem zn7 {w:World} {v0:Value} {W0:World} {t:DStmt}  (h0:Is W0 v0 t) (e0:Ext W0 w) (hr:zrj t) :
   CALL Tryz.prog 340 [v0] w fun r w'=>Ext w w'∧(r=.bool true):=by
 refine F340_call ?_
 unfold F340
 have hbe:t.kind≠2→t.kind≠3→t.body=[]∧t.els=[]:=fun n2 n3=>by
   rcases hr with ⟨k1,k2,k3,k4,k5⟩ | ⟨k1,k2,k3,k4,k5⟩ | ⟨k1,k2,k3,k4,k5⟩ | ⟨k1,k2,k3⟩ | ⟨k1,k2,k3,k4⟩
   · exact ⟨k4,k5⟩
   · exact ⟨k4,k5⟩
   · exact ⟨k4,k5⟩
   · omega
   omega
 refine zap zbp rfl h0 e0 fun w1_ hx1_ hA1 hV1=>?_
 refine zaa zeE ?_
 refine zab zb6 (zcw hA1) (Ext.refl w1_) fun v5 h5=>?_
 refine zaR (cells:=#[.int .i64 0,.int .i64 0,.string ByteArray.empty,.slice none 0 0]) (by kernel_rfl) ?_
 have o6:OwnI (α:=DTerm) w1_.heap.size w1_.heap.size w1_ (.agg #[.int .i64 0,.int .i64 0,.string ByteArray.empty,.slice none 0 0]) RepZ.zv:=zn6
 refine (zgJ h5 (Ext.refl w1_) o6.is (Ext.refl w1_) rfl).mono ?_
 rintro _ w2_ ⟨hx2_,rfl⟩
 refine zaa zdQ ?_
 refine zac ty3 (zbY hA1) hx2_ fun hI9=>?_
 refine zag ?_
 refine br (fun c1=>?_) (fun c1=>?_)
 · refine zaa zb7 ?_
   refine zam ty9 (za5 hA1) hx2_ fun hS13=>?_
   refine (zbC ).mono ?_
   rintro _ w3_ ⟨hx3_,rfl⟩
   refine zdN (fun c2=>?_) (fun c2=>?_)
   · refine zaa zeE ?_
     refine zab zb6 (zcw hA1) (hx2_.trans hx3_) fun v17 h17=>?_
     refine (zbS h17 (hx2_.trans hx3_)).mono ?_
     rintro _ w4_ ⟨hx4_,rfl⟩
     refine zdN (fun c3=>?_) (fun c3=>?_)
     · refine zaa zda ?_
       refine zab zcB (zcg hA1) (hx2_.trans (hx3_.trans hx4_)) fun v22 h22=>?_
       have hln23:=zaf h22
       refine zae zd3 h22 ?_
       refine zaa zcC ?_
       refine zab zcB (zbZ hA1) (hx2_.trans (hx3_.trans hx4_)) fun v25 h25=>?_
       have hln26:=zaf h25
       refine zae zd3 h25 ?_
       refine zb3 (by obtain ⟨q1,q2⟩:=hbe (by omega) (by omega);rw [q1,q2];simp [I64]) ?_
       refine zag ?_
       refine ⟨(hx1_.trans (hx2_.trans (hx3_.trans hx4_))),?_⟩
       rcases hr with ⟨k1,k2,k3,k4,k5⟩ | ⟨k1,k2,k3,k4,k5⟩ | ⟨k1,k2,k3,k4,k5⟩ | ⟨k1,k2,k3⟩ | ⟨k1,k2,k3,k4⟩<;>first | (exfalso;omega) | simp_all
     refine ⟨(hx1_.trans (hx2_.trans (hx3_.trans hx4_))),?_⟩
     rcases hr with ⟨k1,k2,k3,k4,k5⟩ | ⟨k1,k2,k3,k4,k5⟩ | ⟨k1,k2,k3,k4,k5⟩ | ⟨k1,k2,k3⟩ | ⟨k1,k2,k3,k4⟩<;>first | (exfalso;omega) | simp_all
   refine ⟨(hx1_.trans (hx2_.trans hx3_)),?_⟩
   rcases hr with ⟨k1,k2,k3,k4,k5⟩ | ⟨k1,k2,k3,k4,k5⟩ | ⟨k1,k2,k3,k4,k5⟩ | ⟨k1,k2,k3⟩ | ⟨k1,k2,k3,k4⟩<;>first | (exfalso;omega) | simp_all
 refine zag ?_
 refine br (fun c4=>?_) (fun c4=>?_)
 · refine zaa zb7 ?_
   refine zam ty9 (za5 hA1) hx2_ fun hS33=>?_
   refine zaG ?_
   refine br (fun c5=>?_) (fun c5=>?_)
   · refine zaa zeE ?_
     refine zab zb6 (zcw hA1) hx2_ fun v37 h37=>?_
     refine (zbS h37 hx2_).mono ?_
     rintro _ w5_ ⟨hx5_,rfl⟩
     refine ⟨(hx1_.trans (hx2_.trans hx5_)),?_⟩
     rcases hr with ⟨k1,k2,k3,k4,k5⟩ | ⟨k1,k2,k3,k4,k5⟩ | ⟨k1,k2,k3,k4,k5⟩ | ⟨k1,k2,k3⟩ | ⟨k1,k2,k3,k4⟩<;>first | (exfalso;omega) | simp_all
   refine ⟨(hx1_.trans hx2_),?_⟩
   rcases hr with ⟨k1,k2,k3,k4,k5⟩ | ⟨k1,k2,k3,k4,k5⟩ | ⟨k1,k2,k3,k4,k5⟩ | ⟨k1,k2,k3⟩ | ⟨k1,k2,k3,k4⟩<;>first | (exfalso;omega) | simp_all
 refine zag ?_
 refine br (fun c6=>?_) (fun c6=>?_)
 · refine zaa zb7 ?_
   refine zam ty9 (za5 hA1) hx2_ fun hS43=>?_
   refine zaG ?_
   refine br (fun c7=>?_) (fun c7=>?_)
   · refine zaa zeE ?_
     refine zab zb6 (zcw hA1) hx2_ fun v47 h47=>?_
     refine (zbS h47 hx2_).mono ?_
     rintro _ w6_ ⟨hx6_,rfl⟩
     refine zdN (fun c8=>?_) (fun c8=>?_)
     · refine zaa zcC ?_
       refine zab zcB (zbZ hA1) (hx2_.trans hx6_) fun v52 h52=>?_
       have hln53:=zaf h52
       refine zae zd3 h52 ?_
       refine zag ?_
       refine ⟨(hx1_.trans (hx2_.trans hx6_)),?_⟩
       rcases hr with ⟨k1,k2,k3,k4,k5⟩ | ⟨k1,k2,k3,k4,k5⟩ | ⟨k1,k2,k3,k4,k5⟩ | ⟨k1,k2,k3⟩ | ⟨k1,k2,k3,k4⟩<;>first | (exfalso;omega) | simp_all
     refine ⟨(hx1_.trans (hx2_.trans hx6_)),?_⟩
     rcases hr with ⟨k1,k2,k3,k4,k5⟩ | ⟨k1,k2,k3,k4,k5⟩ | ⟨k1,k2,k3,k4,k5⟩ | ⟨k1,k2,k3⟩ | ⟨k1,k2,k3,k4⟩<;>first | (exfalso;omega) | simp_all
   refine ⟨(hx1_.trans hx2_),?_⟩
   rcases hr with ⟨k1,k2,k3,k4,k5⟩ | ⟨k1,k2,k3,k4,k5⟩ | ⟨k1,k2,k3,k4,k5⟩ | ⟨k1,k2,k3⟩ | ⟨k1,k2,k3,k4⟩<;>first | (exfalso;omega) | simp_all
 refine zag ?_
 refine br (fun c9=>?_) (fun c9=>?_)
 · refine zaa zb7 ?_
   refine zam ty9 (za5 hA1) hx2_ fun hS62=>?_
   refine (zbC ).mono ?_
   rintro _ w7_ ⟨hx7_,rfl⟩
   refine zdN (fun c10=>?_) (fun c10=>?_)
   · refine br (fun c11=>?_) (fun c11=>?_)
     · refine zaa zda ?_
       refine zab zcB (zcg hA1) (hx2_.trans hx7_) fun v69 h69=>?_
       have hln70:=zaf h69
       refine zae zd3 h69 ?_
       refine zaa zcC ?_
       refine zab zcB (zbZ hA1) (hx2_.trans hx7_) fun v72 h72=>?_
       have hln73:=zaf h72
       refine zae zd3 h72 ?_
       refine zb3 (by obtain ⟨q1,q2⟩:=hbe (by omega) (by omega);rw [q1,q2];simp [I64]) ?_
       refine zag ?_
       refine ⟨(hx1_.trans (hx2_.trans hx7_)),?_⟩
       rcases hr with ⟨k1,k2,k3,k4,k5⟩ | ⟨k1,k2,k3,k4,k5⟩ | ⟨k1,k2,k3,k4,k5⟩ | ⟨k1,k2,k3⟩ | ⟨k1,k2,k3,k4⟩<;>first | (exfalso;omega) | simp_all
     refine ⟨(hx1_.trans (hx2_.trans hx7_)),?_⟩
     rcases hr with ⟨k1,k2,k3,k4,k5⟩ | ⟨k1,k2,k3,k4,k5⟩ | ⟨k1,k2,k3,k4,k5⟩ | ⟨k1,k2,k3⟩ | ⟨k1,k2,k3,k4⟩<;>first | (exfalso;omega) | simp_all
   refine ⟨(hx1_.trans (hx2_.trans hx7_)),?_⟩
   rcases hr with ⟨k1,k2,k3,k4,k5⟩ | ⟨k1,k2,k3,k4,k5⟩ | ⟨k1,k2,k3,k4,k5⟩ | ⟨k1,k2,k3⟩ | ⟨k1,k2,k3,k4⟩<;>first | (exfalso;omega) | simp_all
 refine zag ?_
 refine br (fun c12=>?_) (fun c12=>?_)
 · refine zaa zb7 ?_
   refine zam ty9 (za5 hA1) hx2_ fun hS62=>?_
   refine (zbC ).mono ?_
   rintro _ w8_ ⟨hx8_,rfl⟩
   refine zdN (fun c13=>?_) (fun c13=>?_)
   · refine br (fun c14=>?_) (fun c14=>?_)
     · refine zaa zda ?_
       refine zab zcB (zcg hA1) (hx2_.trans hx8_) fun v69 h69=>?_
       have hln70:=zaf h69
       refine zae zd3 h69 ?_
       refine zaa zcC ?_
       refine zab zcB (zbZ hA1) (hx2_.trans hx8_) fun v72 h72=>?_
       have hln73:=zaf h72
       refine zae zd3 h72 ?_
       refine zb3 (by obtain ⟨q1,q2⟩:=hbe (by omega) (by omega);rw [q1,q2];simp [I64]) ?_
       refine zag ?_
       refine ⟨(hx1_.trans (hx2_.trans hx8_)),?_⟩
       rcases hr with ⟨k1,k2,k3,k4,k5⟩ | ⟨k1,k2,k3,k4,k5⟩ | ⟨k1,k2,k3,k4,k5⟩ | ⟨k1,k2,k3⟩ | ⟨k1,k2,k3,k4⟩<;>first | (exfalso;omega) | simp_all
     refine ⟨(hx1_.trans (hx2_.trans hx8_)),?_⟩
     rcases hr with ⟨k1,k2,k3,k4,k5⟩ | ⟨k1,k2,k3,k4,k5⟩ | ⟨k1,k2,k3,k4,k5⟩ | ⟨k1,k2,k3⟩ | ⟨k1,k2,k3,k4⟩<;>first | (exfalso;omega) | simp_all
   refine ⟨(hx1_.trans (hx2_.trans hx8_)),?_⟩
   rcases hr with ⟨k1,k2,k3,k4,k5⟩ | ⟨k1,k2,k3,k4,k5⟩ | ⟨k1,k2,k3,k4,k5⟩ | ⟨k1,k2,k3⟩ | ⟨k1,k2,k3,k4⟩<;>first | (exfalso;omega) | simp_all
 refine zag ?_
 refine br (fun c15=>?_) (fun c15=>?_)
 · refine zaa zb7 ?_
   refine zam ty9 (za5 hA1) hx2_ fun hS62=>?_
   refine (zbC ).mono ?_
   rintro _ w9_ ⟨hx9_,rfl⟩
   refine zdN (fun c16=>?_) (fun c16=>?_)
   · refine br (fun c17=>?_) (fun c17=>?_)
     · refine zaa zda ?_
       refine zab zcB (zcg hA1) (hx2_.trans hx9_) fun v69 h69=>?_
       have hln70:=zaf h69
       refine zae zd3 h69 ?_
       refine zaa zcC ?_
       refine zab zcB (zbZ hA1) (hx2_.trans hx9_) fun v72 h72=>?_
       have hln73:=zaf h72
       refine zae zd3 h72 ?_
       refine zb3 (by obtain ⟨q1,q2⟩:=hbe (by omega) (by omega);rw [q1,q2];simp [I64]) ?_
       refine zag ?_
       refine ⟨(hx1_.trans (hx2_.trans hx9_)),?_⟩
       rcases hr with ⟨k1,k2,k3,k4,k5⟩ | ⟨k1,k2,k3,k4,k5⟩ | ⟨k1,k2,k3,k4,k5⟩ | ⟨k1,k2,k3⟩ | ⟨k1,k2,k3,k4⟩<;>first | (exfalso;omega) | simp_all
     refine ⟨(hx1_.trans (hx2_.trans hx9_)),?_⟩
     rcases hr with ⟨k1,k2,k3,k4,k5⟩ | ⟨k1,k2,k3,k4,k5⟩ | ⟨k1,k2,k3,k4,k5⟩ | ⟨k1,k2,k3⟩ | ⟨k1,k2,k3,k4⟩<;>first | (exfalso;omega) | simp_all
   refine ⟨(hx1_.trans (hx2_.trans hx9_)),?_⟩
   rcases hr with ⟨k1,k2,k3,k4,k5⟩ | ⟨k1,k2,k3,k4,k5⟩ | ⟨k1,k2,k3,k4,k5⟩ | ⟨k1,k2,k3⟩ | ⟨k1,k2,k3,k4⟩<;>first | (exfalso;omega) | simp_all
 refine zag ?_
 refine br (fun c18=>?_) (fun c18=>?_)
 · refine zaa zb7 ?_
   refine zam ty9 (za5 hA1) hx2_ fun hS62=>?_
   refine (zbC ).mono ?_
   rintro _ w10_ ⟨hx10_,rfl⟩
   refine zdN (fun c19=>?_) (fun c19=>?_)
   · refine br (fun c20=>?_) (fun c20=>?_)
     · refine zaa zda ?_
       refine zab zcB (zcg hA1) (hx2_.trans hx10_) fun v69 h69=>?_
       have hln70:=zaf h69
       refine zae zd3 h69 ?_
       refine zaa zcC ?_
       refine zab zcB (zbZ hA1) (hx2_.trans hx10_) fun v72 h72=>?_
       have hln73:=zaf h72
       refine zae zd3 h72 ?_
       refine zb3 (by obtain ⟨q1,q2⟩:=hbe (by omega) (by omega);rw [q1,q2];simp [I64]) ?_
       refine zag ?_
       refine ⟨(hx1_.trans (hx2_.trans hx10_)),?_⟩
       rcases hr with ⟨k1,k2,k3,k4,k5⟩ | ⟨k1,k2,k3,k4,k5⟩ | ⟨k1,k2,k3,k4,k5⟩ | ⟨k1,k2,k3⟩ | ⟨k1,k2,k3,k4⟩<;>first | (exfalso;omega) | simp_all
     refine ⟨(hx1_.trans (hx2_.trans hx10_)),?_⟩
     rcases hr with ⟨k1,k2,k3,k4,k5⟩ | ⟨k1,k2,k3,k4,k5⟩ | ⟨k1,k2,k3,k4,k5⟩ | ⟨k1,k2,k3⟩ | ⟨k1,k2,k3,k4⟩<;>first | (exfalso;omega) | simp_all
   refine ⟨(hx1_.trans (hx2_.trans hx10_)),?_⟩
   rcases hr with ⟨k1,k2,k3,k4,k5⟩ | ⟨k1,k2,k3,k4,k5⟩ | ⟨k1,k2,k3,k4,k5⟩ | ⟨k1,k2,k3⟩ | ⟨k1,k2,k3,k4⟩<;>first | (exfalso;omega) | simp_all
 refine zag ?_
 refine br (fun c21=>?_) (fun c21=>?_)
 · refine zaa zb7 ?_
   refine zam ty9 (za5 hA1) hx2_ fun hS80=>?_
   refine zaG ?_
   refine br (fun c22=>?_) (fun c22=>?_)
   · refine br (fun c23=>?_) (fun c23=>?_)
     · refine zaa zda ?_
       refine zab zcB (zcg hA1) hx2_ fun v87 h87=>?_
       have hln88:=zaf h87
       refine zae zd3 h87 ?_
       refine zaa zcC ?_
       refine zab zcB (zbZ hA1) hx2_ fun v90 h90=>?_
       have hln91:=zaf h90
       refine zae zd3 h90 ?_
       refine zb3 (by obtain ⟨q1,q2⟩:=hbe (by omega) (by omega);rw [q1,q2];simp [I64]) ?_
       refine zag ?_
       refine ⟨(hx1_.trans hx2_),?_⟩
       rcases hr with ⟨k1,k2,k3,k4,k5⟩ | ⟨k1,k2,k3,k4,k5⟩ | ⟨k1,k2,k3,k4,k5⟩ | ⟨k1,k2,k3⟩ | ⟨k1,k2,k3,k4⟩<;>first | (exfalso;omega) | simp_all
     refine ⟨(hx1_.trans hx2_),?_⟩
     rcases hr with ⟨k1,k2,k3,k4,k5⟩ | ⟨k1,k2,k3,k4,k5⟩ | ⟨k1,k2,k3,k4,k5⟩ | ⟨k1,k2,k3⟩ | ⟨k1,k2,k3,k4⟩<;>first | (exfalso;omega) | simp_all
   refine ⟨(hx1_.trans hx2_),?_⟩
   rcases hr with ⟨k1,k2,k3,k4,k5⟩ | ⟨k1,k2,k3,k4,k5⟩ | ⟨k1,k2,k3,k4,k5⟩ | ⟨k1,k2,k3⟩ | ⟨k1,k2,k3,k4⟩<;>first | (exfalso;omega) | simp_all
 refine ⟨(hx1_.trans hx2_),?_⟩
 rcases hr with ⟨k1,k2,k3,k4,k5⟩ | ⟨k1,k2,k3,k4,k5⟩ | ⟨k1,k2,k3,k4,k5⟩ | ⟨k1,k2,k3⟩ | ⟨k1,k2,k3,k4⟩<;>first | (exfalso;omega) | simp_all
def zn8 (pr:List ByteArray) (n:Nat) (l:List DStmt):Prop:=∀ {w W:World} {v:Value} {d:Int},Is W v l→Ext W w→(∀ x∈l,StR pr n x)→(n:Int)≤d→d≤6 →
 CALL Tryz.prog 316 [v,.int .i64 d] w fun r w'=>Ext w w'∧r=.bool true
theorem zfS {pr:List ByteArray} {n:Nat} {l:List DStmt} (hp:∀ x∈pr,zaZ x=true) (ih:∀ m l,m+1=n→zn8 pr m l):zn8 pr n l:=by
 intro w W v d h e hs hd0 hd1
 have hln:=zaf h
 refine F316_call ?_
 unfold F316
 refine zaF l.length (fun k us w'=>us=[.int .i64 (k:Int)]∧Ext w w'∧k≤l.length) 0 (Nat.zero_le _) ⟨rfl,Ext.refl w,Nat.zero_le _⟩ ?_
 rintro k m u w1 hkm ⟨hu,hx1,hkl⟩
 simp only [List.map_cons,List.map_nil,List.cons.injEq,and_true] at hu
 rw [hu]
 refine zae zd3 h ?_
 refine zai ?_
 refine br (fun hlt=>?_) (fun hge=>?_)
 · have hk:k<l.length:=by omega
   obtain ⟨x,hx⟩:∃ x,x=l[k]:=⟨_,rfl⟩
   have hxs:StR pr n x:=by rw [hx];exact hs _ (List.getElem_mem hk)
   refine zad zd3 zbp h hk fun b16 o16 hA16=>?_
   rw [←hx] at hA16
   refine zab zbp hA16 (e.trans hx1) fun v17 h17=>?_
   refine zes znE rfl zbp rfl h17 (e.trans hx1) fun w2 hx2 hA6 hV6=>?_
   refine JOIN.mk (fun us w'=>us=[.bool (decide (x.kind=2∨x.kind=3))]∧Ext w2 w') ?_ ?_
   · refine zaa zdQ ?_
     refine zac ty3 (zbY hA6) (Ext.refl _) fun hI=>?_
     refine zag ?_
     refine br (fun h2=>?_) (fun h2=>?_)
     · exact ⟨by rw [decide_eq_true (.inl h2)],Ext.refl _⟩
     refine zaa zdQ ?_
     refine zac ty3 (zbY hA6) (Ext.refl _) fun hI=>?_
     refine zag ?_
     exact ⟨by simp [h2],Ext.refl _⟩
   rintro u6 w3 ⟨hu,hx3⟩
   simp only [List.map_cons,List.map_nil,List.cons.injEq,and_true] at hu
   rw [hu]
   refine zaB hV6 hx3 ?_
   refine (zn7 h17 ((e.trans hx1).trans (hx2.trans hx3)) (hxs.one hp)).mono ?_
   rintro _ w4 ⟨hx4,rfl⟩
   have hx24:=hx3.trans hx4
   refine zbt ?_
   refine zdN (fun hc=>by simp at hc) (fun _=>?_)
   refine gbr (fun hm=>?_) (fun hm=>?_)
   · have hn0:0<n:=by
       rcases Nat.eq_zero_or_pos n with h0 | h0
       · subst h0
         rcases hxs.zero with q | q | q | q<;>(have:=q.1;omega)
       exact h0
     have hkid:(∀ y∈x.body,StR pr (n-1) y)∧∀ y∈x.els,StR pr (n-1) y:=by
       obtain ⟨q,rfl⟩:∃ q,n=q+1:=⟨n-1,by omega⟩
       rcases hxs.succ with h | ⟨_,_,_,h4,h5⟩
       · exfalso
         rcases h with q | q | q | q<;>(have:=q.1;omega)
       exact ⟨h4,h5⟩
     refine zag ?_
     refine br (fun hc=>by omega) (fun _=>?_)
     refine gbr (fun _=>?_) (fun hc=>absurd hm hc)
     refine zaa zda ?_
     refine zab zcB (zcg hA6) hx24 fun v40 h40=>?_
     refine za8 (by unfold I64;omega) ?_
     refine (ih (n-1) _ (by omega) h40 hx24 hkid.1 (by omega) (by omega)).mono ?_
     rintro _ w5 ⟨hx5,rfl⟩
     refine zbt ?_
     refine zq7 (fun hc=>by simp at hc) (fun _=>?_)
     refine zaa zcC ?_
     refine zab zcB (zbZ hA6) (hx24.trans hx5) fun v47 h47=>?_
     refine za8 (by unfold I64;omega) ?_
     refine (ih (n-1) _ (by omega) h47 (hx24.trans hx5) hkid.2 (by omega) (by omega)).mono ?_
     rintro _ w6 ⟨hx6,rfl⟩
     refine zbt ?_
     refine zdN (fun hc=>by simp at hc) (fun _=>?_)
     refine zal (by omega) ?_
     exact ⟨m-1,by omega,k+1,by omega,rfl,hx1.trans (hx2.trans (hx24.trans (hx5.trans hx6))),by omega⟩
   refine gbr (fun hc=>absurd hc hm) (fun _=>?_)
   refine zal (by omega) ?_
   exact ⟨m-1,by omega,k+1,by omega,rfl,hx1.trans (hx2.trans hx24),by omega⟩
 exact ⟨hx1,rfl⟩
theorem zhI {pr:List ByteArray} (hp:∀ x∈pr,zaZ x=true):∀ (n:Nat) (l:List DStmt),zn8 pr n l
 | 0,l=>zfS (n:=0) (l:=l) hp (fun m l h=>absurd h (by omega))
 | n + 1, l => zfS (n := n + 1) (l := l) hp fun m l h => by
     obtain rfl:m=n:=by omega
     exact zhI hp m l
theorem zo6 {pr:List ByteArray} {w W:World} {v:Value} {l:List DStmt} (hp:∀ x∈pr,zaZ x=true) (h:Is W v l) (e:Ext W w) (hb:zmE pr l):CALL Tryz.prog 274 [v] w fun r w'=>Ext w w'∧r=.bool true:=by
 refine F274_call ?_
 unfold F274
 refine (zhG l h e (by omega) (by omega)).mono ?_
 rintro _ w1 ⟨hx1,rfl⟩
 refine zbP ?_
 have hc:=(zgo l 60).1 (by have:=hb.2;omega)
 refine br (fun _=>?_) (fun hn=>by have:=hb.2;omega)
 refine (zhI hp 2 l h (e.trans hx1) hb.1 (by omega) (by omega)).mono ?_
 rintro _ w2 ⟨hx2,rfl⟩
 exact ⟨hx1.trans hx2,rfl⟩
theorem zhJ {w W:World} {v:Value} {p:DProg} (h:Is W v p) (e:Ext W w) (hn:p.procs.length≤1000):CALL Tryz.prog 223 [v] w fun r w'=>Ext w w'∧Own w.heap.size w' r (p.procs.map DProc.name):=by
 refine F223_call ?_
 unfold F223
 refine zbR h e fun w1 hx1 hA=>?_
 have hs1:=hx1.size
 refine zbq (α:=ByteArray) u24 ty9 fun v5 w2 hx2 r5=>?_
 have hs2:=hx2.size
 refine zaF p.procs.length (fun k us w'=>∃ v hi,us=[v,.int .i64 (k:Int)]∧k≤p.procs.length∧Ext w1 w'∧RowI w2.heap.size hi 9 w' v ((p.procs.take k).map DProc.name)∧hi≤w'.heap.size∧w2.heap.size≤hi) 0 (Nat.zero_le _)
   ⟨.slice (some v5) 0 0,w2.heap.size,rfl,Nat.zero_le _,hx2,r5,Nat.le_refl _,Nat.le_refl _⟩ ?_
 rintro k m u w3 hkm ⟨v3,hi,hu,hkl,hx3,r3,hhi,hlo⟩
 obtain ⟨hu0,hu1⟩:=zkG hu
 rw [hu0,hu1]
 refine zaa zcu ?_
 refine zab zfm (zbo hA) hx3 fun v8 h8=>?_
 refine zae zlO h8 ?_
 refine zai ?_
 refine br (fun hlt=>?_) (fun hge=>?_)
 · have hk:k<p.procs.length:=by omega
   refine zaa zcu ?_
   refine zab zfm (zbo hA) hx3 fun v15 h15=>?_
   refine zad zlO zjP h15 hk fun b17 o17 hA17=>?_
   refine zaa ziZ ?_
   refine zam ty9 (zeU hA17) hx3 fun hS=>?_
   have hs3:=hx3.size
   refine zeF (α:=ByteArray) (lo2:=w3.heap.size) (hi2:=w3.heap.size) u24 ty9 z9 zc9 (by decide) r3 (by omega) (zoO hS) (by omega) (by omega) (by rw [zak,List.length_map,List.length_take];omega) (by rw [List.length_map,List.length_take];omega) fun v21 w4 hc4 r4=>?_
   have hs4:=hc4.size
   refine zal (by omega) ?_
   refine ⟨m-1,by omega,k+1,by omega,v21,w4.heap.size,rfl,by omega,Ext.chgI hx3 hc4 (by omega),?_,Nat.le_refl _,by omega⟩
   rw [List.take_succ_eq_append_getElem hk,List.map_append]
   exact r4
 refine ⟨hx1.trans hx3,?_⟩
 rw [List.take_of_length_le (by omega)] at r3
 exact r3.own.own.mono (by omega)
theorem zfT {w W:World} {vo vk:Value} {l:List ByteArray} {s:ByteArray} (h:Is W vk l) (e:Ext W w) (hm:s∈l):CALL Tryz.prog 317 [vo,vk,.string s] w fun r w'=>Ext w w'∧r=vo:=by
 refine F317_call ?_
 unfold F317
 refine (zjT h e).mono ?_
 rintro _ w1 ⟨hx1,rfl⟩
 exact br (fun _=>⟨hx1,rfl⟩) (fun hn=>absurd hm hn)
def zqr (p:DProg) (pr:List ByteArray) (n:Nat) (l:List DStmt):Prop:=∀ {w W W':World} {v vp vo:Value},Is W vp p→Ext W w→Is W' v l→Ext W' w→(∀ x∈l,StR pr n x) →
 CALL Tryz.prog 275 [vp,v,vo] w fun r w'=>Ext w w'∧r=vo
theorem zeK {p:DProg} {pr:List ByteArray} {n:Nat} {l:List DStmt} (hg:p.globals=glb) (hl:p.locks=lks) (hpp:∀ x∈pr,x∈p.procs.map DProc.name) (hpn:p.procs.length≤1000) (ih:∀ m l,m+1=n→zqr p pr m l):zqr p pr n l:=by
 intro w W W' v vp vo hP eP h e hs
 have hln:=zaf h
 refine F275_call ?_
 unfold F275
 refine zbR hP eP fun w0 hx0 hAp=>?_
 refine zaF l.length (fun k us w'=>us=[vo,.int .i64 (k:Int)]∧Ext w0 w'∧k≤l.length) 0 (Nat.zero_le _) ⟨rfl,Ext.refl _,Nat.zero_le _⟩ ?_
 rintro k m u w1 hkm ⟨hu,hx1,hkl⟩
 obtain ⟨hu0,hu1⟩:=zkG hu;clear hu
 rw [hu0,hu1]
 refine zae zd3 h ?_
 refine zai ?_
 refine br (fun hlt=>?_) (fun hge=>⟨hx0.trans hx1,rfl⟩)
 have hk:k<l.length:=by omega
 obtain ⟨x,hx⟩:∃ x,x=l[k]:=⟨_,rfl⟩
 have hxs:StR pr n x:=by rw [hx];exact hs _ (List.getElem_mem hk)
 have hst:(x.kind=1→x.name∈glb)∧(x.kind=6∨x.kind=7→x.name∈lks)∧(x.kind=4∨x.kind=5→x.name∈pr)∧(x.kind=1∨x.kind=2∨x.kind=3→TmR x.term):=by
   have h0:St0 pr x→(x.kind=1→x.name∈glb)∧(x.kind=6∨x.kind=7→x.name∈lks)∧(x.kind=4∨x.kind=5→x.name∈pr)∧(x.kind=1∨x.kind=2∨x.kind=3→TmR x.term):=fun q=>by
     rcases q with q | q | q | q
     · exact ⟨fun _=>q.2.1,fun _=>by have:=q.1;omega,fun _=>by have:=q.1;omega,fun _=>q.2.2.1⟩
     · exact ⟨fun _=>by have:=q.1;omega,fun _=>by have:=q.1;omega,fun _=>q.2.1,fun _=>by have:=q.1;omega⟩
     · exact ⟨fun _=>by have:=q.1;omega,fun _=>q.2.1,fun _=>by have:=q.1;omega,fun _=>by have:=q.1;omega⟩
     exact ⟨fun _=>by have:=q.1;omega,fun _=>by have:=q.1;omega,fun _=>by have:=q.1;omega,fun _=>by have:=q.1;omega⟩
   cases n with
   | zero=>exact h0 hxs.zero
   | succ n=>
     rcases hxs.succ with q | ⟨h1,h2,h3,_,_⟩
     · exact h0 q
     exact ⟨fun _=>by omega,fun _=>by omega,fun _=>by omega,fun _=>h3⟩
 obtain ⟨hs1,hs2,hs3,hs4⟩:=hst
 refine zad zd3 zbp h hk fun b19 o19 hA19=>?_
 rw [←hx] at hA19
 have eW':=e.trans (hx0.trans hx1)
 refine zab zbp hA19 eW' fun v20 h20=>?_
 refine zes znE rfl zbp rfl h20 eW' fun w2 hx2 hA8 hV8=>?_
 have hx02:=hx1.trans hx2
 refine JOIN.mk (fun us w'=>us=[vo]∧Ext w2 w') ?_ ?_
 · refine zaa zdQ ?_
   refine zac ty3 (zbY hA8) (Ext.refl _) fun hI=>?_
   refine zag ?_
   refine br (fun h1=>?_) (fun h1=>?_)
   · refine zaa zgf ?_
     refine zab zcJ (zd0 hAp) hx02 fun v27 h27=>?_
     refine zaa zb7 ?_
     refine zam ty9 (za5 hA8) (Ext.refl _) fun hS=>?_
     refine (zfT h27 hx02 (by rw [hg];exact hs1 h1)).mono ?_
     rintro _ w3 ⟨hx3,rfl⟩
     exact ⟨rfl,hx3⟩
   refine zag ?_
   refine zl4 (Q:=x.kind=6∨x.kind=7) .inl (fun hQ=>?_) (fun key h6=>?_)
   · refine zaa zhm ?_
     refine zab zcJ (zeV hAp) hx02 fun v27 h27=>?_
     refine zaa zb7 ?_
     refine zam ty9 (za5 hA8) (Ext.refl _) fun hS=>?_
     refine (zfT h27 hx02 (by rw [hl];exact hs2 hQ)).mono ?_
     rintro _ w3 ⟨hx3,rfl⟩
     exact ⟨rfl,hx3⟩
   refine zag ?_
   refine br (fun h7=>key (.inr h7)) (fun h7=>?_)
   refine zag ?_
   refine zl4 (Q:=x.kind=4∨x.kind=5) .inl (fun hQ=>?_) (fun key2 h4=>?_)
   · have hx3:=zah w2
     refine zab zeD hAp (hx02.trans hx3) fun v44 h44=>?_
     refine zaa zb7 ?_
     refine zam ty9 (za5 hA8) hx3 fun hS=>?_
     refine (zhJ h44 (hx02.trans hx3) hpn).mono ?_
     rintro v45 w4 ⟨hx4,o45⟩
     refine ⟨hx4,?_⟩
     refine (zfT o45.is (Ext.refl _) (hpp _ (hs3 hQ))).mono ?_
     rintro _ w5 ⟨hx5,rfl⟩
     exact ⟨rfl,hx3.trans (hx4.trans hx5)⟩
   refine zag ?_
   exact br (fun h5=>key2 (.inr h5)) fun h5=>⟨rfl,Ext.refl _⟩
 rintro u14 w6 ⟨hu,hx6⟩
 simp only [List.map_cons,List.map_nil,List.cons.injEq,and_true] at hu
 rw [hu]
 refine JOIN.mk (fun us w'=>us=[vo]∧Ext w6 w') ?_ ?_
 · refine zaa zdQ ?_
   refine zac ty3 (zbY hA8) hx6 fun hI=>?_
   refine zag ?_
   refine zl4 (Q:=x.kind=1∨x.kind=2∨x.kind=3) .inl (fun hQ=>?_) (fun key h1=>?_)
   · have hT:=hs4 hQ
     refine zaa zeE ?_
     refine zab zb6 (zcw hA8) hx6 fun v63 h63=>?_
     refine (zdT h63 hx6).mono ?_
     rintro v64 w7 ⟨hx7,h64⟩
     have hrl:=zk6 x.term
     refine zaF (zbl x.term).length (fun q us w'=>us=[vo,.int .i64 (q:Int)]∧Ext w7 w'∧q≤(zbl x.term).length) 0 (Nat.zero_le _) ⟨rfl,Ext.refl _,Nat.zero_le _⟩ ?_
     rintro q mq uq w8 hqm ⟨hu,hx8,hql⟩
     obtain ⟨hu0,hu1⟩:=zkG hu;clear hu
     rw [hu0,hu1]
     refine zae u24 h64 ?_
     refine zai ?_
     refine br (fun hlt=>?_) (fun hge=>⟨rfl,hx7.trans hx8⟩)
     have hq:q<(zbl x.term).length:=by omega
     have hx9:=zah w8
     have hx89:=hx8.trans hx9
     have hx09:=hx02.trans (hx6.trans (hx7.trans hx89))
     refine zaa zgf ?_
     refine zab zcJ (zd0 hAp) hx09 fun v73 h73=>?_
     refine zad u24 ty9 h64 hq fun b76 o76 hA76=>?_
     refine zam ty9 hA76 hx89 fun hS=>?_
     refine (zfT h73 hx09 (by rw [hg];exact hT.2.1 _ (List.getElem_mem hq))).mono ?_
     rintro _ w10 ⟨hx10,rfl⟩
     refine zal (by omega) ?_
     exact ⟨mq-1,by omega,q+1,by omega,rfl,hx89.trans hx10,by omega⟩
   refine zaa zdQ ?_
   refine zac ty3 (zbY hA8) hx6 fun hI=>?_
   refine zag ?_
   refine br (fun h2=>key (.inr (.inl h2))) (fun h2=>?_)
   refine zaa zdQ ?_
   refine zac ty3 (zbY hA8) hx6 fun hI=>?_
   refine zag ?_
   exact br (fun h3=>key (.inr (.inr h3))) (fun h3=>⟨rfl,Ext.refl _⟩)
 rintro u20 w11 ⟨hu,hx11⟩
 simp only [List.map_cons,List.map_nil,List.cons.injEq,and_true] at hu
 rw [hu]
 have hx211:=hx6.trans hx11
 have hx011:=hx02.trans hx211
 have hkid:∃ q,(∀ y∈x.body,StR pr q y)∧(∀ y∈x.els,StR pr q y)∧(q+1=n∨(x.body=[]∧x.els=[])):=by
   have h0:St0 pr x→x.body=[]∧x.els=[]:=fun h=>by rcases h with q | q | q | q<;>exact ⟨q.2.2.2.1,q.2.2.2.2⟩
   cases n with
   | zero=>
     obtain ⟨h1,h2⟩:=h0 hxs.zero
     exact ⟨0,by rw [h1];simp,by rw [h2];simp,.inr ⟨h1,h2⟩⟩
   | succ n=>
     rcases hxs.succ with q | ⟨_,_,_,h4,h5⟩
     · obtain ⟨h1,h2⟩:=h0 q
       exact ⟨0,by rw [h1];simp,by rw [h2];simp,.inr ⟨h1,h2⟩⟩
     exact ⟨n,h4,h5,.inl rfl⟩
 obtain ⟨q,hb,he,hq⟩:=hkid
 have hnil:zqr p pr q []:=by
   intro w W W' v vp vo hP eP h e hs
   refine F275_call ?_
   unfold F275
   refine zbR hP eP fun w0 hx0 hAp=>?_
   refine zaF 0 (fun k us w'=>us=[vo,.int .i64 (k:Int)]∧Ext w0 w') 0 (Nat.zero_le _) ⟨rfl,Ext.refl _⟩ ?_
   rintro k m u w1 hkm ⟨hu,hx1⟩
   obtain ⟨hu0,hu1⟩:=zkG hu
   rw [hu0,hu1]
   refine zae zd3 h ?_
   refine zai ?_
   exact br (fun hlt=>by simp at hlt;omega) (fun hge=>⟨hx0.trans hx1,rfl⟩)
 have ihb:zqr p pr q x.body:=by
   rcases hq with hq | ⟨h1,_⟩
   · exact ih q _ hq
   rw [h1];exact hnil
 have ihe:zqr p pr q x.els:=by
   rcases hq with hq | ⟨_,h1⟩
   · exact ih q _ hq
   rw [h1];exact hnil
 refine zab zeD hAp hx011 fun v79 h79=>?_
 refine zaa zda ?_
 refine zab zcB (zcg hA8) hx211 fun v81 h81=>?_
 refine (ihb h79 hx011 h81 hx211 hb).mono ?_
 rintro _ w12 ⟨hx12,rfl⟩
 refine zab zeD hAp (hx011.trans hx12) fun v84 h84=>?_
 refine zaa zcC ?_
 refine zab zcB (zbZ hA8) (hx211.trans hx12) fun v86 h86=>?_
 refine (ihe h84 (hx011.trans hx12) h86 (hx211.trans hx12) he).mono ?_
 rintro _ w13 ⟨hx13,rfl⟩
 refine zal (by omega) ?_
 exact ⟨m-1,by omega,k+1,by omega,rfl,hx011.trans (hx12.trans hx13),by omega⟩
theorem zfU {p:DProg} {pr:List ByteArray} (hg:p.globals=glb) (hl:p.locks=lks) (hpp:∀ x∈pr,x∈p.procs.map DProc.name) (hpn:p.procs.length≤1000):∀ (n:Nat) (l:List DStmt),zqr p pr n l
 | 0,l=>zeK (n:=0) (l:=l) hg hl hpp hpn (fun m l h=>absurd h (by omega))
 | n + 1, l => zeK (n := n + 1) (l := l) hg hl hpp hpn fun m l h => by
     obtain rfl:m=n:=by omega
     exact zfU hg hl hpp hpn m l
theorem ProgR.facts {p:DProg} (hp:ProgR p):p.procs.length≤4∧(∀ x∈p.procs.map DProc.name,zaZ x=true)∧(p.procs.map DProc.name).Nodup∧zgi∈p.procs.map DProc.name:=by
 obtain ⟨k,hk,hn⟩:=hp.n
 obtain ⟨n1,n2,n3,n4⟩:=zka k hk
 rw [←hn] at n1 n2 n3 n4
 rw [List.length_map] at n1
 exact ⟨n1,fun x hx=>List.all_eq_true.1 n2 x hx,n3,n4⟩
theorem zkc {w W:World} {v:Value} {p:DProg} (h:Is W v p) (e:Ext W w) (hp:ProgR p):CALL Tryz.prog 222 [v] w fun r w'=>Ext w w'∧r=.bool true:=by
 obtain ⟨f1,f2,f3,f4⟩:=hp.facts
 refine F222_call ?_
 unfold F222
 refine zbR h e fun w1 hx1 hA=>?_
 refine zaa zgf ?_
 refine zab zcJ (zd0 hA) (Ext.refl _) fun v5 h5=>?_
 refine (zdA h5 (Ext.refl _)).mono ?_
 rintro _ w2 ⟨hx2,rfl⟩
 refine zbt ?_
 refine zdN (fun hc=>by rw [hp.g] at hc;exact absurd hc (by decide)) (fun _=>?_)
 refine zaa zhm ?_
 refine zab zcJ (zeV hA) hx2 fun v10 h10=>?_
 refine (zdA h10 hx2).mono ?_
 rintro _ w3 ⟨hx3,rfl⟩
 refine zbt ?_
 refine zdN (fun hc=>by rw [hp.l] at hc;exact absurd hc (by decide)) (fun _=>?_)
 have hx13:=hx2.trans hx3
 refine zaa zcu ?_
 refine zab zfm (zbo hA) hx13 fun v16 h16=>?_
 refine zae zlO h16 ?_
 refine zci ?_
 refine br (fun hc=>by omega) (fun _=>?_)
 refine zaF p.procs.length (fun k us w'=>us=[.int .i64 (k:Int)]∧Ext w1 w'∧k≤p.procs.length) 0 (Nat.zero_le _) ⟨rfl,hx13,Nat.zero_le _⟩ ?_
 rintro k m u w4 hkm ⟨hu,hx4,hkl⟩
 simp only [List.map_cons,List.map_nil,List.cons.injEq,and_true] at hu
 rw [hu]
 refine zaa zcu ?_
 refine zab zfm (zbo hA) hx4 fun v22 h22=>?_
 refine zae zlO h22 ?_
 refine zai ?_
 refine br (fun hlt=>?_) (fun hge=>⟨hx1.trans hx4,rfl⟩)
 have hk:k<p.procs.length:=by omega
 have hkm':p.procs[k]∈p.procs:=List.getElem_mem hk
 refine zaa zcu ?_
 refine zab zfm (zbo hA) hx4 fun v28 h28=>?_
 refine zad zlO zjP h28 hk fun b30 o30 hA30=>?_
 refine zaa ziZ ?_
 refine zam ty9 (zeU hA30) hx4 fun hS=>?_
 refine (zbC (w:=w4)).mono ?_
 rintro _ w5 ⟨hx5,rfl⟩
 refine zbt ?_
 refine zdN (fun hc=>by rw [f2 _ (List.mem_map.2 ⟨_,hkm',rfl⟩)] at hc;cases hc) (fun _=>?_)
 refine zaa zcu ?_
 refine zab zfm (zbo hA) (hx4.trans hx5) fun v37 h37=>?_
 refine zad zlO zjP h37 hk fun b39 o39 hA39=>?_
 refine zaa zkY ?_
 refine zab zcB (zge hA39) (hx4.trans hx5) fun v41 h41=>?_
 refine (zo6 (fun x hx=>f2 x (List.mem_of_mem_drop hx)) h41 (hx4.trans hx5) (hp.b _ hkm')).mono ?_
 rintro _ w6 ⟨hx6,rfl⟩
 refine zbt ?_
 refine zdN (fun hc=>by cases hc) (fun _=>?_)
 refine zal (by omega) ?_
 exact ⟨m-1,by omega,k+1,by omega,rfl,hx4.trans (hx5.trans hx6),by omega⟩
theorem zkd {w W:World} {v:Value} {p:DProg} (h:Is W v p) (e:Ext W w) (hp:ProgR p):CALL Tryz.prog 224 [v] w fun r w'=>Ext w w'∧Is w' r ([]:List ByteArray):=by
 obtain ⟨f1,f2,f3,f4⟩:=hp.facts
 refine F224_call ?_
 unfold F224
 refine zbR h e fun w1 hx1 hA=>?_
 refine zbq (α:=ByteArray) u24 ty9 fun v5 w2 hx2 r5=>?_
 refine zaF p.procs.length (fun k us w'=>us=[.slice (some v5) 0 0,.int .i64 (k:Int)]∧Ext w2 w'∧k≤p.procs.length) 0 (Nat.zero_le _) ⟨rfl,Ext.refl _,Nat.zero_le _⟩ ?_
 rintro k m u w3 hkm ⟨hu,hx3,hkl⟩
 obtain ⟨hu0,hu1⟩:=zkG hu
 rw [hu0,hu1]
 have hx13:=hx2.trans hx3
 refine zab zeD hA hx13 fun v6 h6=>?_
 refine (zkc h6 hx13 hp).mono ?_
 rintro _ w4 ⟨hx4,rfl⟩
 have hx14:=hx13.trans hx4
 refine zdN (fun _=>?_) (fun hc=>by cases hc)
 refine zaa zcu ?_
 refine zab zfm (zbo hA) hx14 fun v11 h11=>?_
 refine zae zlO h11 ?_
 refine zai ?_
 refine br (fun hlt=>?_) (fun hge=>⟨hx1.trans hx14,r5.is.ext (hx3.trans hx4)⟩)
 have hk:k<p.procs.length:=by omega
 have hkm':p.procs[k]∈p.procs:=List.getElem_mem hk
 have hx5:=zah w4
 have hx15:=hx14.trans hx5
 refine zab zeD hA hx15 fun v17 h17=>?_
 refine zaa zcu ?_
 refine zab zfm (zbo hA) hx15 fun v19 h19=>?_
 refine zad zlO zjP h19 hk fun b21 o21 hA21=>?_
 refine zaa zkY ?_
 refine zab zcB (zge hA21) hx15 fun v23 h23=>?_
 refine (zfU hp.g hp.l (fun x hx=>List.mem_of_mem_drop hx) (by omega) 2 _ h17 hx15 h23 hx15 (hp.b _ hkm').1).mono ?_
 rintro _ w6 ⟨hx6,rfl⟩
 refine zal (by omega) ?_
 exact ⟨m-1,by omega,k+1,by omega,rfl,hx3.trans (hx4.trans (hx5.trans hx6)),by omega⟩
def F225 (a0 a1:Value) (w:World) (R:VW):Prop:=
 oP (Instr.box 112 a0) w fun x2 w=>
 LOOPI [5] [(iV 0)] w fun u2 w next2=>
 rF 112 x2 2 w fun x7=>
 rL 110 x7 w fun x8=>
 rN 110 3 x8 w fun x9=>
 rC (u2 5) x9 w fun x10=>
 BR x10
 (rF 112 x2 2 w fun x13=>
 rL 110 x13 w fun x14=>
 rX 110 x14 (u2 5) w fun x16=>
 rF 164 x16 0 w fun x17=>
 rL 9 x17 w fun x18=>
 rB .eql 9 T0 T0 x18 a1 w fun x20=>
 BR x20
 (R (u2 5) w)
 (rA (u2 5) (iV 1) w fun x12=>
 next2 [x12] w))
 (R (iV (-1)) w)
def cfg225:Cfg:=⟨extL,[],[(2,4194288,[5])],[],[],[],[]⟩
theorem F225_call {a0 a1:Value} {w:World} {R:VW} (h:F225 a0 a1 w R):cL 225 [a0,a1] w R:=co (g:=cfg225) Tryz.func225 (by kernel_rfl) (by kernel_rfl) (by kernel_rfl) h
theorem zhK {w:World} {v0:Value} {W0:World} {p:DProg} {s:ByteArray}  (h0:Is W0 v0 p) (e0:Ext W0 w)  :
   CALL Tryz.prog 225 [v0,.string s] w fun r w'=>Ext w w'∧(r=.int .i64 (plc s (p.procs.map DProc.name))):=by
 refine F225_call ?_
 unfold F225
 refine zap zeD rfl h0 e0 fun w1_ hx1_ hA2 hV2=>?_
 refine zaF (p.procs.length) (fun k us w'=>us=[.int .i64 (k:Int)]∧Ext w1_ w'∧(s∉(p.procs.map DProc.name).take k)) (0) (by omega) ⟨by simp,Ext.refl w1_,by simp⟩ ?_
 rintro k m2 uu2 w2_ hk2 ⟨hu,hx2_,hinv⟩
 simp only [List.map_cons,List.map_nil,List.cons.injEq,and_true] at hu
 try rw [hu]
 try clear hu
 refine zaa zcu ?_
 refine zab zfm (zbo hA2) hx2_ fun v8 h8=>?_
 have hln9:=zaf h8
 refine zae zlO h8 ?_
 refine zai ?_
 refine br (fun c1=>?_) (fun c1=>?_)
 · refine zaa zcu ?_
   refine zab zfm (zbo hA2) hx2_ fun v14 h14=>?_
   refine zad zlO zjP h14 (by omega) fun b16 o16 h16=>?_
   refine zaa ziZ ?_
   refine zam ty9 (zeU h16) hx2_ fun hS18=>?_
   refine zaG ?_
   refine br (fun c2=>?_) (fun c2=>?_)
   · refine ⟨(hx1_.trans hx2_),?_⟩
     rw [zik (k:=k) (by rw [List.length_map];omega) hinv (by rw [List.getElem_map];assumption)]
   refine zal (by omega) ?_
   refine ⟨m2-1,by omega,k+1,by omega,by simp,hx2_,?_⟩
   refine zb0 (by rw [List.length_map];omega) hinv ?_
   rw [List.getElem_map];assumption
 refine ⟨(hx1_.trans hx2_),?_⟩
 rw [zg5 (by rw [List.take_of_length_le (by rw [List.length_map];omega)] at hinv;exact hinv)]
theorem zke {w W:World} {v:Value} {p:DProg} (h:Is W v p) (e:Ext W w) (hp:ProgR p):CALL Tryz.prog 158 [v] w fun r w'=>Ext w w'∧r=.int .i64 0:=by
 obtain ⟨f1,f2,f3,f4⟩:=hp.facts
 refine F158_call ?_
 unfold F158
 refine zbR h e fun w1 hx1 hA=>?_
 refine zab zeD hA (Ext.refl _) fun v4 h4=>?_
 refine (zkc h4 (Ext.refl _) hp).mono ?_
 rintro _ w2 ⟨hx2,rfl⟩
 refine zbt ?_
 refine zdN (fun hc=>by cases hc) (fun _=>?_)
 refine zaa zgf ?_
 refine zab zcJ (zd0 hA) hx2 fun v9 h9=>?_
 refine (zcK h9 hx2).mono ?_
 rintro _ w3 ⟨hx3,rfl⟩
 have hx13:=hx2.trans hx3
 refine br (fun hc=>by rw [hp.g] at hc;exact absurd (by decide) hc) (fun _=>?_)
 refine zaa zhm ?_
 refine zab zcJ (zeV hA) hx13 fun v13 h13=>?_
 refine (zcK h13 hx13).mono ?_
 rintro _ w4 ⟨hx4,rfl⟩
 have hx14:=hx13.trans hx4
 refine br (fun hc=>by rw [hp.l] at hc;exact absurd (by decide) hc) (fun _=>?_)
 refine zab zeD hA hx14 fun v17 h17=>?_
 refine (zhJ h17 hx14 (by omega)).mono ?_
 rintro v18 w5 ⟨hx5,o18⟩
 refine (zcK o18.is (Ext.refl _)).mono ?_
 rintro _ w6 ⟨hx6,rfl⟩
 have hx16:=hx14.trans (hx5.trans hx6)
 refine br (fun hc=>absurd f3 hc) (fun _=>?_)
 refine zab zeD hA hx16 fun v22 h22=>?_
 refine (zkd h22 hx16 hp).mono ?_
 rintro v23 w7 ⟨hx7,h23⟩
 have hx17:=hx16.trans hx7
 refine zae u24 h23 ?_
 refine zci ?_
 refine br (fun hc=>by simp at hc) (fun _=>?_)
 refine zab zeD hA hx17 fun v27 h27=>?_
 refine (zhK h27 hx17).mono ?_
 rintro _ w8 ⟨hx8,rfl⟩
 refine zai ?_
 have hm:=zdS.2 f4
 refine br (fun hc=>by unfold zgi at hm;omega) (fun _=>?_)
 exact ⟨hx1.trans (hx17.trans hx8),rfl⟩
end Go.Proofs.YtbnjpfjjmhodnaaGreat
namespace Go.Sh
open Rep (rep)
abbrev RInts:=RV Int 3
abbrev RIntss:=RV RInts 25
structure DStV where
 vars:List Int
 owner:List Int
 stacks:RIntss
theorem DStV.ext_iff {x y:DStV}:x=y↔(x.vars=y.vars∧x.owner=y.owner∧x.stacks=y.stacks):=⟨fun h=>by rw [h];exact ⟨rfl,rfl,rfl⟩,fun h=>by obtain ⟨h0,h1,h2⟩:=h;cases x;cases y;simp only at h0 h1 h2;simp only [h0,h1,h2]⟩
instance:Rep DStV:=Rep.via fun x=>(x.vars,x.owner,x.stacks)
theorem zdE {w:World} {b o:Nat} {x:DStV} (h:At w b o x):At w b (o+2) x.stacks:=zaO (α:=List Int) (β:=RIntss) (p:=(x.owner,x.stacks)) (zaO (α:=List Int) (β:=(List Int)×RIntss) (p:=(x.vars,x.owner,x.stacks)) h)
instance:RepZ DStV:=⟨⟨(RepZ.zv:List Int),(RepZ.zv:List Int),(RepZ.zv:RIntss)⟩,RepZ.zc ((List Int)×(List Int)×RIntss),fun w=>RepZ.zr (α:=(List Int)×(List Int)×RIntss) w⟩
theorem zlh {γ:Type} {H:List Nat→World→γ→Prop} {F:List Nat} {w:World} {b o:Nat} {G:List Nat} {x:DStV} {upd:DStV→γ} (h:Lens H F w b o G x upd) :
   ∃ G1,Lens H F w b (o+0) G1 x.vars (fun y=>upd ⟨y,x.owner,x.stacks⟩):=by
 have h':Lens H F w b o G (x.vars,x.owner,x.stacks) (fun p:(List Int)×(List Int)×RIntss=>upd ⟨p.1,p.2.1,p.2.2⟩):=⟨h.here,h.sub,fun w' G' y' hc hO hs=>h.back w' G' _ hc hO hs⟩
 obtain ⟨G0,h'⟩:=h'.fst
 exact ⟨_,h'⟩
theorem zli {γ:Type} {H:List Nat→World→γ→Prop} {F:List Nat} {w:World} {b o:Nat} {G:List Nat} {x:DStV} {upd:DStV→γ} (h:Lens H F w b o G x upd) :
   ∃ G1,Lens H F w b (o+1) G1 x.owner (fun y=>upd ⟨x.vars,y,x.stacks⟩):=by
 have h':Lens H F w b o G (x.vars,x.owner,x.stacks) (fun p:(List Int)×(List Int)×RIntss=>upd ⟨p.1,p.2.1,p.2.2⟩):=⟨h.here,h.sub,fun w' G' y' hc hO hs=>h.back w' G' _ hc hO hs⟩
 obtain ⟨G0,h'⟩:=h'.snd
 obtain ⟨G1,h'⟩:=h'.fst
 exact ⟨_,h'⟩
theorem zcc {γ:Type} {H:List Nat→World→γ→Prop} {F:List Nat} {w:World} {b o:Nat} {G:List Nat} {x:DStV} {upd:DStV→γ} (h:Lens H F w b o G x upd) :
   ∃ G1,Lens H F w b (o+2) G1 x.stacks (fun y=>upd ⟨x.vars,x.owner,y⟩):=by
 have h':Lens H F w b o G (x.vars,x.owner,x.stacks) (fun p:(List Int)×(List Int)×RIntss=>upd ⟨p.1,p.2.1,p.2.2⟩):=⟨h.here,h.sub,fun w' G' y' hc hO hs=>h.back w' G' _ hc hO hs⟩
 obtain ⟨G0,h'⟩:=h'.snd
 obtain ⟨G1,h'⟩:=h'.snd
 exact ⟨_,h'⟩
theorem zl5 {w:World} {F:List Nat} {cs:List Value} {x:DStV} (h:rep F w cs x):∃ F0 c0 F1 c1 F2 c2,F=(F0++(F1++F2))∧cs=(c0++(c1++c2))∧rep F0 w c0 x.vars∧rep F1 w c1 x.owner∧rep F2 w c2 x.stacks:=by
 obtain ⟨F0,G0,c0,d0,rfl,rfl,h0,h⟩:=h
 obtain ⟨F1,G1,c1,d1,rfl,rfl,h1,h⟩:=h
 exact ⟨_,_,_,_,_,_,rfl,rfl,h0,h1,h⟩
def DStV.er (z:DStV):DState:=⟨z.vars,z.owner,z.stacks.l.map RV.l⟩
section
variable {w:World}
theorem zo7 {F G H:List Nat} {a b:Value} {s:DStV} (h1:Mine F w a s.vars) (h2:Mine G w b s.owner) (h3:Mine H w s.stacks.v s.stacks) (hn:(F++(G++H)).Nodup):Mine (F++(G++H)) w (.agg #[a,b,s.stacks.v]) s:=
 ⟨⟨[a,b,s.stacks.v],zav (zaV rfl h1.own) (zav (zaV rfl h2.own) (zaV rfl h3.own)),rfl⟩,hn,h1.wr.append (h2.wr.append h3.wr)⟩
theorem zl6 {a b:Value} {s:DStV} {lo hi l0 h0 l1 h1 l2 h2:Nat} (m0:OwnI l0 h0 w a s.vars) (m1:OwnI l1 h1 w b s.owner) (m2:OwnI l2 h2 w s.stacks.v s.stacks) (d01:h0≤l1∨h1≤l0) (d02:h0≤l2∨h2≤l0) (d12:h1≤l2∨h2≤l1)
   (b0:lo≤l0∧h0≤hi) (b1:lo≤l1∧h1≤hi) (b2:lo≤l2∧h2≤hi):OwnI lo hi w (.agg #[a,b,s.stacks.v]) s:=by
 obtain ⟨F0,M0,B0⟩:=m0
 obtain ⟨F1,M1,B1⟩:=m1
 obtain ⟨F2,M2,B2⟩:=m2
 refine ⟨F0++(F1++F2),zo7 M0 M1 M2 ?_,fun x hx=>?_⟩
 · rw [List.nodup_append,List.nodup_append]
   refine ⟨M0.nodup,⟨M1.nodup,M2.nodup,fun p hp q hq e=>?_⟩,fun p hp q hq e=>?_⟩
   · subst e;have:=B1 p hp;have:=B2 p hq;omega
   subst e
   have:=B0 p hp
   rcases List.mem_append.1 hq with hq | hq
   · have:=B1 p hq;omega
   have:=B2 p hq;omega
 rcases List.mem_append.1 hx with hx | hx
 · have:=B0 x hx;omega
 rcases List.mem_append.1 hx with hx | hx
 · have:=B1 x hx;omega
 have:=B2 x hx;omega
end
end Go.Sh
namespace Go.Proofs.YtbnjpfjjmhodnaaGreat
open Go Go.Sh Go.Proofs
open Rep (rep)
def F79 (a0:Value) (w:World) (R:VW):Prop:=
 oP (Instr.box 33 a0) w fun x1 w=>
 oP (Instr.alloc 33 true (.tuple #[])) w fun x2 w=>
 (fun w0=>PAR w0 [[(0,6)],[(1,7),(0,6)],[(2,8),(1,7)],[(3,9)],[(4,10),(3,9)],[(5,11),(4,10),(2,8)],[(6,12),(2,8),(5,11)],[(7,3)]] (fun Q=>
 (∀ (u1:Env) (T:Nat→Nat×Nat) (w:World),Ext w0 w→zaA [] w0.heap.size w.heap.size T→(True)→(fun w1=>rF 33 x1 0 w fun x6=>
 Ext w1 w∧Q 0 (upd u1 6 x6) (zbv T 0 (w1.heap.size,w.heap.size)) w) w) ∧
 (∀ (u1:Env) (T:Nat→Nat×Nat) (w:World),Ext w0 w→zaA [0] w0.heap.size w.heap.size T→(Q 0 u1 T w∧True)→(fun w1=>rL 25 (u1 6) w fun x7=>
 Ext w1 w∧Q 1 (upd u1 7 x7) (zbv T 1 (w1.heap.size,w.heap.size)) w) w) ∧
 (∀ (u1:Env) (T:Nat→Nat×Nat) (w:World),Ext w0 w→zaA [1] w0.heap.size w.heap.size T→(Q 1 u1 T w∧True)→(fun w1=>cL 139 [(u1 7)] w fun x8 w=>
 Ext w1 w∧Q 2 (upd u1 8 x8) (zbv T 2 (w1.heap.size,w.heap.size)) w) w) ∧
 (∀ (u1:Env) (T:Nat→Nat×Nat) (w:World),Ext w0 w→zaA [] w0.heap.size w.heap.size T→(True)→(fun w1=>rF 33 x1 1 w fun x9=>
 Ext w1 w∧Q 3 (upd u1 9 x9) (zbv T 3 (w1.heap.size,w.heap.size)) w) w) ∧
 (∀ (u1:Env) (T:Nat→Nat×Nat) (w:World),Ext w0 w→zaA [3] w0.heap.size w.heap.size T→(Q 3 u1 T w∧True)→(fun w1=>rL 25 (u1 9) w fun x10=>
 Ext w1 w∧Q 4 (upd u1 10 x10) (zbv T 4 (w1.heap.size,w.heap.size)) w) w) ∧
 (∀ (u1:Env) (T:Nat→Nat×Nat) (w:World),Ext w0 w→zaA [4,2] w0.heap.size w.heap.size T→(Q 4 u1 T w∧Q 2 u1 T w∧True)→(fun w1=>cL 139 [(u1 10)] w fun x11 w=>
 Ext w1 w∧Q 5 (upd u1 11 x11) (zbv T 5 (w1.heap.size,w.heap.size)) w) w) ∧
 (∀ (u1:Env) (T:Nat→Nat×Nat) (w:World),Ext w0 w→zaA [2,5] w0.heap.size w.heap.size T→(Q 2 u1 T w∧Q 5 u1 T w∧True)→(fun w1=>rD (Instr.build 33 #[(0,(u1 8)),(1,(u1 11))]) w fun x12=>
 Ext w1 w∧Q 6 (upd u1 12 x12) (zbv T 6 (w1.heap.size,w.heap.size)) w) w) ∧
 (∀ (u1:Env) (T:Nat→Nat×Nat) (w:World),Ext w0 w→zaA [] w0.heap.size w.heap.size T→(True)→(fun w1=>oP (Instr.alloc 33 true (.tuple #[])) w fun x3 w=>
 Ext w1 w∧Q 7 (upd u1 3 x3) (zbv T 7 (w1.heap.size,w.heap.size)) w) w) ∧
 True)
 (fun Q=>∀ (u1:Env) (T:Nat→Nat×Nat) (w:World),Ext w0 w→zaA [0,1,2,3,4,5,6,7] w0.heap.size w.heap.size T→(Q 0 u1 T w∧Q 1 u1 T w∧Q 2 u1 T w∧Q 3 u1 T w∧Q 4 u1 T w∧Q 5 u1 T w∧Q 6 u1 T w∧Q 7 u1 T w∧True) →
 oS 33 (u1 3) (u1 12) w fun w=>
 rF 33 x1 2 w fun x13=>
 rL 31 x13 w fun x14=>
 rN 31 3 x14 w fun x15=>
 LOOPI [16] [(iV 0)] w fun u3 w next3=>
 rC (u3 16) x15 w fun x17=>
 BR x17
 (rX 31 x14 (u3 16) w fun x18=>
 rL 25 x18 w fun x19=>
 (fun w=>rF 33 (u1 3) 2 w fun x20=>
 rL 31 x20 w fun x21=>
 (fun w_=>cL 139 [x19] w_ fun x23 w=>
 Ext w_ w ∧
 (fun w_=>oP (Instr.buildSlice 31 1 #[(0,x23)]) w_ fun x24 w=>
 Ext w_ w ∧
 (oP (Builtin.append_ #[31,31] 31 [x21,x24].toArray) w fun x25 w=>
 rF 33 (u1 3) 2 w fun x26=>
 oS 31 x26 x25 w fun w=>
 rA (u3 16) (iV 1) w fun x27=>
 next3 [x27] w)) w) w) (World.drew1 w))
 (rL 33 (u1 3) w fun x28=>
 oS 33 x2 x28 w fun w=>
 rD (zaw 33 x2) w fun r2=>R r2 w))) (World.drew1 w)
def cfg79:Cfg:=⟨extL,[],[(3,268369952,[16])],[(5,[0,1,2,3,4,5,6,7],24)],[(1,8136,8)],[],[]⟩
theorem F79_call {a0:Value} {w:World} {R:VW} (h:F79 a0 w R):cL 79 [a0] w R:=co (g:=cfg79) Tryz.func79 (by kernel_rfl) (by kernel_rfl) (by kernel_rfl) h
def F143 (a0:Value) (w:World) (R:VW):Prop:=
 oP (Instr.box 33 a0) w fun x1 w=>
 oP (Instr.alloc 33 true (.tuple #[])) w fun x2 w=>
 (fun w0=>PAR w0 [[(0,5)],[(1,6)],[(2,7),(1,6)],[(3,8),(0,5),(2,7)],[(4,9)],[(5,10)],[(6,11),(5,10)],[(7,12),(4,9),(6,11),(3,8)],[(8,13),(3,8),(7,12)],[(9,3)]] (fun Q=>
 (∀ (u1:Env) (T:Nat→Nat×Nat) (w:World),Ext w0 w→zaA [] w0.heap.size w.heap.size T→(True)→(fun w1=>oP (Instr.buildSlice 25 0 #[]) w fun x5 w=>
 Ext w1 w∧Q 0 (upd u1 5 x5) (zbv T 0 (w1.heap.size,w.heap.size)) w) w) ∧
 (∀ (u1:Env) (T:Nat→Nat×Nat) (w:World),Ext w0 w→zaA [] w0.heap.size w.heap.size T→(True)→(fun w1=>rF 33 x1 0 w fun x6=>
 Ext w1 w∧Q 1 (upd u1 6 x6) (zbv T 1 (w1.heap.size,w.heap.size)) w) w) ∧
 (∀ (u1:Env) (T:Nat→Nat×Nat) (w:World),Ext w0 w→zaA [1] w0.heap.size w.heap.size T→(Q 1 u1 T w∧True)→(fun w1=>rL 25 (u1 6) w fun x7=>
 Ext w1 w∧Q 2 (upd u1 7 x7) (zbv T 2 (w1.heap.size,w.heap.size)) w) w) ∧
 (∀ (u1:Env) (T:Nat→Nat×Nat) (w:World),Ext w0 w→zaA [0,2] w0.heap.size w.heap.size T→(Q 0 u1 T w∧Q 2 u1 T w∧True)→(fun w1=>oP (Builtin.append_ #[25,25] 25 [(u1 5),(u1 7)].toArray) w fun x8 w=>
 Ext w1 w∧Q 3 (upd u1 8 x8) (zbv T 3 (w1.heap.size,w.heap.size)) w) w) ∧
 (∀ (u1:Env) (T:Nat→Nat×Nat) (w:World),Ext w0 w→zaA [] w0.heap.size w.heap.size T→(True)→(fun w1=>oP (Instr.buildSlice 25 0 #[]) w fun x9 w=>
 Ext w1 w∧Q 4 (upd u1 9 x9) (zbv T 4 (w1.heap.size,w.heap.size)) w) w) ∧
 (∀ (u1:Env) (T:Nat→Nat×Nat) (w:World),Ext w0 w→zaA [] w0.heap.size w.heap.size T→(True)→(fun w1=>rF 33 x1 1 w fun x10=>
 Ext w1 w∧Q 5 (upd u1 10 x10) (zbv T 5 (w1.heap.size,w.heap.size)) w) w) ∧
 (∀ (u1:Env) (T:Nat→Nat×Nat) (w:World),Ext w0 w→zaA [5] w0.heap.size w.heap.size T→(Q 5 u1 T w∧True)→(fun w1=>rL 25 (u1 10) w fun x11=>
 Ext w1 w∧Q 6 (upd u1 11 x11) (zbv T 6 (w1.heap.size,w.heap.size)) w) w) ∧
 (∀ (u1:Env) (T:Nat→Nat×Nat) (w:World),Ext w0 w→zaA [4,6,3] w0.heap.size w.heap.size T→(Q 4 u1 T w∧Q 6 u1 T w∧Q 3 u1 T w∧True)→(fun w1=>oP (Builtin.append_ #[25,25] 25 [(u1 9),(u1 11)].toArray) w fun x12 w=>
 Ext w1 w∧Q 7 (upd u1 12 x12) (zbv T 7 (w1.heap.size,w.heap.size)) w) w) ∧
 (∀ (u1:Env) (T:Nat→Nat×Nat) (w:World),Ext w0 w→zaA [3,7] w0.heap.size w.heap.size T→(Q 3 u1 T w∧Q 7 u1 T w∧True)→(fun w1=>rD (Instr.build 33 #[(0,(u1 8)),(1,(u1 12))]) w fun x13=>
 Ext w1 w∧Q 8 (upd u1 13 x13) (zbv T 8 (w1.heap.size,w.heap.size)) w) w) ∧
 (∀ (u1:Env) (T:Nat→Nat×Nat) (w:World),Ext w0 w→zaA [] w0.heap.size w.heap.size T→(True)→(fun w1=>oP (Instr.alloc 33 true (.tuple #[])) w fun x3 w=>
 Ext w1 w∧Q 9 (upd u1 3 x3) (zbv T 9 (w1.heap.size,w.heap.size)) w) w) ∧
 True)
 (fun Q=>∀ (u1:Env) (T:Nat→Nat×Nat) (w:World),Ext w0 w→zaA [0,1,2,3,4,5,6,7,8,9] w0.heap.size w.heap.size T→(Q 0 u1 T w∧Q 1 u1 T w∧Q 2 u1 T w∧Q 3 u1 T w∧Q 4 u1 T w∧Q 5 u1 T w∧Q 6 u1 T w∧Q 7 u1 T w∧Q 8 u1 T w∧Q 9 u1 T w∧True) →
 oS 33 (u1 3) (u1 13) w fun w=>
 LOOPI [4] [(iV 0)] w fun u3 w next3=>
 rF 33 x1 2 w fun x15=>
 rL 31 x15 w fun x16=>
 rN 31 3 x16 w fun x17=>
 rC (u3 4) x17 w fun x18=>
 BR x18
 ((fun w=>rF 33 (u1 3) 2 w fun x21=>
 rL 31 x21 w fun x22=>
 rF 33 x1 2 w fun x24=>
 rL 31 x24 w fun x25=>
 rX 31 x25 (u3 4) w fun x27=>
 rL 25 x27 w fun x28=>
 (fun w_=>oP (Instr.buildSlice 25 0 #[]) w_ fun x23 w=>
 Ext w_ w ∧
 ((fun w_=>oP (Builtin.append_ #[25,25] 25 [x23,x28].toArray) w_ fun x29 w=>
 Ext w_ w ∧
 ((fun w_=>oP (Instr.buildSlice 31 1 #[(0,x29)]) w_ fun x30 w=>
 Ext w_ w ∧
 (oP (Builtin.append_ #[31,31] 31 [x22,x30].toArray) w fun x31 w=>
 rF 33 (u1 3) 2 w fun x32=>
 oS 31 x32 x31 w fun w=>
 rA (u3 4) (iV 1) w fun x20=>
 next3 [x20] w)) w)) w)) w) (World.drew1 w))
 (rL 33 (u1 3) w fun x33=>
 oS 33 x2 x33 w fun w=>
 rD (zaw 33 x2) w fun r2=>R r2 w))) (World.drew1 w)
def cfg143:Cfg:=⟨extL,[],[(3,8589918224,[4])],[(5,[0,1,3,4,5,6,7,2,8,9,10,11,12],772)],[(1,16360,10)],[],[]⟩
theorem F143_call {a0:Value} {w:World} {R:VW} (h:F143 a0 w R):cL 143 [a0] w R:=co (g:=cfg143) Tryz.func143 (by kernel_rfl) (by kernel_rfl) (by kernel_rfl) h
theorem zl7:zc7 Tryz.prog 33=some [.slice none 0 0,.slice none 0 0,.slice none 0 0]:=by kernel_rfl
theorem zbX {lo hi:Nat} {w:World} {v:Value} {α:Type} [Rep α] {l:List α} (h:OwnI lo hi w v l):∃ a n c,v=.slice a n c:=by
 obtain ⟨a,cap,Fi,xs,hv,_⟩:=zct h.is
 exact ⟨a,_,cap,hv⟩
theorem zds {P:Program} {w w0:World} {α:Type} [Rep α] [Flat α] {t ty e:TypeId} {by_:Nat} {a:Option Addr} {src:Value} {m:List α} {K:Value→World→Prop} (ht:P.underlying t=some (.slice e)) (he:tyI P e=some (Rep.size α,by_,Rep.agg α))
   (hzc:(P.info? e).map (fun i=>(i.zero.map (·.cells.size)))=some (some (Rep.size α))) (hs:Is w0 src m) (hx:Ext w0 w) (hm:m.length≤maxLen) (hb:m.length*by_≤140737488355328)
   (k:∀ v' w',Ext w w'→RowI w.heap.size w'.heap.size e w' v' m→K v' w'):OP P (Builtin.append_ #[t,t] ty [.slice a 0 0,src].toArray) w K:=
 zmy (lo:=w.heap.size) (hi:=w.heap.size) (l:=([]:List α)) ht he hzc (zdy _ _ _ _ _) (Nat.le_refl _) hs hx (by simpa using hm) (by simpa using hb) fun v' w' hc hr=>k v' w' ((Ext.refl w).chgI hc (Nat.le_refl _)) (by simpa using hr)
theorem zn9 {w w0:World} {v:Value} {l:List Int} (h:Is w0 v l) (hx:Ext w0 w) (hn:l.length≤1073741824) :
   CALL Tryz.prog 139 [v] w fun r w'=>Ext w w'∧RowI w.heap.size w'.heap.size 3 w' r l:=by
 refine F139_call ?_
 unfold F139
 obtain ⟨a,cap,Fi,xs,rfl,h1,h2,hc,h4⟩:=zct h
 refine zgG zmt ?_
 refine zdN (fun hnil=>?_) (fun hnn=>?_)
 · have:l=[]:=by
     rcases h4 with h4 | ⟨b,o,ha,_⟩
     · exact h4
     subst ha;simp at hnil
   subst this
   exact ⟨Ext.refl w,zcS _ _ _ _⟩
 refine zbq (α:=Int) zmt zoT fun a1 w1 hx1 hr1=>?_
 refine zds (α:=Int) zmt zoT zqC h (hx.trans hx1) (by rw [zak];omega) (by omega) fun v2 w2 hx2 hr2=>?_
 exact ⟨hx1.trans hx2,hr2.mono hx1.size (Nat.le_refl _)⟩
def zqP (s:DState):Prop:=s.vars.length≤1073741824∧s.owner.length≤1073741824∧s.stacks.length≤1073741824∧∀ x∈s.stacks,x.length≤1073741824
def cpQ (s:DState) (g1:Nat) (w0:World):ParQ:=fun i u T w=>match i with
 | 0=>u 6=.pointer (some ⟨g1,0+0,none⟩)
 | 1=>Is w0 (u 7) s.vars
 | 2=>OwnI (T 2).1 (T 2).2 w (u 8) s.vars
 | 3=>u 9=.pointer (some ⟨g1,0+1,none⟩)
 | 4=>Is w0 (u 10) s.owner
 | 5=>OwnI (T 5).1 (T 5).2 w (u 11) s.owner
 | 6=>u 12=.agg #[u 8,u 11,.slice none 0 0]
 | 7=>∃ g,u 3=.pointer (some ⟨g,0,none⟩)∧(T 7).1≤g∧g<(T 7).2∧Blk g 33 w [.slice none 0 0,.slice none 0 0,.slice none 0 0]
 | _=>True
theorem zgO {w W:World} {v:Value} {s:DState} (h:Is W v s) (e:Ext W w) (hsz:zqP s) :
   CALL Tryz.prog 79 [v] w fun r w'=>Ext w w'∧∃ z:DStV,OwnI w.heap.size w'.heap.size w' r z∧z.er=s:=by
 obtain ⟨hz1,hz2,hz3,hz4⟩:=hsz
 refine F79_call ?_
 unfold F79
 refine zbR h e fun w1 hx1 hA=>?_
 refine za6 zl7 fun w2 hx2 hB2=>?_
 have hg2:=hB2.lt
 have hs1:=hx1.size
 have hx3:=zah w2
 have hs3:=hx3.size
 refine PAR.mk (cpQ s w.heap.size (World.drew1 w2)) ?_ ?_ ?_
 · intro i u u' T T' wa wb hxa hxb hd hq
   match i,hd,hq with
   | 0,hd,hq=>exact (hd (0,6) (by decide)).1.trans hq
   | 1,hd,hq=>have:=(hd (1,7) (by decide)).1;show Is _ (u' 7) _;simp only [this];exact hq
   | 2,hd,hq=>
     obtain ⟨e1,e2⟩:=hd (2,8) (by decide)
     simp only at e1 e2
     show OwnI (T' 2).1 (T' 2).2 wb (u' 8) s.vars
     rw [e1,e2];exact OwnI.ext hq hxb
   | 3,hd,hq=>exact (hd (3,9) (by decide)).1.trans hq
   | 4,hd,hq=>have:=(hd (4,10) (by decide)).1;show Is _ (u' 10) _;simp only [this];exact hq
   | 5,hd,hq=>
     obtain ⟨e1,e2⟩:=hd (5,11) (by decide)
     simp only at e1 e2
     show OwnI (T' 5).1 (T' 5).2 wb (u' 11) s.owner
     rw [e1,e2];exact OwnI.ext hq hxb
   | 6,hd,hq=>
     have e1:=(hd (6,12) (by decide)).1
     have e2:=(hd (2,8) (by decide)).1
     have e3:=(hd (5,11) (by decide)).1
     simp only at e1 e2 e3
     show u' 12=.agg #[u' 8,u' 11,.slice none 0 0]
     rw [e1,e2,e3];exact hq
   | 7,hd,⟨g,q1,q2,q3,q4⟩=>
     obtain ⟨e1,e2⟩:=hd (7,3) (by decide)
     simp only at e1 e2
     exact ⟨g,e1.trans q1,by rw [e2];exact q2,by rw [e2];exact q3,q4.ext hxb⟩
   | n+8,_,_=>trivial
 · refine ⟨fun u T w' hx _ _=>?_,fun u T w' hx _ hp=>?_,fun u T w' hx _ hp=>?_,fun u T w' hx _ _=>?_,fun u T w' hx _ hp=>?_,fun u T w' hx _ hp=>?_,fun u T w' hx _ hp=>?_,fun u T w' hx _ _=>?_,trivial⟩
   · exact zaa zdh ⟨Ext.refl _,rfl⟩
   · have q0:u 6=_:=hp.1
     rw [q0]
     exact zab zaJ (za2 hA) (hx2.trans (hx3.trans hx)) fun v6 h6=>⟨Ext.refl _,(h6.ext (hx2.trans hx3))⟩
   · have q1:Is _ (u 7) s.vars:=hp.1
     exact (zlN q1 hx hz1).mono fun r w4 ⟨hx4,ho⟩=>⟨hx4,ho.toI⟩
   · exact zaa zb5 ⟨Ext.refl _,rfl⟩
   · have q0:u 9=_:=hp.1
     rw [q0]
     exact zab zaJ (zbc hA) (hx2.trans (hx3.trans hx)) fun v6 h6=>⟨Ext.refl _,(h6.ext (hx2.trans hx3))⟩
   · have q1:Is _ (u 10) s.owner:=hp.1
     exact (zlN q1 hx hz2).mono fun r w4 ⟨hx4,ho⟩=>⟨hx4,ho.toI⟩
   · have o1:OwnI _ _ _ (u 8) s.vars:=hp.1
     have o2:OwnI _ _ _ (u 11) s.owner:=hp.2.1
     obtain ⟨a,n,cap,q1⟩:=zbX o1
     obtain ⟨a',n',cap',q1'⟩:=zbX o2
     rw [q1,q1']
     refine zaR (cells:=#[.slice a n cap,.slice a' n' cap',.slice none 0 0]) (by kernel_rfl) ⟨Ext.refl _,?_⟩
     show _=Value.agg #[u 8,u 11,.slice none 0 0]
     rw [q1,q1'];rfl
   exact za6 zl7 fun w4 hx4 hB=>⟨hx4,w'.heap.size,rfl,Nat.le_refl _,hB.lt,hB⟩
 rintro u T w4 hx4 hap ⟨-,-,o8,-,-,o11,q12,⟨g,q3,hg0,hg1,hB3⟩,-⟩
 have q12:u 12=.agg #[u 8,u 11,.slice none 0 0]:=q12
 have o8:OwnI (T 2).1 (T 2).2 w4 (u 8) s.vars:=o8
 have o11:OwnI (T 5).1 (T 5).2 w4 (u 11) s.owner:=o11
 have t2:=hap.1 2 (by decide)
 have t5:=hap.1 5 (by decide)
 have t7:=hap.1 7 (by decide)
 have d25:=hap.2 2 (by decide) 5 (by decide) (by decide)
 have d27:=hap.2 2 (by decide) 7 (by decide) (by decide)
 have d57:=hap.2 5 (by decide) 7 (by decide) (by decide)
 generalize u 8=v8 at *
 generalize u 11=v11 at *
 have hs4:=hx4.size
 rw [q12,q3]
 refine za7 (x:=(⟨s.vars,s.owner,[]⟩:DState)) (lo:=0) (hi:=w4.heap.size) zbf rfl hB3 rfl
   (zcO (l2:=0) (h2:=0) o8 o11 (zcl none) (by omega) (by omega) (by omega) (by omega) (by omega) (by omega)) fun w5 hc5 hB5=>?_
 have hs5:=hc5.size
 have hx15:Ext w1 w5:=Ext.chgI (hx2.trans (hx3.trans hx4)) hc5 (by omega)
 replace o8:=o8.chg hc5 (by omega)
 replace o11:=o11.chg hc5 (by omega)
 have hB25:=((hB2.ext hx3).ext hx4).chgI hc5 (by omega)
 refine zaa zaC ?_
 refine zab zc1 (zaq hA) hx15 fun v14 h14=>?_
 refine zae u31 h14 ?_
 refine zaF s.stacks.length (fun k us w'=>us=[.int .i64 (k:Int)]∧w5.heap.size≤w'.heap.size∧Ext w1 w'∧OwnI (T 2).1 (T 2).2 w' v8 s.vars∧OwnI (T 5).1 (T 5).2 w' v11 s.owner ∧
   (∃ v1 hi,∃ l:List RInts,hi≤w'.heap.size∧w5.heap.size≤hi∧l.map RV.l=s.stacks.take k∧Blk g 33 w' [v8,v11,v1]∧RowI w5.heap.size hi 25 w' v1 l)∧Blk w1.heap.size 33 w' [.slice none 0 0,.slice none 0 0,.slice none 0 0]) 0 (Nat.zero_le _)
   ⟨rfl,Nat.le_refl _,hx15,o8,o11,⟨.slice none 0 0,w5.heap.size,[],Nat.le_refl _,Nat.le_refl _,by simp,hB5,zcS _ _ _ _⟩,hB25⟩ ?_
 rintro k m uu w7 hkm ⟨hu,hs7,hx7,o8,o11,⟨v1,hi,l,hhi,hhi2,hl,hB7,r7⟩,hB27⟩
 simp only [List.map_cons,List.map_nil,List.cons.injEq,and_true] at hu
 rw [hu]
 have hll:l.length=k:=by have:=congrArg List.length hl;simp at this;omega
 refine zai ?_
 refine br (fun hlt=>?_) (fun hge=>?_)
 · have hk:k<s.stacks.length:=by omega
   refine zad u31 zaJ h14 hk fun b o hA2=>?_
   refine zab zaJ hA2 hx7 fun v19 h19=>?_
   have hx8:=zah w7
   have hs8:=hx8.size
   refine zaa zaC ?_
   refine zb9 zc1 (hB7.ext hx8) rfl ?_
   refine (zn9 h19 (hx7.trans hx8) (hz4 _ (List.getElem_mem hk))).mono ?_
   rintro r23 w9 ⟨hx9,r9⟩
   have hs9:=hx9.size
   refine ⟨hx9,?_⟩
   refine zg2 (α:=RInts) u31 zaJ z25 zqD (by decide) ((r7.ext hx8).ext hx9) (by omega) (zdd r9) (by omega) (by omega) (by rw [zak];omega) (by omega) fun v25 w10 hc10 r10=>?_
   have hs10:=hc10.size
   have hx79:=hx8.trans hx9
   refine zaa zaC ?_
   refine zcp (α:=List RInts) zc1 rfl rfl ((hB7.ext hx79).chgI hc10 (by omega)) (by simp) r10.own fun w11 hc11 hB11=>?_
   have hs11:=hc11.size
   refine zal (by omega) ?_
   refine ⟨m-1,by omega,k+1,by omega,rfl,by omega,Ext.chgI (Ext.chgI (hx7.trans hx79) hc10 (by omega)) hc11 (by omega),((o8.ext hx79).chg hc10 (by omega)).chg hc11 (by omega),((o11.ext hx79).chg hc10 (by omega)).chg hc11 (by omega),⟨v25,w10.heap.size,_,by omega,by omega,?_,hB11,r10.chg hc11 (by omega)⟩,((hB27.ext hx79).chgI hc10 (by omega)).chgI hc11 (by omega)⟩
   rw [List.map_append,hl,List.take_succ_eq_append_getElem hk];rfl
 have hk:k=s.stacks.length:=by omega
 refine zdb hB7 zbf ?_
 have ost:OwnI w2.heap.size w7.heap.size w7 (.agg #[v8,v11,v1]) (⟨s.vars,s.owner,⟨v1,l⟩⟩:DStV):=
   zl6 (s:=⟨s.vars,s.owner,⟨v1,l⟩⟩) o8 o11 (zdd r7) (by omega) (by omega) (by omega) (by omega) (by omega) (by omega)
 refine za7 zbf rfl hB27 rfl ost fun w13 hc13 hB13=>?_
 have hs13:=hc13.size
 refine zdc hB13 zbf ?_
 refine ⟨Ext.chgI (hx1.trans hx7) hc13 (by omega),_,(ost.chg hc13 (by omega)).mono (by omega) (by omega),?_⟩
 show (⟨s.vars,s.owner,l.map RV.l⟩:DState)=s
 rw [hl,hk,List.take_length]
def cqQ (s:DState) (g1:Nat) (w0:World):ParQ:=fun i u T w=>match i with
 | 0=>∃ a,u 5=.slice (some a) 0 0
 | 1=>u 6=.pointer (some ⟨g1,0+0,none⟩)
 | 2=>Is w0 (u 7) s.vars
 | 3=>OwnI (T 3).1 (T 3).2 w (u 8) s.vars
 | 4=>∃ a,u 9=.slice (some a) 0 0
 | 5=>u 10=.pointer (some ⟨g1,0+1,none⟩)
 | 6=>Is w0 (u 11) s.owner
 | 7=>OwnI (T 7).1 (T 7).2 w (u 12) s.owner
 | 8=>u 13=.agg #[u 8,u 12,.slice none 0 0]
 | 9=>∃ g,u 3=.pointer (some ⟨g,0,none⟩)∧(T 9).1≤g∧g<(T 9).2∧Blk g 33 w [.slice none 0 0,.slice none 0 0,.slice none 0 0]
 | _=>True
theorem zmJ {w W:World} {v:Value} {s:DState} (h:Is W v s) (e:Ext W w) (hsz:zqP s) :
   CALL Tryz.prog 143 [v] w fun r w'=>Ext w w'∧∃ z:DStV,OwnI w.heap.size w'.heap.size w' r z∧z.er=s:=by
 obtain ⟨hz1,hz2,hz3,hz4⟩:=hsz
 refine F143_call ?_
 unfold F143
 refine zbR h e fun w1 hx1 hA=>?_
 refine za6 zl7 fun w2 hx2 hB2=>?_
 have hg2:=hB2.lt
 have hs1:=hx1.size
 have hx3:=zah w2
 have hs3:=hx3.size
 refine PAR.mk (cqQ s w.heap.size (World.drew1 w2)) ?_ ?_ ?_
 · intro i u u' T T' wa wb hxa hxb hd hq
   match i,hd,hq with
   | 0,hd,⟨a,hq⟩=>exact ⟨a,(hd (0,5) (by decide)).1.trans hq⟩
   | 1,hd,hq=>exact (hd (1,6) (by decide)).1.trans hq
   | 2,hd,hq=>have:=(hd (2,7) (by decide)).1;show Is _ (u' 7) _;simp only [this];exact hq
   | 3,hd,hq=>
     obtain ⟨e1,e2⟩:=hd (3,8) (by decide)
     simp only at e1 e2
     show OwnI (T' 3).1 (T' 3).2 wb (u' 8) s.vars
     rw [e1,e2];exact OwnI.ext hq hxb
   | 4,hd,⟨a,hq⟩=>exact ⟨a,(hd (4,9) (by decide)).1.trans hq⟩
   | 5,hd,hq=>exact (hd (5,10) (by decide)).1.trans hq
   | 6,hd,hq=>have:=(hd (6,11) (by decide)).1;show Is _ (u' 11) _;simp only [this];exact hq
   | 7,hd,hq=>
     obtain ⟨e1,e2⟩:=hd (7,12) (by decide)
     simp only at e1 e2
     show OwnI (T' 7).1 (T' 7).2 wb (u' 12) s.owner
     rw [e1,e2];exact OwnI.ext hq hxb
   | 8,hd,hq=>
     have e1:=(hd (8,13) (by decide)).1
     have e2:=(hd (3,8) (by decide)).1
     have e3:=(hd (7,12) (by decide)).1
     simp only at e1 e2 e3
     show u' 13=.agg #[u' 8,u' 12,.slice none 0 0]
     rw [e1,e2,e3];exact hq
   | 9,hd,⟨g,q1,q2,q3,q4⟩=>
     obtain ⟨e1,e2⟩:=hd (9,3) (by decide)
     simp only at e1 e2
     exact ⟨g,e1.trans q1,by rw [e2];exact q2,by rw [e2];exact q3,q4.ext hxb⟩
   | n+10,_,_=>trivial
 · refine ⟨fun u T w' hx _ _=>?_,fun u T w' hx _ _=>?_,fun u T w' hx _ hp=>?_,fun u T w' hx _ hp=>?_,fun u T w' hx _ _=>?_,fun u T w' hx _ _=>?_,fun u T w' hx _ hp=>?_,fun u T w' hx _ hp=>?_,fun u T w' hx _ hp=>?_,fun u T w' hx _ _=>?_,trivial⟩
   · exact zbq (α:=Int) u25 ty3 fun a w4 hx4 _=>⟨hx4,a,rfl⟩
   · exact zaa zdh ⟨Ext.refl _,rfl⟩
   · have q0:u 6=_:=hp.1
     rw [q0]
     exact zab zaJ (za2 hA) (hx2.trans (hx3.trans hx)) fun v6 h6=>⟨Ext.refl _,(h6.ext (hx2.trans hx3))⟩
   · obtain ⟨a,q0⟩:∃ a,u 5=.slice (some a) 0 0:=hp.1
     have q1:Is _ (u 7) s.vars:=hp.2.1
     rw [q0]
     exact zds (α:=Int) u25 ty3 zc3 q1 hx (by rw [zak];omega) (by omega) fun v4 w4 hx4 r4=>⟨hx4,r4.own⟩
   · exact zbq (α:=Int) u25 ty3 fun a w4 hx4 _=>⟨hx4,a,rfl⟩
   · exact zaa zb5 ⟨Ext.refl _,rfl⟩
   · have q0:u 10=_:=hp.1
     rw [q0]
     exact zab zaJ (zbc hA) (hx2.trans (hx3.trans hx)) fun v6 h6=>⟨Ext.refl _,(h6.ext (hx2.trans hx3))⟩
   · obtain ⟨a,q0⟩:∃ a,u 9=.slice (some a) 0 0:=hp.1
     have q1:Is _ (u 11) s.owner:=hp.2.1
     rw [q0]
     exact zds (α:=Int) u25 ty3 zc3 q1 hx (by rw [zak];omega) (by omega) fun v4 w4 hx4 r4=>⟨hx4,r4.own⟩
   · have o1:OwnI _ _ _ (u 8) s.vars:=hp.1
     have o2:OwnI _ _ _ (u 12) s.owner:=hp.2.1
     obtain ⟨a,n,cap,q1⟩:=zbX o1
     obtain ⟨a',n',cap',q1'⟩:=zbX o2
     rw [q1,q1']
     refine zaR (cells:=#[.slice a n cap,.slice a' n' cap',.slice none 0 0]) (by kernel_rfl) ⟨Ext.refl _,?_⟩
     show _=Value.agg #[u 8,u 12,.slice none 0 0]
     rw [q1,q1'];rfl
   exact za6 zl7 fun w4 hx4 hB=>⟨hx4,w'.heap.size,rfl,Nat.le_refl _,hB.lt,hB⟩
 rintro u T w4 hx4 hap ⟨-,-,-,o8,-,-,-,o11,q12,⟨g,q3,hg0,hg1,hB3⟩,-⟩
 have q12:u 13=.agg #[u 8,u 12,.slice none 0 0]:=q12
 have o8:OwnI (T 3).1 (T 3).2 w4 (u 8) s.vars:=o8
 have o11:OwnI (T 7).1 (T 7).2 w4 (u 12) s.owner:=o11
 have t2:=hap.1 3 (by decide)
 have t5:=hap.1 7 (by decide)
 have t7:=hap.1 9 (by decide)
 have d25:=hap.2 3 (by decide) 7 (by decide) (by decide)
 have d27:=hap.2 3 (by decide) 9 (by decide) (by decide)
 have d57:=hap.2 7 (by decide) 9 (by decide) (by decide)
 generalize u 8=v8 at *
 generalize u 12=v11 at *
 have hs4:=hx4.size
 rw [q12,q3]
 refine za7 (x:=(⟨s.vars,s.owner,[]⟩:DState)) (lo:=0) (hi:=w4.heap.size) zbf rfl hB3 rfl
   (zcO (l2:=0) (h2:=0) o8 o11 (zcl none) (by omega) (by omega) (by omega) (by omega) (by omega) (by omega)) fun w5 hc5 hB5=>?_
 have hs5:=hc5.size
 have hx15:Ext w1 w5:=Ext.chgI (hx2.trans (hx3.trans hx4)) hc5 (by omega)
 replace o8:=o8.chg hc5 (by omega)
 replace o11:=o11.chg hc5 (by omega)
 have hB25:=((hB2.ext hx3).ext hx4).chgI hc5 (by omega)
 refine zaF s.stacks.length (fun k us w'=>us=[.int .i64 (k:Int)]∧w5.heap.size≤w'.heap.size∧Ext w1 w'∧OwnI (T 3).1 (T 3).2 w' v8 s.vars∧OwnI (T 7).1 (T 7).2 w' v11 s.owner ∧
   (∃ v1 hi,∃ l:List RInts,hi≤w'.heap.size∧w5.heap.size≤hi∧l.map RV.l=s.stacks.take k∧Blk g 33 w' [v8,v11,v1]∧RowI w5.heap.size hi 25 w' v1 l)∧Blk w1.heap.size 33 w' [.slice none 0 0,.slice none 0 0,.slice none 0 0]) 0 (Nat.zero_le _)
   ⟨rfl,Nat.le_refl _,hx15,o8,o11,⟨.slice none 0 0,w5.heap.size,[],Nat.le_refl _,Nat.le_refl _,by simp,hB5,zcS _ _ _ _⟩,hB25⟩ ?_
 rintro k m uu w7 hkm ⟨hu,hs7,hx7,o8,o11,⟨v1,hi,l,hhi,hhi2,hl,hB7,r7⟩,hB27⟩
 simp only [List.map_cons,List.map_nil,List.cons.injEq,and_true] at hu
 rw [hu]
 have hll:l.length=k:=by have:=congrArg List.length hl;simp at this;omega
 refine zaa zaC ?_
 refine zab zc1 (zaq hA) hx7 fun v16 h16=>?_
 refine zae u31 h16 ?_
 refine zai ?_
 refine br (fun hlt=>?_) (fun hge=>?_)
 · have hk:k<s.stacks.length:=by omega
   have hx8:=zah w7
   have hs8:=hx8.size
   refine zaa zaC ?_
   refine zb9 zc1 (hB7.ext hx8) rfl ?_
   refine zaa zaC ?_
   refine zab zc1 (zaq hA) (hx7.trans hx8) fun v14 h14=>?_
   refine zad u31 zaJ h14 hk fun b o hA2=>?_
   refine zab zaJ hA2 (hx7.trans hx8) fun v19 h19=>?_
   have hlk:=hz4 _ (List.getElem_mem hk)
   refine zbq (α:=Int) u25 ty3 fun a23 w8' hx8' _=>?_
   refine ⟨hx8',?_⟩
   have hs8':=hx8'.size
   refine zds (α:=Int) u25 ty3 zc3 h19 (hx7.trans (hx8.trans hx8')) (by rw [zak];omega) (by omega) fun r23 w9 hx9' r9'=>?_
   have hs9':=hx9'.size
   refine ⟨hx9',?_⟩
   have hx9:=hx8'.trans hx9'
   have hs9:=hx9.size
   have r9:=r9'.mono hs8' (Nat.le_refl _)
   refine zg2 (α:=RInts) u31 zaJ z25 zqD (by decide) ((r7.ext hx8).ext hx9) (by omega) (zdd r9) (by omega) (by omega) (by rw [zak];omega) (by omega) fun v25 w10 hc10 r10=>?_
   have hs10:=hc10.size
   have hx79:=hx8.trans hx9
   refine zaa zaC ?_
   refine zcp (α:=List RInts) zc1 rfl rfl ((hB7.ext hx79).chgI hc10 (by omega)) (by simp) r10.own fun w11 hc11 hB11=>?_
   have hs11:=hc11.size
   refine zal (by omega) ?_
   refine ⟨m-1,by omega,k+1,by omega,rfl,by omega,Ext.chgI (Ext.chgI (hx7.trans hx79) hc10 (by omega)) hc11 (by omega),((o8.ext hx79).chg hc10 (by omega)).chg hc11 (by omega),((o11.ext hx79).chg hc10 (by omega)).chg hc11 (by omega),⟨v25,w10.heap.size,_,by omega,by omega,?_,hB11,r10.chg hc11 (by omega)⟩,((hB27.ext hx79).chgI hc10 (by omega)).chgI hc11 (by omega)⟩
   rw [List.map_append,hl,List.take_succ_eq_append_getElem hk];rfl
 have hk:k=s.stacks.length:=by omega
 refine zdb hB7 zbf ?_
 have ost:OwnI w2.heap.size w7.heap.size w7 (.agg #[v8,v11,v1]) (⟨s.vars,s.owner,⟨v1,l⟩⟩:DStV):=
   zl6 (s:=⟨s.vars,s.owner,⟨v1,l⟩⟩) o8 o11 (zdd r7) (by omega) (by omega) (by omega) (by omega) (by omega) (by omega)
 refine za7 zbf rfl hB27 rfl ost fun w13 hc13 hB13=>?_
 have hs13:=hc13.size
 refine zdc hB13 zbf ?_
 refine ⟨Ext.chgI (hx1.trans hx7) hc13 (by omega),_,(ost.chg hc13 (by omega)).mono (by omega) (by omega),?_⟩
 show (⟨s.vars,s.owner,l.map RV.l⟩:DState)=s
 rw [hl,hk,List.take_length]
theorem zp8 {P:Program} {w:World} {t e:TypeId} {b a n cap sz by_ k:Nat} {ag:Bool} {u:Value} {K:Value→Prop} (ht:P.underlying t=some (.slice e)) (he:tyI P e=some (sz,by_,ag)) (hu:u=.slice (some ⟨b,a,none⟩) n cap) (hk:k<n) (kk:K (.pointer (some ⟨b,a+k*sz,none⟩))) :
   RD P (Instr.indexAt t u (.int .i64 (k:Int))) w K:=by
 subst hu
 exact zbb (fun w' _=>by rw [zbz ht he (by omega) (by omega)];simp) kk
instance:Flat DRace:=⟨fun h=>by obtain ⟨F1,F2,c1,c2,rfl,rfl,⟨rfl,_⟩,⟨F3,F4,c3,c4,rfl,rfl,⟨rfl,_⟩,⟨rfl,_⟩⟩⟩:=h;rfl⟩
section
variable {α:Type} [DecidableEq α]
end
end Go.Proofs.YtbnjpfjjmhodnaaGreat
