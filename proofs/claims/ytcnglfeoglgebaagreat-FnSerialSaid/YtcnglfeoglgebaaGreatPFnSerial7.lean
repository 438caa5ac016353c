/-
  Parts of the proof, put together by program.
-/
import Derived.Test.YtcnglfeoglgebaaGreatPFnSerial6
set_option linter.unusedVariables false
set_option linter.unusedSimpArgs false
set_option linter.unusedSectionVars false
namespace Go.Proofs.YtcnglfeoglgebaaGreat
open Go Go.Sh Go.Proofs
open Rep (rep)
section
variable {bs:List UInt8} {n:Nat} {s:Cur}
theorem zdS (h:zeF bs n s<11):zbr bs n s=zfs bs (zeF bs n s) (zal bs 14 s):=by
 cases n with
 | zero=>rw [zbr]
 | succ n=>rw [zbr,if_pos h]
theorem zfv (h:¬zeF bs n s<11):0<n:=by
 cases n with
 | zero=>have:=zut bs s;omega
 | succ n=>omega
theorem zhC (h:¬zeF bs n s<11):zbr bs n s=zjY bs (zbr bs (n-1)) (zeF bs n s) (zal bs 14 s):=by
 have:=zfv h
 obtain ⟨m,rfl⟩:∃ m,n=m+1:=⟨n-1,by omega⟩
 rw [zbr,if_neg h];rfl
theorem zs0 {f:Cur→DStmt×Cur} {bs:List UInt8} {k:Nat} {s:Cur} (hk:k≤3) (h:(k:Int)<zbg bs 4 s) :
   zdf f bs (4-k) k s=((f (zal bs 4 s)).1 :: (zdf f bs (4-(k+1)) (k+1) (f (zal bs 4 s)).2).1,(zdf f bs (4-(k+1)) (k+1) (f (zal bs 4 s)).2).2):=by
 rw [show 4-k=(4-(k+1))+1 by omega,zdf,if_pos h]
theorem zpN {f:Cur→DStmt×Cur} {bs:List UInt8} {k:Nat} {s:Cur} (hk:k≤3) (h:¬(k:Int)<zbg bs 4 s):zdf f bs (4-k) k s=([],zal bs 4 s):=by
 rw [show 4-k=(4-(k+1))+1 by omega,zdf,if_neg h]
end
def zoS (n:Nat):Prop:=∀ {W w:World} {g:Nat} {bs:List UInt8} {s:Cur} {d:Int},CurAt W g bs s w→d=(n:Int) →
 CALL Tryz.prog 174 [.pointer (some ⟨g,0,none⟩),.int .i64 d] w fun r w'=>ChgI g (g+1) w w'∧CurAt W g bs (zbr bs n s).2 w'∧OwnI w.heap.size w'.heap.size w' r (zbr bs n s).1
def zrz (n:Nat):Prop:=∀ {W w:World} {g:Nat} {bs:List UInt8} {s:Cur} {d:Int},CurAt W g bs s w→d=(n:Int) →
 CALL Tryz.prog 91 [.pointer (some ⟨g,0,none⟩),.int .i64 d] w fun r w'=>ChgI g (g+1) w w'∧CurAt W g bs (zaZ bs n s).2 w'∧RowI w.heap.size w'.heap.size 56 w' r (zaZ bs n s).1
def F91 (a0 a1:Value) (w:World) (R:VW):Prop:=
 oP (Instr.buildSlice 29 0 #[]) w fun x7 w=>
 LOOPI [5,6] [x7,(iV 0)] w fun u3 w next3=>
 cL 51 [a0,(iV 4)] w fun x10 w=>
 rC (u3 6) x10 w fun x11=>
 BR x11
 (cL 174 [a0,a1] w fun x17 w=>
 oP (Instr.buildSlice 29 1 #[(0,x17)]) w fun x18 w=>
 oP (Builtin.append_ #[29,29] 29 [(u3 5),x18].toArray) w fun x19 w=>
 rA (u3 6) (iV 1) w fun x13=>
 next3 [x19,x13] w)
 (R (u3 5) w)
def cfg91:Cfg:=⟨extL,[],[(3,1048416,[5,6])],[],[],[],[]⟩
theorem F91_call {a0 a1:Value} {w:World} {R:VW} (h:F91 a0 a1 w R):cL 91 [a0,a1] w R:=co (g:=cfg91) Tryz.func91 (by kernel_rfl) (by kernel_rfl) (by kernel_rfl) h
theorem zhS {w:World} {W:World} {g:Nat} {bs:List UInt8} {s:Cur} {d:Int} {n:Nat} (hC:CurAt W g bs s w) (hd:d=(n:Int)) (ih:zoS n) :
   CALL Tryz.prog 91 [.pointer (some ⟨g,0,none⟩),.int .i64 d] w fun r w'=>ChgI g (g+1) w w'∧(CurAt W g bs (zaZ bs n s).2 w'∧RowI w.heap.size w'.heap.size 56 w' r (zaZ bs n s).1):=by
 refine F91_call ?_
 unfold F91
 have hgl:=hC.lt
 refine zbW (α:=DStmt) u29 zc2 fun v7 w1_ hx1_ o7=>?_
 have hs_hx1_:=hx1_.size
 refine zaB (4) (fun k us w'=>∃ (v:Value) (s1:Cur) (l1:List DStmt),us=[v,.int .i64 (k:Int)]∧ChgI g (g+1) w1_ w'∧(CurAt W g bs s1 w'∧RowI w1_.heap.size w'.heap.size 56 w' v l1∧zaZ bs n s=(l1++(zdf (zbr bs n) bs (4-k) k s1).1,(zdf (zbr bs n) bs (4-k) k s1).2)∧l1.length≤k∧k≤3)) (0) (by omega) ⟨_,s,[],rfl,(ChgI.refl w1_),⟨hC.ext hx1_,zd1 _ _ _ _ _,by unfold zaZ;simp,by simp,by omega⟩⟩ ?_
 rintro k m3 uu3 w2_ hk3 ⟨v5,s1,l1,hu,hx2_,hC1,hrow,hdr,hll,hkk⟩
 have hs_hx2_:=hx2_.size
 obtain ⟨hu0,hu1⟩:=ze4 hu
 try rw [hu0]
 try rw [hu1]
 try clear hu0 hu1
 have hb4:=zb8 bs (n:=4) (by omega) s1
 refine (zb3 hC1 (by omega)).mono ?_
 rintro _ w3_ ⟨hc3_,hC3_,rfl⟩
 have hs_hc3_:=hc3_.size
 have hs_hc3_:=hc3_.size
 have hrow_c3:=(hrow.ext (Ext.refl w2_)).chg hc3_ (by omega)
 refine zai ?_
 refine br (fun c1=>?_) (fun c1=>?_)
 · refine (ih hC3_ hd).mono ?_
   rintro r17 w4_ ⟨hc4_,hC4_,o17⟩
   have hs_hc4_:=hc4_.size
   have hs_hc4_:=hc4_.size
   have hrow_c4:=(hrow_c3.ext (Ext.refl w3_)).chg hc4_ (by omega)
   refine zcI (α:=DStmt) u29 zc2 z56 ztY (by decide) (hrow_c4.ext (Ext.refl w4_)) (by omega) (o17.ext (Ext.refl w4_)) (by omega) (by omega) (by rw [zam];omega) (by omega) fun v19 w5_ hc5_ o19=>?_
   have hs_hc5_:=hc5_.size
   have o17_c5:=(o17.ext (Ext.refl w4_)).chg hc5_ (by omega)
   refine zag (by omega) ?_
   refine ⟨m3-1,by omega,k+1,by omega,_,(zbr bs n (zal bs 4 s1)).2,l1++[(zbr bs n (zal bs 4 s1)).1],rfl,(ChgI.out (ChgI.trans (ChgI.trans hx2_ hc3_) hc4_) hc5_ (by omega)),?_⟩
   rw [zs0 hkk (by omega)] at hdr
   exact ⟨(CurAt.chg hC4_ hc5_ (by omega) (by omega)),o19,by rw [hdr];simp,by simp;omega,by omega⟩
 refine ⟨(ChgI.trans (ChgI.trans (Ext.toI hx1_) hx2_) hc3_),?_⟩
 rw [zpN hkk (by omega)] at hdr
 rw [hdr]
 simp only [List.append_nil]
 exact ⟨hC3_,(hrow.chg hc3_ (by omega)).mono (by omega) (by omega)⟩
def F174 (a0 a1:Value) (w:World) (R:VW):Prop:=
 oP (Instr.alloc 56 true (.tuple #[])) w fun x4 w=>
 cL 51 [a0,(iV 14)] w fun x8 w=>
 JOIN [5] (fun J4=>
 rB .leq 3 T0 U0 a1 (iV 0) w fun x10=>
 BR x10
 (rB .geq 3 T0 U0 x8 (iV 11) w fun x13=>
 BR x13
 (rB .sub 3 T0 U0 x8 (iV 6) w fun x16=>
 J4 [x16] w)
 (J4 [x8] w))
 (J4 [x8] w)) (fun u4 w=>
 rB .lss 3 T0 U0 (u4 5) (iV 4) w fun x19=>
 BR x19
 (oP (Instr.buildSlice 24 3 #[(0,(Value.string (ByteArray.mk #[120]))),(1,(Value.string (ByteArray.mk #[121]))),(2,(Value.string (ByteArray.mk #[122])))]) w fun x21 w=>
 cL 129 [a0,x21] w fun x22 w=>
 cL 60 [a0,(iV 2)] w fun x24 w=>
 rD (Instr.build 56 #[(0,(iV 1)),(1,x22),(2,x24)]) w fun x25=>
 oS 56 x4 x25 w fun w=>
 rD (zax 56 x4) w fun r4=>R r4 w)
 (rB .lss 3 T0 U0 (u4 5) (iV 6) w fun x28=>
 BR x28
 (oP (Instr.buildSlice 24 3 #[(0,(Value.string (ByteArray.mk #[97]))),(1,(Value.string (ByteArray.mk #[98]))),(2,(Value.string (ByteArray.mk #[109])))]) w fun x30 w=>
 cL 129 [a0,x30] w fun x31 w=>
 rD (Instr.build 56 #[(0,(iV 6)),(1,x31)]) w fun x32=>
 oS 56 x4 x32 w fun w=>
 rD (zax 56 x4) w fun r4=>R r4 w)
 (rB .lss 3 T0 U0 (u4 5) (iV 8) w fun x35=>
 BR x35
 (oP (Instr.buildSlice 24 3 #[(0,(Value.string (ByteArray.mk #[97]))),(1,(Value.string (ByteArray.mk #[98]))),(2,(Value.string (ByteArray.mk #[109])))]) w fun x37 w=>
 cL 129 [a0,x37] w fun x38 w=>
 rD (Instr.build 56 #[(0,(iV 7)),(1,x38)]) w fun x39=>
 oS 56 x4 x39 w fun w=>
 rD (zax 56 x4) w fun r4=>R r4 w)
 (rB .eql 3 T0 U0 (u4 5) (iV 8) w fun x42=>
 BR x42
 (oP (Instr.buildSlice 24 3 #[(0,(Value.string (ByteArray.mk #[112]))),(1,(Value.string (ByteArray.mk #[113]))),(2,(Value.string (ByteArray.mk #[114])))]) w fun x44 w=>
 cL 129 [a0,x44] w fun x45 w=>
 rD (Instr.build 56 #[(0,(iV 4)),(1,x45)]) w fun x46=>
 oS 56 x4 x46 w fun w=>
 rD (zax 56 x4) w fun r4=>R r4 w)
 (rB .eql 3 T0 U0 (u4 5) (iV 9) w fun x49=>
 BR x49
 (oP (Instr.buildSlice 24 3 #[(0,(Value.string (ByteArray.mk #[112]))),(1,(Value.string (ByteArray.mk #[113]))),(2,(Value.string (ByteArray.mk #[114])))]) w fun x51 w=>
 cL 129 [a0,x51] w fun x52 w=>
 rD (Instr.build 56 #[(0,(iV 5)),(1,x52)]) w fun x53=>
 oS 56 x4 x53 w fun w=>
 rD (zax 56 x4) w fun r4=>R r4 w)
 (rB .eql 3 T0 U0 (u4 5) (iV 10) w fun x56=>
 BR x56
 (rD (Instr.build 56 #[(0,(iV 8))]) w fun x57=>
 oS 56 x4 x57 w fun w=>
 rD (zax 56 x4) w fun r4=>R r4 w)
 (rB .eql 3 T0 U0 (u4 5) (iV 11) w fun x60=>
 BR x60
 (cL 60 [a0,(iV 1)] w fun x62 w=>
 rB .sub 3 T0 U0 a1 (iV 1) w fun x65=>
 cL 91 [a0,x65] w fun x66 w=>
 rD (Instr.build 56 #[(0,(iV 3)),(2,x62),(3,x66)]) w fun x67=>
 oS 56 x4 x67 w fun w=>
 rD (zax 56 x4) w fun r4=>R r4 w)
 (cL 60 [a0,(iV 1)] w fun x69 w=>
 rB .sub 3 T0 U0 a1 (iV 1) w fun x72=>
 cL 91 [a0,x72] w fun x73 w=>
 rD (Instr.build 56 #[(0,(iV 2)),(2,x69),(3,x73)]) w fun x74=>
 oP (Instr.alloc 56 true (.tuple #[])) w fun x6 w=>
 oS 56 x6 x74 w fun w=>
 cL 93 [a0,(iV 2)] w fun x76 w=>
 BR x76
 (rB .sub 3 T0 U0 a1 (iV 1) w fun x79=>
 cL 91 [a0,x79] w fun x80 w=>
 rF 56 x6 4 w fun x81=>
 oS 29 x81 x80 w fun w=>
 rL 56 x6 w fun x82=>
 oS 56 x4 x82 w fun w=>
 rD (zax 56 x4) w fun r4=>R r4 w)
 (rL 56 x6 w fun x82=>
 oS 56 x4 x82 w fun w=>
 rD (zax 56 x4) w fun r4=>R r4 w)))))))))
def cfg174:Cfg:=⟨extL,[(4,130592,[5])],[],[],[],[],[]⟩
theorem F174_call {a0 a1:Value} {w:World} {R:VW} (h:F174 a0 a1 w R):cL 174 [a0,a1] w R:=co (g:=cfg174) Tryz.func174 (by kernel_rfl) (by kernel_rfl) (by kernel_rfl) h
theorem zhT {w:World} {W:World} {g:Nat} {bs:List UInt8} {s:Cur} {d:Int} {n:Nat} (hC:CurAt W g bs s w) (hd:d=(n:Int)) (ih:∀ m,m+1=n→zrz m) (hn:n≤10) :
   CALL Tryz.prog 174 [.pointer (some ⟨g,0,none⟩),.int .i64 d] w fun r w'=>ChgI g (g+1) w w'∧(CurAt W g bs (zbr bs n s).2 w'∧OwnI w.heap.size w'.heap.size w' r (zbr bs n s).1):=by
 refine F174_call ?_
 unfold F174
 have hgl:=hC.lt
 have hb14:=zb8 bs (n:=14) (by omega) s
 refine zcB (α:=DStmt) zuV fun w1_ hx1_ hv4=>?_
 have hg4:=hv4.lt
 have hs_hx1_:=hx1_.size
 refine (zb3 (CurAt.ext hC hx1_) (by omega)).mono ?_
 rintro _ w2_ ⟨hc2_,hC2_,rfl⟩
 have hs_hc2_:=hc2_.size
 have hs_hc2_:=hc2_.size
 have hv4_c2:=(hv4.ext (Ext.refl w1_)).chg hc2_ (by omega) (by omega)
 refine JOIN.mk (fun us w'=>us=[.int .i64 (zeF bs n s)]∧Ext w2_ w'∧(True)) ?_ ?_
 · refine zdD ?_
   refine br (fun c1=>?_) (fun c1=>?_)
   · refine zb5 ?_
     refine br (fun c2=>?_) (fun c2=>?_)
     · refine za3 (by unfold I64;omega) ?_
       refine ⟨by unfold zeF;rw [if_pos (by omega)],Ext.refl w2_,?_⟩
       trivial
     refine ⟨by unfold zeF;rw [if_neg (by omega)],Ext.refl w2_,?_⟩
     trivial
   refine ⟨by unfold zeF;rw [if_neg (by omega)],Ext.refl w2_,?_⟩
   trivial
 rintro uj4 w3_ ⟨hu,hx3_,_⟩
 have hs_hx3_:=hx3_.size
 simp only [List.map_cons,List.map_nil,List.cons.injEq,and_true] at hu
 try rw [hu]
 try clear hu
 refine zai ?_
 refine br (fun c3=>?_) (fun c3=>?_)
 · refine zfu (vs:=([ByteArray.mk #[120],ByteArray.mk #[121],ByteArray.mk #[122]]:List ByteArray).map Value.string) u24 ty9 zb2 (by decide) (by kernel_rfl) rfl (fun w=>zcb (by decide)) fun v21 w4_ hx4_ o21=>?_
   have hs_hx4_:=hx4_.size
   refine (zcO (CurAt.ext (CurAt.ext hC2_ hx3_) hx4_) (o21.ext (Ext.refl w4_)) (by omega) (by omega) (by omega) (by decide) (by decide)).mono ?_
   rintro _ w5_ ⟨hc5_,hC5_,rfl,hS22⟩
   have hs_hc5_:=hc5_.size
   have hs_hc5_:=hc5_.size
   have hv4_c5:=(hv4_c2.ext (hx3_.trans hx4_)).chg hc5_ (by omega) (by omega)
   have o21_c5:=(o21.ext (Ext.refl w4_)).chg hc5_ (by omega)
   refine ((zfW 2 (by omega)) hC5_ rfl).mono ?_
   rintro r24 w6_ ⟨hc6_,hC6_,o24⟩
   have hs_hc6_:=hc6_.size
   have hs_hc6_:=hc6_.size
   have hv4_c6:=(hv4_c5.ext (Ext.refl w5_)).chg hc6_ (by omega) (by omega)
   have o21_c6:=(o21_c5.ext (Ext.refl w5_)).chg hc6_ (by omega)
   refine zmd (lo:=w5_.heap.size) (hi:=w6_.heap.size) (by omega) (by first | assumption | (unfold I64;omega)) (by first | assumption | decide) (o24.ext (Ext.refl w6_)) fun v25 o25=>?_
   refine zaF zc2 (hv4_c6.ext (Ext.refl w6_)) (o25.ext (Ext.refl w6_)) (by omega) fun w7_ hc7_ hv4_s7=>?_
   have hs_hc7_:=hc7_.size
   have o21_c7:=(o21_c6.ext (Ext.refl w6_)).chg hc7_ (by omega)
   have o24_c7:=(o24.ext (Ext.refl w6_)).chg hc7_ (by omega)
   have o25_c7:=(o25.ext (Ext.refl w6_)).chg hc7_ (by omega)
   refine zbh zc2 hv4_s7 (Ext.refl w7_) fun r4 hr4=>?_
   replace hr4:=hr4.ext (Ext.refl w7_)
   refine ⟨(ChgI.out (ChgI.trans (ChgI.trans (ChgI.trans (ChgI.trans (ChgI.trans (Ext.toI hx1_) hc2_) (Ext.toI hx3_)) (Ext.toI hx4_)) hc5_) hc6_) hc7_ (by omega)),?_⟩
   rw [zdS (by omega),zfs,if_pos (by omega)]
   exact ⟨(CurAt.chg hC6_ hc7_ (by omega) (by omega)),hr4.mono (by omega) (by omega)⟩
 refine zai ?_
 refine br (fun c4=>?_) (fun c4=>?_)
 · refine zfu (vs:=([ByteArray.mk #[97],ByteArray.mk #[98],ByteArray.mk #[109]]:List ByteArray).map Value.string) u24 ty9 zb2 (by decide) (by kernel_rfl) rfl (fun w=>zcb (by decide)) fun v30 w8_ hx8_ o30=>?_
   have hs_hx8_:=hx8_.size
   refine (zcO (CurAt.ext (CurAt.ext hC2_ hx3_) hx8_) (o30.ext (Ext.refl w8_)) (by omega) (by omega) (by omega) (by decide) (by decide)).mono ?_
   rintro _ w9_ ⟨hc9_,hC9_,rfl,hS31⟩
   have hs_hc9_:=hc9_.size
   have hs_hc9_:=hc9_.size
   have hv4_c9:=(hv4_c2.ext (hx3_.trans hx8_)).chg hc9_ (by omega) (by omega)
   have o30_c9:=(o30.ext (Ext.refl w8_)).chg hc9_ (by omega)
   refine zcu (lo:=w9_.heap.size) (hi:=w9_.heap.size) (by omega) (by first | assumption | (unfold I64;omega)) (by first | assumption | decide) fun v32 o32=>?_
   refine zaF zc2 (hv4_c9.ext (Ext.refl w9_)) (o32.ext (Ext.refl w9_)) (by omega) fun w10_ hc10_ hv4_s10=>?_
   have hs_hc10_:=hc10_.size
   have o30_c10:=(o30_c9.ext (Ext.refl w9_)).chg hc10_ (by omega)
   have o32_c10:=(o32.ext (Ext.refl w9_)).chg hc10_ (by omega)
   refine zbh zc2 hv4_s10 (Ext.refl w10_) fun r4 hr4=>?_
   replace hr4:=hr4.ext (Ext.refl w10_)
   refine ⟨(ChgI.out (ChgI.trans (ChgI.trans (ChgI.trans (ChgI.trans (Ext.toI hx1_) hc2_) (Ext.toI hx3_)) (Ext.toI hx8_)) hc9_) hc10_ (by omega)),?_⟩
   rw [zdS (by omega),zfs,if_neg (by omega),if_pos (by omega)]
   exact ⟨(CurAt.chg hC9_ hc10_ (by omega) (by omega)),hr4.mono (by omega) (by omega)⟩
 refine zai ?_
 refine br (fun c5=>?_) (fun c5=>?_)
 · refine zfu (vs:=([ByteArray.mk #[97],ByteArray.mk #[98],ByteArray.mk #[109]]:List ByteArray).map Value.string) u24 ty9 zb2 (by decide) (by kernel_rfl) rfl (fun w=>zcb (by decide)) fun v37 w11_ hx11_ o37=>?_
   have hs_hx11_:=hx11_.size
   refine (zcO (CurAt.ext (CurAt.ext hC2_ hx3_) hx11_) (o37.ext (Ext.refl w11_)) (by omega) (by omega) (by omega) (by decide) (by decide)).mono ?_
   rintro _ w12_ ⟨hc12_,hC12_,rfl,hS38⟩
   have hs_hc12_:=hc12_.size
   have hs_hc12_:=hc12_.size
   have hv4_c12:=(hv4_c2.ext (hx3_.trans hx11_)).chg hc12_ (by omega) (by omega)
   have o37_c12:=(o37.ext (Ext.refl w11_)).chg hc12_ (by omega)
   refine zcu (lo:=w12_.heap.size) (hi:=w12_.heap.size) (by omega) (by first | assumption | (unfold I64;omega)) (by first | assumption | decide) fun v39 o39=>?_
   refine zaF zc2 (hv4_c12.ext (Ext.refl w12_)) (o39.ext (Ext.refl w12_)) (by omega) fun w13_ hc13_ hv4_s13=>?_
   have hs_hc13_:=hc13_.size
   have o37_c13:=(o37_c12.ext (Ext.refl w12_)).chg hc13_ (by omega)
   have o39_c13:=(o39.ext (Ext.refl w12_)).chg hc13_ (by omega)
   refine zbh zc2 hv4_s13 (Ext.refl w13_) fun r4 hr4=>?_
   replace hr4:=hr4.ext (Ext.refl w13_)
   refine ⟨(ChgI.out (ChgI.trans (ChgI.trans (ChgI.trans (ChgI.trans (Ext.toI hx1_) hc2_) (Ext.toI hx3_)) (Ext.toI hx11_)) hc12_) hc13_ (by omega)),?_⟩
   rw [zdS (by omega),zfs,if_neg (by omega),if_neg (by omega),if_pos (by omega)]
   exact ⟨(CurAt.chg hC12_ hc13_ (by omega) (by omega)),hr4.mono (by omega) (by omega)⟩
 refine zaf ?_
 refine br (fun c6=>?_) (fun c6=>?_)
 · refine zfu (vs:=([ByteArray.mk #[112],ByteArray.mk #[113],ByteArray.mk #[114]]:List ByteArray).map Value.string) u24 ty9 zb2 (by decide) (by kernel_rfl) rfl (fun w=>zcb (by decide)) fun v44 w14_ hx14_ o44=>?_
   have hs_hx14_:=hx14_.size
   refine (zcO (CurAt.ext (CurAt.ext hC2_ hx3_) hx14_) (o44.ext (Ext.refl w14_)) (by omega) (by omega) (by omega) (by decide) (by decide)).mono ?_
   rintro _ w15_ ⟨hc15_,hC15_,rfl,hS45⟩
   have hs_hc15_:=hc15_.size
   have hs_hc15_:=hc15_.size
   have hv4_c15:=(hv4_c2.ext (hx3_.trans hx14_)).chg hc15_ (by omega) (by omega)
   have o44_c15:=(o44.ext (Ext.refl w14_)).chg hc15_ (by omega)
   refine zcu (lo:=w15_.heap.size) (hi:=w15_.heap.size) (by omega) (by first | assumption | (unfold I64;omega)) (by first | assumption | decide) fun v46 o46=>?_
   refine zaF zc2 (hv4_c15.ext (Ext.refl w15_)) (o46.ext (Ext.refl w15_)) (by omega) fun w16_ hc16_ hv4_s16=>?_
   have hs_hc16_:=hc16_.size
   have o44_c16:=(o44_c15.ext (Ext.refl w15_)).chg hc16_ (by omega)
   have o46_c16:=(o46.ext (Ext.refl w15_)).chg hc16_ (by omega)
   refine zbh zc2 hv4_s16 (Ext.refl w16_) fun r4 hr4=>?_
   replace hr4:=hr4.ext (Ext.refl w16_)
   refine ⟨(ChgI.out (ChgI.trans (ChgI.trans (ChgI.trans (ChgI.trans (Ext.toI hx1_) hc2_) (Ext.toI hx3_)) (Ext.toI hx14_)) hc15_) hc16_ (by omega)),?_⟩
   rw [zdS (by omega),zfs,if_neg (by omega),if_neg (by omega),if_neg (by omega),if_pos (by omega)]
   exact ⟨(CurAt.chg hC15_ hc16_ (by omega) (by omega)),hr4.mono (by omega) (by omega)⟩
 refine zaf ?_
 refine br (fun c7=>?_) (fun c7=>?_)
 · refine zfu (vs:=([ByteArray.mk #[112],ByteArray.mk #[113],ByteArray.mk #[114]]:List ByteArray).map Value.string) u24 ty9 zb2 (by decide) (by kernel_rfl) rfl (fun w=>zcb (by decide)) fun v51 w17_ hx17_ o51=>?_
   have hs_hx17_:=hx17_.size
   refine (zcO (CurAt.ext (CurAt.ext hC2_ hx3_) hx17_) (o51.ext (Ext.refl w17_)) (by omega) (by omega) (by omega) (by decide) (by decide)).mono ?_
   rintro _ w18_ ⟨hc18_,hC18_,rfl,hS52⟩
   have hs_hc18_:=hc18_.size
   have hs_hc18_:=hc18_.size
   have hv4_c18:=(hv4_c2.ext (hx3_.trans hx17_)).chg hc18_ (by omega) (by omega)
   have o51_c18:=(o51.ext (Ext.refl w17_)).chg hc18_ (by omega)
   refine zcu (lo:=w18_.heap.size) (hi:=w18_.heap.size) (by omega) (by first | assumption | (unfold I64;omega)) (by first | assumption | decide) fun v53 o53=>?_
   refine zaF zc2 (hv4_c18.ext (Ext.refl w18_)) (o53.ext (Ext.refl w18_)) (by omega) fun w19_ hc19_ hv4_s19=>?_
   have hs_hc19_:=hc19_.size
   have o51_c19:=(o51_c18.ext (Ext.refl w18_)).chg hc19_ (by omega)
   have o53_c19:=(o53.ext (Ext.refl w18_)).chg hc19_ (by omega)
   refine zbh zc2 hv4_s19 (Ext.refl w19_) fun r4 hr4=>?_
   replace hr4:=hr4.ext (Ext.refl w19_)
   refine ⟨(ChgI.out (ChgI.trans (ChgI.trans (ChgI.trans (ChgI.trans (Ext.toI hx1_) hc2_) (Ext.toI hx3_)) (Ext.toI hx17_)) hc18_) hc19_ (by omega)),?_⟩
   rw [zdS (by omega),zfs,if_neg (by omega),if_neg (by omega),if_neg (by omega),if_neg (by omega),if_pos (by omega)]
   exact ⟨(CurAt.chg hC18_ hc19_ (by omega) (by omega)),hr4.mono (by omega) (by omega)⟩
 refine zaf ?_
 refine br (fun c8=>?_) (fun c8=>?_)
 · refine zhB (lo:=w3_.heap.size) (hi:=w3_.heap.size) (by omega) (by first | assumption | (unfold I64;omega)) fun v57 o57=>?_
   refine zaF zc2 (hv4_c2.ext hx3_) (o57.ext (Ext.refl w3_)) (by omega) fun w20_ hc20_ hv4_s20=>?_
   have hs_hc20_:=hc20_.size
   have o57_c20:=(o57.ext (Ext.refl w3_)).chg hc20_ (by omega)
   refine zbh zc2 hv4_s20 (Ext.refl w20_) fun r4 hr4=>?_
   replace hr4:=hr4.ext (Ext.refl w20_)
   refine ⟨(ChgI.out (ChgI.trans (ChgI.trans (Ext.toI hx1_) hc2_) (Ext.toI hx3_)) hc20_ (by omega)),?_⟩
   rw [zdS (by omega),zfs,if_neg (by omega),if_neg (by omega),if_neg (by omega),if_neg (by omega),if_neg (by omega)]
   exact ⟨(CurAt.chg (CurAt.ext hC2_ hx3_) hc20_ (by omega) (by omega)),hr4.mono (by omega) (by omega)⟩
 refine zaf ?_
 refine br (fun c9=>?_) (fun c9=>?_)
 · have hK:¬zeF bs n s<11:=by unfold zeF at *;split at*<;> omega
   have hnp:=zfv hK
   refine ((zfW 1 (by omega)) (CurAt.ext hC2_ hx3_) rfl).mono ?_
   rintro r62 w21_ ⟨hc21_,hC21_,o62⟩
   have hs_hc21_:=hc21_.size
   have hs_hc21_:=hc21_.size
   have hv4_c21:=(hv4_c2.ext hx3_).chg hc21_ (by omega) (by omega)
   refine za3 (by unfold I64;omega) ?_
   refine (ih (n-1) (by omega) hC21_ (by omega)).mono ?_
   rintro r66 w22_ ⟨hc22_,hC22_,o66⟩
   have hs_hc22_:=hc22_.size
   have hs_hc22_:=hc22_.size
   have hv4_c22:=(hv4_c21.ext (Ext.refl w21_)).chg hc22_ (by omega) (by omega)
   have o62_c22:=(o62.ext (Ext.refl w21_)).chg hc22_ (by omega)
   refine zhR (lo:=w3_.heap.size) (hi:=w22_.heap.size) (by first | assumption | (unfold I64;omega)) (o62_c22.ext (Ext.refl w22_)) (o66.own.ext (Ext.refl w22_)) (by omega) (by omega) (by omega) (by omega) fun v67 o67=>?_
   refine zaF zc2 (hv4_c22.ext (Ext.refl w22_)) (o67.ext (Ext.refl w22_)) (by omega) fun w23_ hc23_ hv4_s23=>?_
   have hs_hc23_:=hc23_.size
   have o62_c23:=(o62_c22.ext (Ext.refl w22_)).chg hc23_ (by omega)
   have o66_c23:=(o66.ext (Ext.refl w22_)).chg hc23_ (by omega)
   have o67_c23:=(o67.ext (Ext.refl w22_)).chg hc23_ (by omega)
   refine zbh zc2 hv4_s23 (Ext.refl w23_) fun r4 hr4=>?_
   replace hr4:=hr4.ext (Ext.refl w23_)
   refine ⟨(ChgI.out (ChgI.trans (ChgI.trans (ChgI.trans (ChgI.trans (Ext.toI hx1_) hc2_) (Ext.toI hx3_)) hc21_) hc22_) hc23_ (by omega)),?_⟩
   rw [zhC hK,zjY,if_pos (by omega)]
   exact ⟨(CurAt.chg hC22_ hc23_ (by omega) (by omega)),hr4.mono (by omega) (by omega)⟩
 have hK:¬zeF bs n s<11:=by unfold zeF at *;split at*<;> omega
 have hnp:=zfv hK
 refine ((zfW 1 (by omega)) (CurAt.ext hC2_ hx3_) rfl).mono ?_
 rintro r69 w24_ ⟨hc24_,hC24_,o69⟩
 have hs_hc24_:=hc24_.size
 have hs_hc24_:=hc24_.size
 have hv4_c24:=(hv4_c2.ext hx3_).chg hc24_ (by omega) (by omega)
 refine za3 (by unfold I64;omega) ?_
 refine (ih (n-1) (by omega) hC24_ (by omega)).mono ?_
 rintro r73 w25_ ⟨hc25_,hC25_,o73⟩
 have hs_hc25_:=hc25_.size
 have hs_hc25_:=hc25_.size
 have hv4_c25:=(hv4_c24.ext (Ext.refl w24_)).chg hc25_ (by omega) (by omega)
 have o69_c25:=(o69.ext (Ext.refl w24_)).chg hc25_ (by omega)
 refine zhR (lo:=w3_.heap.size) (hi:=w25_.heap.size) (by first | assumption | (unfold I64;omega)) (o69_c25.ext (Ext.refl w25_)) (o73.own.ext (Ext.refl w25_)) (by omega) (by omega) (by omega) (by omega) fun v74 o74=>?_
 refine zcB (α:=DStmt) zuV fun w26_ hx26_ hv6=>?_
 have hg6:=hv6.lt
 have hs_hx26_:=hx26_.size
 refine zaF zc2 (hv6.ext (Ext.refl w26_)) (o74.ext hx26_) (by omega) fun w27_ hc27_ hv6_s27=>?_
 have hs_hc27_:=hc27_.size
 have hv4_c27:=(hv4_c25.ext hx26_).chg hc27_ (by omega) (by omega)
 have o69_c27:=(o69_c25.ext hx26_).chg hc27_ (by omega)
 have o73_c27:=(o73.ext hx26_).chg hc27_ (by omega)
 have o74_c27:=(o74.ext hx26_).chg hc27_ (by omega)
 refine (zfV (CurAt.chg (CurAt.ext hC25_ hx26_) hc27_ (by omega) (by omega)) (by omega)).mono ?_
 rintro _ w28_ ⟨hc28_,hC28_,rfl⟩
 have hs_hc28_:=hc28_.size
 have hs_hc28_:=hc28_.size
 have hv4_c28:=(hv4_c27.ext (Ext.refl w27_)).chg hc28_ (by omega) (by omega)
 have o69_c28:=(o69_c27.ext (Ext.refl w27_)).chg hc28_ (by omega)
 have o73_c28:=(o73_c27.ext (Ext.refl w27_)).chg hc28_ (by omega)
 have o74_c28:=(o74_c27.ext (Ext.refl w27_)).chg hc28_ (by omega)
 have hv6_s27_c28:=(hv6_s27.ext (Ext.refl w27_)).chg hc28_ (by omega) (by omega)
 refine br (fun c10=>?_) (fun c10=>?_)
 · refine za3 (by unfold I64;omega) ?_
   refine (ih (n-1) (by omega) hC28_ (by omega)).mono ?_
   rintro r80 w29_ ⟨hc29_,hC29_,o80⟩
   have hs_hc29_:=hc29_.size
   have hs_hc29_:=hc29_.size
   have hv4_c29:=(hv4_c28.ext (Ext.refl w28_)).chg hc29_ (by omega) (by omega)
   have o69_c29:=(o69_c28.ext (Ext.refl w28_)).chg hc29_ (by omega)
   have o73_c29:=(o73_c28.ext (Ext.refl w28_)).chg hc29_ (by omega)
   have o74_c29:=(o74_c28.ext (Ext.refl w28_)).chg hc29_ (by omega)
   have hv6_s27_c29:=(hv6_s27_c28.ext (Ext.refl w28_)).chg hc29_ (by omega) (by omega)
   refine zaa zdF ?_
   obtain ⟨Fv30,hO30,hF30⟩:=(hv6_s27_c29.ext (Ext.refl w29_))
   obtain ⟨Gv30,hL30⟩:=zfq (Lens.var hO30)
   refine zse zfc hL30 hF30 (o80.own.ext (Ext.refl w29_)) (by omega) (by omega) fun w30_ hc30_ hv30_=>?_
   have hv6_s30:=hv30_ (w3_.heap.size) (by omega) (by omega) (w29_.heap.size) (by omega) (by omega)
   clear hv30_ hL30 hO30 hF30
   have hs_hc30_:=hc30_.size
   have hv4_c30:=(hv4_c29.ext (Ext.refl w29_)).chg hc30_ (by omega) (by omega)
   have o69_c30:=(o69_c29.ext (Ext.refl w29_)).chg hc30_ (by omega)
   have o73_c30:=(o73_c29.ext (Ext.refl w29_)).chg hc30_ (by omega)
   have o74_c30:=(o74_c29.ext (Ext.refl w29_)).chg hc30_ (by omega)
   have o80_c30:=(o80.ext (Ext.refl w29_)).chg hc30_ (by omega)
   refine zce zc2 hv6_s30 (Ext.refl w30_) fun v82 o82=>?_
   refine zaF zc2 (hv4_c30.ext (Ext.refl w30_)) (o82.ext (Ext.refl w30_)) (by omega) fun w31_ hc31_ hv4_s31=>?_
   have hs_hc31_:=hc31_.size
   have o69_c31:=(o69_c30.ext (Ext.refl w30_)).chg hc31_ (by omega)
   have o73_c31:=(o73_c30.ext (Ext.refl w30_)).chg hc31_ (by omega)
   have o74_c31:=(o74_c30.ext (Ext.refl w30_)).chg hc31_ (by omega)
   have hv6_s30_c31:=(hv6_s30.ext (Ext.refl w30_)).chg hc31_ (by omega) (by omega)
   have o80_c31:=(o80_c30.ext (Ext.refl w30_)).chg hc31_ (by omega)
   have o82_c31:=(o82.ext (Ext.refl w30_)).chg hc31_ (by omega)
   refine zbh zc2 hv4_s31 (Ext.refl w31_) fun r4 hr4=>?_
   replace hr4:=hr4.ext (Ext.refl w31_)
   refine ⟨(ChgI.out (ChgI.out (ChgI.trans (ChgI.trans (ChgI.out (ChgI.trans (ChgI.trans (ChgI.trans (ChgI.trans (ChgI.trans (Ext.toI hx1_) hc2_) (Ext.toI hx3_)) hc24_) hc25_) (Ext.toI hx26_)) hc27_ (by omega)) hc28_) hc29_) hc30_ (by omega)) hc31_ (by omega)),?_⟩
   rw [zhC hK,zjY,if_neg (by omega),if_pos (by first | assumption | (unfold zaZ at *;assumption))]
   exact ⟨(CurAt.chg (CurAt.chg hC29_ hc30_ (by omega) (by omega)) hc31_ (by omega) (by omega)),hr4.mono (by omega) (by omega)⟩
 refine zce zc2 hv6_s27_c28 (Ext.refl w28_) fun v82 o82=>?_
 refine zaF zc2 (hv4_c28.ext (Ext.refl w28_)) (o82.ext (Ext.refl w28_)) (by omega) fun w32_ hc32_ hv4_s32=>?_
 have hs_hc32_:=hc32_.size
 have o69_c32:=(o69_c28.ext (Ext.refl w28_)).chg hc32_ (by omega)
 have o73_c32:=(o73_c28.ext (Ext.refl w28_)).chg hc32_ (by omega)
 have o74_c32:=(o74_c28.ext (Ext.refl w28_)).chg hc32_ (by omega)
 have hv6_s27_c32:=(hv6_s27_c28.ext (Ext.refl w28_)).chg hc32_ (by omega) (by omega)
 have o82_c32:=(o82.ext (Ext.refl w28_)).chg hc32_ (by omega)
 refine zbh zc2 hv4_s32 (Ext.refl w32_) fun r4 hr4=>?_
 replace hr4:=hr4.ext (Ext.refl w32_)
 refine ⟨(ChgI.out (ChgI.trans (ChgI.out (ChgI.trans (ChgI.trans (ChgI.trans (ChgI.trans (ChgI.trans (Ext.toI hx1_) hc2_) (Ext.toI hx3_)) hc24_) hc25_) (Ext.toI hx26_)) hc27_ (by omega)) hc28_) hc32_ (by omega)),?_⟩
 rw [zhC hK,zjY,if_neg (by omega),if_neg (by first | assumption | (unfold zaZ at *;assumption))]
 exact ⟨(CurAt.chg hC28_ hc32_ (by omega) (by omega)),hr4.mono (by omega) (by omega)⟩
theorem znI:∀ (n:Nat),n≤10→zoS n∧zrz n
 | 0,hn=>by
   have h1:zoS 0:=fun {_ _ _ _ _ _} h hd=>zhT h hd (fun m hm=>absurd hm (by omega)) hn
   exact ⟨h1,fun {_ _ _ _ _ _} h hd=>zhS h hd h1⟩
 | n+1,hn=>by
   have ih:=znI n (by omega)
   have hm:∀ m,m+1=n+1→zrz m:=fun m hm=>by
     obtain rfl:m=n:=by omega
     exact ih.2
   have h1:zoS (n+1):=fun {_ _ _ _ _ _} h hd=>zhT h hd hm hn
   exact ⟨h1,fun {_ _ _ _ _ _} h hd=>zhS h hd h1⟩
end Go.Proofs.YtcnglfeoglgebaaGreat
namespace Go.Sh
open Rep (rep)
theorem ChgI.toC {g:Nat} {w w':World} (h:ChgI g (g+1) w w'):Chg [g] w w':=⟨h.os,h.tape,h.output,h.size,fun i hi hn=>h.block i hi (by simp only [List.mem_singleton] at hn;omega)⟩
theorem Ext.chgL {F:List Nat} {W w w':World} (h:Ext W w) (k:Chg F w w') (hl:∀ c∈F,W.heap.size≤c):Ext W w':=
 ⟨k.os.trans h.os,k.tape.trans h.tape,k.output.trans h.output,Nat.le_trans h.size k.size,fun i hi=>(k.block i (Nat.lt_of_lt_of_le hi h.size) fun e=>by have:=hl i e;omega).trans (h.block i hi)⟩
theorem Mine.chgF {α:Type} [Rep α] {F G:List Nat} {w w':World} {v:Value} {x:α} (h:Mine F w v x) (hc:Chg G w w') (hd:∀ c∈F,c∉G):Mine F w' v x:=h.keep fun c hcm=>hc.block c (h.lt c hcm) (hd c hcm)
def IsK {α:Type} [Rep α] (lo hi:Nat) (w:World) (v:Value) (x:α):Prop:=hi≤w.heap.size∧∀ w':World,(∀ b,lo≤b→b<hi→w'.heap[b]?=w.heap[b]?)→Is w' v x
section
variable {α:Type} [Rep α] {lo hi:Nat} {w w':World} {v:Value} {x:α}
theorem IsK.is (h:IsK lo hi w v x):Is w v x:=h.2 w fun _ _ _=>rfl
theorem IsK.chgF {G:List Nat} (h:IsK lo hi w v x) (hc:Chg G w w') (hd:∀ c∈G,c<lo∨hi≤c):IsK lo hi w' v x:=
 ⟨Nat.le_trans h.1 hc.size,fun w2 h2=>h.2 w2 fun b h3 h4=>(h2 b h3 h4).trans (hc.block b (Nat.lt_of_lt_of_le h4 h.1) fun hm=>by have:=hd b hm;omega)⟩
theorem IsK.ext (h:IsK lo hi w v x) (hx:Ext w w'):IsK lo hi w' v x:=h.chgF (hx.chg []) (by simp)
theorem OwnI.isK (h:OwnI lo hi w v x) (hh:hi≤w.heap.size):IsK lo hi w v x:=by
 obtain ⟨F,hm,hF⟩:=h
 exact ⟨hh,fun w' hw=>⟨F,by
   obtain ⟨cs,hr,hv⟩:=hm.own
   exact ⟨cs,Rep.keep hr fun b hb=>hw b (hF b hb).1 (hF b hb).2,hv⟩⟩⟩
theorem IsK.take {l:List α} {a:Option Addr} {cap k:Nat} (h:IsK lo hi w (.slice a l.length cap) l) (hk:k≤l.length):IsK lo hi w (.slice a k cap) (l.take k):=⟨h.1,fun w' hw=>zm0 (h.2 w' hw) k hk⟩
theorem IsK.drop {l:List α} {a:Option Addr} {cap k:Nat} (h:IsK lo hi w (.slice a l.length cap) l) (hk:k≤l.length):IsK lo hi w (.slice (if cap=k then a else a.map (·.add (k*Rep.size α))) (l.length-k) (cap-k)) (l.drop k):=⟨h.1,fun w' hw=>zmN (h.2 w' hw) k hk _ rfl⟩
end
end Go.Sh
namespace Go.Proofs.YtcnglfeoglgebaaGreat
open Go Go.Sh Go.Proofs
open Rep (rep)
def F95 (a0 a1 a2:Value) (w:World) (R:VW):Prop:=
 LOOPI [7] [(iV 0)] w fun u2 w next2=>
 rN 29 3 a1 w fun x10=>
 rC (u2 7) x10 w fun x11=>
 BR x11
 (JOIN [] (fun J6=>
 rX 29 a1 (u2 7) w fun x16=>
 rF 56 x16 0 w fun x17=>
 rL 3 x17 w fun x18=>
 rB .eql 3 T0 U0 x18 (iV 4) w fun x19=>
 BR x19
 (rN 24 3 a2 w fun x33=>
 cL 51 [a0,x33] w fun x34 w=>
 rX 24 a2 x34 w fun x35=>
 rL 9 x35 w fun x36=>
 rX 29 a1 (u2 7) w fun x37=>
 rF 56 x37 1 w fun x38=>
 oS 9 x38 x36 w fun w=>
 J6 [] w)
 (rX 29 a1 (u2 7) w fun x23=>
 rF 56 x23 0 w fun x24=>
 rL 3 x24 w fun x25=>
 rB .eql 3 T0 U0 x25 (iV 5) w fun x26=>
 BR x26
 (rN 24 3 a2 w fun x33=>
 cL 51 [a0,x33] w fun x34 w=>
 rX 24 a2 x34 w fun x35=>
 rL 9 x35 w fun x36=>
 rX 29 a1 (u2 7) w fun x37=>
 rF 56 x37 1 w fun x38=>
 oS 9 x38 x36 w fun w=>
 J6 [] w)
 (J6 [] w))) (fun u6 w=>
 rX 29 a1 (u2 7) w fun x44=>
 rF 56 x44 3 w fun x45=>
 rL 29 x45 w fun x46=>
 cL 95 [a0,x46,a2] w fun x48 w=>
 rX 29 a1 (u2 7) w fun x49=>
 rF 56 x49 3 w fun x50=>
 oS 29 x50 x48 w fun w=>
 rX 29 a1 (u2 7) w fun x56=>
 rF 56 x56 4 w fun x57=>
 rL 29 x57 w fun x58=>
 cL 95 [a0,x58,a2] w fun x60 w=>
 rX 29 a1 (u2 7) w fun x61=>
 rF 56 x61 4 w fun x62=>
 oS 29 x62 x60 w fun w=>
 rA (u2 7) (iV 1) w fun x13=>
 next2 [x13] w))
 (R a1 w)
def cfg95:Cfg:=⟨extL,[(6,549755797504,[])],[(2,9223372036854775680,[7])],[],[],[],[]⟩
theorem F95_call {a0 a1 a2:Value} {w:World} {R:VW} (h:F95 a0 a1 a2 w R):cL 95 [a0,a1,a2] w R:=co (g:=cfg95) Tryz.func95 (by kernel_rfl) (by kernel_rfl) (by kernel_rfl) h
theorem CurAt.chgF {W w w':World} {g:Nat} {bs:List UInt8} {s:Cur} {F:List Nat} (h:CurAt W g bs s w) (hc:Chg F w w') (hg:g∉F) (hl:∀ c∈F,W.heap.size≤c):CurAt W g bs s w':=by
 obtain ⟨v,h0,hx,h2,h3,h4⟩:=h
 exact ⟨v,h0,hx.chgL hc hl,h2,h3.chg hc hg,h4⟩
theorem zrA {a:Prop} [Decidable a] {Q kt kf:Prop} (hq:a→Q) (key:Q→kt) (rest:(Q→kt)→¬a→kf):BR (.bool (decide a)) kt kf:=br (fun h=>key (hq h)) fun h=>rest key h
theorem zuw {γ β:Type} [Rep γ] [Rep β] {w w2:World} {v u:Value} {F G G2:List Nat} {g:Nat} {m2:List β} {upd:List β→γ}
   (hb:∀ w' G' l',Chg G w w'→Mine G' w' u l'→(∀ c∈G',c∈G∨c∉F)→∃ F',MH v F' w' (upd l')∧∀ c∈F',c∈F∨c∈G') (hGF:∀ c∈G,c∈F) (hc:Chg (g :: G) w w2) (hg:g∉F) (hgl:g<w.heap.size)
   (hM2:Mine G2 w2 u m2) (hs:∀ c∈G2,c∈G):∃ F',Mine F' w2 v (upd m2)∧∀ c∈F',c∈F:=by
 obtain ⟨w3,h3⟩:∃ w3:World,w3={ w2 with heap:=w2.heap.setIfInBounds g w.heap[g] }:=⟨_,rfl⟩
 have hgl2:g<w2.heap.size:=Nat.lt_of_lt_of_le hgl hc.size
 have hne:∀ c,c≠g→w3.heap[c]?=w2.heap[c]?:=fun c hcg=>by
   rw [h3];exact Array.getElem?_setIfInBounds_ne (fun e=>hcg e.symm)
 have heq:w3.heap[g]?=w.heap[g]?:=by
   rw [h3]
   show (w2.heap.setIfInBounds g w.heap[g])[g]?=_
   rw [Array.getElem?_setIfInBounds_self_of_lt hgl2,Array.getElem?_eq_getElem hgl]
 have hsz:w3.heap.size=w2.heap.size:=by rw [h3];simp
 have hc3:Chg G w w3:=⟨by rw [h3];exact hc.os,by rw [h3];exact hc.tape,by rw [h3];exact hc.output,by rw [hsz];exact hc.size,fun c hcl hcG=>by
   by_cases e:c=g
   · rw [e];exact heq
   rw [hne c e];exact hc.block c hcl (by simp [e,hcG])⟩
 have hgG2:∀ c∈G2,c≠g:=fun c hcm e=>hg (by rw [←e];exact hGF c (hs c hcm))
 obtain ⟨F',h1,h2⟩:=hb w3 G2 m2 hc3 (hM2.keep fun c hcm=>hne c (hgG2 c hcm)) fun c hcm=>.inl (hs c hcm)
 have hF':∀ c∈F',c∈F:=fun c hcm=>(h2 c hcm).elim id fun h=>hGF c (hs c h)
 refine ⟨F',Mine.keep h1 fun c hcm=>(hne c fun e=>hg (by rw [←e];exact hF' c hcm)).symm,hF'⟩
theorem zmj {P:Program} {w:World} {α:Type} [Rep α] {t e:TypeId} {by_:Nat} {F:List Nat} {v:Value} {l:List α} {k:Nat} {K:Value→Prop} (ht:P.underlying t=some (.slice e)) (he:tyI P e=some (Rep.size α,by_,Rep.agg α)) (hm:Mine F w v l) (hk:k<l.length)
   (kk:∀ b a cap G,v=.slice (some ⟨b,a,none⟩) l.length cap→Lens (MH v) F w b (a+k*Rep.size α) G l[k] (fun y=>l.set k y)→K (.pointer (some ⟨b,a+k*Rep.size α,none⟩))):RD P (Instr.indexAt t v (.int .i64 (k:Int))) w K:=by
 obtain ⟨b,a,cap,G,hv,hL⟩:=zsd hm hk
 refine zaQ (v:=.pointer (some ⟨b,a+k*Rep.size α,none⟩)) (fun w' _=>?_) (kk _ _ _ _ hv hL)
 rw [hv,zbH ht he (by omega) (by omega)];simp
theorem zk4 {α:Type} {D r:List α} {x y:α} {k:Nat} (h:D.length=k):(D++x :: r).set k y=D++y :: r:=by
 subst h;rw [List.set_append_right _ _ (Nat.le_refl _)];simp
theorem zhD {α:Type} {D r:List α} {x:α} {k:Nat} (h:D.length=k) (hk:k<(D++x :: r).length):(D++x :: r)[k]=x:=by
 subst h;simp
def znJ (l:List DStmt):Prop:=∀ {W w:World} {g:Nat} {bs:List UInt8} {s:Cur} {v vp:Value} {F:List Nat} {lp hp:Nat} {pr:List ByteArray},CurAt W g bs s w→Mine F w v l→g∉F→(∀ c∈F,W.heap.size≤c)→IsK lp hp w vp pr→(g<lp∨hp≤g)→(∀ c∈F,c<lp∨hp≤c)→0<pr.length→pr.length≤1000 →
 CALL Tryz.prog 95 [.pointer (some ⟨g,0,none⟩),v,vp] w fun r w'=>r=v∧Chg (g :: F) w w'∧CurAt W g bs (zdO bs pr l s).2 w'∧∃ F',Mine F' w' v (zdO bs pr l s).1∧∀ c∈F',c∈F
theorem zrB {fld off:Nat} {sel:DStmt→List DStmt} {put:DStmt→List DStmt→DStmt} (hfd:zdz Tryz.prog 56 fld=some off) (hpp:∀ x m m',put (put x m) m'=put x m') (hsp:∀ x m,sel (put x m)=m)
   (hl:∀ {H:List Nat→World→List DStmt→Prop} {F:List Nat} {w:World} {b o:Nat} {G:List Nat} {x:DStmt} {upd:DStmt→List DStmt},Lens H F w b o G x upd→∃ G1,Lens H F w b (o+off) G1 (sel x) (fun y=>upd (put x y)))
   {W w:World} {g k:Nat} {bs:List UInt8} {s:Cur} {v vp:Value} {F:List Nat} {lp hp:Nat} {pr:List ByteArray} {D r:List DStmt} {y:DStmt} {K:World→Prop} (hC:CurAt W g bs s w) (hM:Mine F w v (D++y :: r)) (hD:D.length=k) (hgF:g∉F) (hFW:∀ c∈F,W.heap.size≤c)
   (hP:IsK lp hp w vp pr) (hgP:g<lp∨hp≤g) (hFP:∀ c∈F,c<lp∨hp≤c) (hp0:0<pr.length) (hp1:pr.length≤1000) (ih:znJ (sel y))
   (kk:∀ w' F',Chg (g :: F) w w'→CurAt W g bs (zdO bs pr (sel y) s).2 w'→Mine F' w' v (D++put y (zdO bs pr (sel y) s).1 :: r)→(∀ c∈F',c∈F)→IsK lp hp w' vp pr→K w') :
   RD Tryz.prog (Instr.indexAt 29 v (.int .i64 (k:Int))) w fun x44=>RD Tryz.prog (Instr.fieldAt 56 x44 fld) w fun x45=>RD Tryz.prog (Instr.loadAt 29 x45) w fun x46=>
     CALL Tryz.prog 95 [.pointer (some ⟨g,0,none⟩),x46,vp] w fun x48 w=>RD Tryz.prog (Instr.indexAt 29 v (.int .i64 (k:Int))) w fun x49=>RD Tryz.prog (Instr.fieldAt 56 x49 fld) w fun x50=>
     OPU Tryz.prog (Instr.storeAt 29 x50 x48) w fun w=>K w:=by
 have hkl:k<(D++y :: r).length:=by simp;omega
 refine zmj u29 zc2 hM hkl fun b a cap G hv hL=>?_
 rw [zhD hD hkl] at hL
 obtain ⟨G3,hL3⟩:=hl hL
 obtain ⟨cs3,_,_,_,_,hb3,_⟩:=hL3.here
 have hbF:b∈F:=hL3.sub b (by simp)
 obtain ⟨ub,hMb,hrb,hGb,hbb⟩:=hL3.row
 have hgl:=hC.lt.2
 refine zaa hfd ?_
 refine za2 zfc hrb ?_
 refine (ih hC hMb (fun h=>hgF (hGb _ h)) (fun c hc=>hFW c (hGb c hc)) hP hgP (fun c hc=>hFP c (hGb c hc)) hp0 hp1).mono ?_
 rintro r48 w3 ⟨h48,hc3,hC3,Gb',hMb',hGb'⟩
 rw [h48]
 obtain ⟨F3,hM3,hF3⟩:=zuw hbb hGb hc3 hgF hgl hMb' hGb'
 rw [zk4 hD] at hM3
 have hP3:=hP.chgF hc3 fun c hc=>by
   rcases List.mem_cons.1 hc with rfl | h
   · exact hgP
   exact hFP c (hGb c h)
 have hkl3:k<(D++put y (zdO bs pr (sel y) s).1 :: r).length:=by simp;omega
 refine zmj u29 zc2 hM3 hkl3 fun b5 a5 cap5 G5 hv5 hL5=>?_
 rw [zhD hD hkl3] at hL5
 have hba:b5=b∧a5=a:=by
   rw [hv] at hv5
   simp only [Value.slice.injEq,Option.some.injEq,Addr.mk.injEq,and_true] at hv5
   exact ⟨hv5.1.1.symm,hv5.1.2.symm⟩
 obtain ⟨rfl,rfl⟩:=hba
 obtain ⟨G6,hL6⟩:=hl hL5
 obtain ⟨u6,hM6,hr6,hG6,_⟩:=hL6.row
 have hbk:w3.heap[b5]?=w.heap[b5]?:=hc3.block b5 (hM.lt b5 hbF) (by
   simp only [List.mem_cons,not_or]
   exact ⟨fun e=>hgF (by rw [←e];exact hbF),hb3⟩)
 have hu6:u6=ub:=by
   have h1:=hr6 0 u6 rfl
   have h2:=(zaK hrb hbk) 0 ub rfl
   rw [h1] at h2
   exact Option.some.inj h2
 subst hu6
 refine zaa hfd ?_
 refine zfB zfc hL6 hM6 (fun c hc=>.inl hc) fun w4 hc4 ⟨F4,hM4,hF4⟩=>?_
 have hM4:Mine F4 w4 v ((D++put y (zdO bs pr (sel y) s).1 :: r).set k (put (put y (zdO bs pr (sel y) s).1) (sel (put y (zdO bs pr (sel y) s).1)))):=hM4
 rw [zk4 hD,hpp,hsp] at hM4
 refine kk w4 F4 ((hc3.mono fun c hc=>?_).trans (hc4.mono fun c hc=>by simp [hF3 c hc])) (hC3.chgF hc4 (fun h=>hgF (hF3 _ h)) fun c hc=>hFW c (hF3 c hc)) hM4 (fun c hc=>?_) (hP3.chgF hc4 fun c hc=>hFP c (hF3 c hc))
 · rcases List.mem_cons.1 hc with rfl | hc
   · simp
   simp [hGb c hc]
 rcases hF4 c hc with h | h
 · exact hF3 c h
 exact hF3 c (hG6 c h)
theorem zux {bs:List UInt8} {pr:List ByteArray} (x:DStmt) (s:Cur) {n:ByteArray} {s2:Cur} (h:(if x.kind=4∨x.kind=5 then (zct bs pr s,zal bs (pr.length:Int) s) else (x.name,s))=(n,s2)) :
   znE bs pr x s=(.mk x.kind n x.term (zdO bs pr x.body s2).1 (zdO bs pr x.els (zdO bs pr x.body s2).2).1,(zdO bs pr x.els (zdO bs pr x.body s2).2).2):=by
 obtain ⟨k,nm,t,b,e⟩:=x
 have h:(if k=4∨k=5 then (zct bs pr s,zal bs (pr.length:Int) s) else (nm,s))=(n,s2):=h
 show _=(DStmt.mk k n t (zdO bs pr b s2).1 (zdO bs pr e (zdO bs pr b s2).2).1,(zdO bs pr e (zdO bs pr b s2).2).2)
 by_cases hk:k=4∨k=5
 · rw [if_pos hk] at h
   simp only [Prod.mk.injEq] at h
   obtain ⟨rfl,rfl⟩:=h
   rw [znE,if_pos hk]
 rw [if_neg hk] at h
 simp only [Prod.mk.injEq] at h
 obtain ⟨rfl,rfl⟩:=h
 rw [znE,if_neg hk]
def zwb (x:DStmt) (m:List DStmt):DStmt:=.mk x.kind x.name x.term m x.els
def zwu (x:DStmt) (m:List DStmt):DStmt:=.mk x.kind x.name x.term x.body m
theorem zgo {l:List DStmt} (ih:∀ x∈l,znJ x.body∧znJ x.els):znJ l:=by
 intro W w g bs s v vp F lp hp pr hC hM hgF hFW hP hgP hFP hp0 hp1
 have hln:=zah hM.is
 refine F95_call ?_
 unfold F95
 refine zaB l.length (fun k us w'=>us=[.int .i64 (k:Int)]∧∃ (D:List DStmt) (s1:Cur) (F1:List Nat),D.length=k∧k≤l.length∧zdO bs pr l s=(D++(zdO bs pr (l.drop k) s1).1,(zdO bs pr (l.drop k) s1).2)∧Chg (g :: F) w w'∧CurAt W g bs s1 w' ∧
     Mine F1 w' v (D++l.drop k)∧(∀ c∈F1,c∈F)∧IsK lp hp w' vp pr) 0 (Nat.zero_le _) ⟨rfl,[],s,F,rfl,Nat.zero_le _,by simp,Chg.refl _ _,hC,by simpa using hM,fun _ h=>h,hP⟩ ?_
 rintro k m u w1 hkm ⟨hu,D,s1,F1,hD,hkl,hfx,hc1,hC1,hM1,hF1,hP1⟩
 simp only [List.map_cons,List.map_nil,List.cons.injEq,and_true] at hu
 rw [hu]
 refine zae u29 hM1.is ?_
 have hlen:(D++l.drop k).length=l.length:=by simp;omega
 rw [hlen]
 refine zai ?_
 refine br (fun hlt=>?_) (fun hge=>?_)
 · have hk:k<l.length:=by omega
   obtain ⟨x,hx⟩:∃ x,x=l[k]:=⟨_,rfl⟩
   have hxm:x∈l:=by rw [hx];exact List.getElem_mem hk
   have hdr:l.drop k=x :: l.drop (k+1):=by rw [hx];exact List.drop_eq_getElem_cons hk
   rw [hdr] at hM1
   rw [hdr,zdO] at hfx
   have hkl1:k<(D++x :: l.drop (k+1)).length:=by simp;omega
   refine JOIN.mk (fun us w'=>∃ F2 n s2,Chg (g :: F) w w'∧CurAt W g bs s2 w'∧Mine F2 w' v (D++DStmt.mk x.kind n x.term x.body x.els :: l.drop (k+1))∧(∀ c∈F2,c∈F)∧IsK lp hp w' vp pr ∧
       (if x.kind=4∨x.kind=5 then (zct bs pr s1,zal bs (pr.length:Int) s1) else (x.name,s1))=(n,s2)) ?_ ?_
   · refine zad u29 zc2 hM1.is hkl1 fun b16 o16 hA16=>?_
     rw [zhD hD hkl1] at hA16
     refine zaa zhJ ?_
     refine zac ty3 (zcM hA16) (Ext.refl _) fun hI18=>?_
     refine zaf ?_
     refine zrA (Q:=x.kind=4∨x.kind=5) .inl (fun hQ=>?_) (fun key h4=>?_)
     · refine zae u24 hP1.is ?_
       refine (zb3 hC1 (by omega)).mono ?_
       rintro _ w2 ⟨hc2',hC2,rfl⟩
       have hc2:=hc2'.toC
       have hM2:=hM1.chgF hc2 fun c hc h=>by
         simp only [List.mem_singleton] at h
         exact hgF (h▸hF1 c hc)
       have hP2:=hP1.chgF hc2 fun c hc=>by
         simp only [List.mem_singleton] at hc
         exact hc▸hgP
       have hbx:=zb8 bs (n:=(pr.length:Int)) (by omega) s1
       refine zav u24 ty9 hP2.is hbx.1 (by omega) fun b35 o35 hA35=>?_
       refine zas ty9 hA35 (Ext.refl _) fun hS36=>?_
       refine zoe u29 zc2 hM2 hkl1 fun b37 o37 G37 hL37=>?_
       rw [zhD hD hkl1] at hL37
       refine zaa zef ?_
       obtain ⟨G38,hL38⟩:=zl9 hL37
       refine ziH ty9 hL38 (zsk hS36) fun w3 F3 hc3 hM3 hF3=>?_
       have hM3:Mine F3 w3 v ((D++x :: l.drop (k+1)).set k (.mk x.kind (pr[(zbg bs (pr.length:Int) s1).toNat]'(by omega)) x.term x.body x.els)):=hM3
       rw [zk4 hD] at hM3
       refine ⟨F3,_,_,((hc1.trans (hc2.mono (by simp))).trans (hc3.mono fun c hc=>by simp [hF1 c hc])),hC2.chgF hc3 (fun h=>hgF (hF1 _ h)) (fun c hc=>hFW c (hF1 c hc)),hM3,fun c hc=>hF1 c (hF3 c hc),hP2.chgF hc3 (fun c hc=>hFP c (hF1 c hc)),?_⟩
       rw [if_pos hQ]
       unfold zct
       rw [←zea (by omega)]
     refine zad u29 zc2 hM1.is hkl1 fun b23 o23 hA23=>?_
     rw [zhD hD hkl1] at hA23
     refine zaa zhJ ?_
     refine zac ty3 (zcM hA23) (Ext.refl _) fun hI25=>?_
     refine zaf ?_
     refine br (fun h5=>key (.inr h5)) fun h5=>?_
     exact ⟨F1,x.name,s1,hc1,hC1,by rw [DStmt.eta];exact hM1,hF1,hP1,by rw [if_neg (by omega)]⟩
   rintro u6 w2 ⟨F2,n,s2,hc2,hC2,hM2,hF2,hP2,hn⟩
   have hfs:=zux x s1 hn
   rw [hfs] at hfx
   refine zrB (fld:=3) (sel:=DStmt.body) (put:=zwb) zeg (fun _ _ _=>rfl) (fun _ _=>rfl) zhP hC2 hM2 hD (fun h=>hgF (hF2 _ h)) (fun c hc=>hFW c (hF2 c hc)) hP2 hgP (fun c hc=>hFP c (hF2 c hc)) hp0 hp1 (ih x hxm).1 fun w3 F3 hc3 hC3 hM3 hF3 hP3=>?_
   have hF3':∀ c∈F3,c∈F:=fun c hc=>hF2 c (hF3 c hc)
   refine zrB (fld:=4) (sel:=DStmt.els) (put:=zwu) zdF (fun _ _ _=>rfl) (fun _ _=>rfl) zfq hC3 hM3 hD (fun h=>hgF (hF3' _ h)) (fun c hc=>hFW c (hF3' c hc)) hP3 hgP (fun c hc=>hFP c (hF3' c hc)) hp0 hp1 (ih x hxm).2 fun w4 F4 hc4 hC4 hM4 hF4 hP4=>?_
   refine zag (by omega) ?_
   refine ⟨m-1,by omega,k+1,by omega,rfl,D++[DStmt.mk x.kind n x.term (zdO bs pr x.body s2).1 (zdO bs pr x.els (zdO bs pr x.body s2).2).1],_,F4,by simp [hD],by omega,?_,(hc2.trans (hc3.mono fun c hc=>?_)).trans (hc4.mono fun c hc=>?_),hC4,?_,fun c hc=>hF3' c (hF4 c hc),hP4⟩
   · rw [hfx];simp [DStmt.body,DStmt.els,zwb]
   · rcases List.mem_cons.1 hc with rfl | hc
     · simp
     simp [hF2 c hc]
   · rcases List.mem_cons.1 hc with rfl | hc
     · simp
     simp [hF3' c hc]
   simpa [zwu,zwb,DStmt.body,DStmt.els,DStmt.kind,DStmt.name,DStmt.term] using hM4
 have hk:k=l.length:=by omega
 subst hk
 rw [List.drop_length,zoP] at hfx
 rw [List.drop_length] at hM1
 rw [hfx]
 exact ⟨rfl,hc1,hC1,F1,hM1,hF1⟩
theorem zrC (l:List DStmt):znJ l:=by
 refine zgo fun x _=>?_
 refine DStmt.ind (p:=fun x=>znJ x.body∧znJ x.els) (fun t hb he=>⟨?_,?_⟩) x
 · intro W w g bs s v vp F lp hp pr;exact zgo hb
 intro W w g bs s v vp F lp hp pr;exact zgo he
section
variable (G L P:List ByteArray)
mutual
def emS:DStmt→Nat→List DIns
  | .mk k n t b e,at_=>
    if k=1 then [⟨1,plc n G,t,0⟩]
    else if k=4 then [⟨4,plc n P,term0,0⟩]
    else if k=5 then [⟨5,plc n P,term0,0⟩]
    else if k=6 then [⟨6,plc n L,term0,0⟩]
    else if k=7 then [⟨7,plc n L,term0,0⟩]
    else if k=8 then [⟨8,0,term0,0⟩]
    else if k=3 then ⟨2,0,t,((at_+1+(emL b (at_+1)).length+1:Nat):Int)⟩ :: (emL b (at_+1)++[⟨3,0,term0,(at_:Int)⟩])
    else if k=2 then
      (if e.length=0 then ⟨2,0,t,((at_+1+(emL b (at_+1)).length:Nat):Int)⟩ :: emL b (at_+1)
      else ⟨2,0,t,((at_+1+(emL b (at_+1)).length+1:Nat):Int)⟩ :: (emL b (at_+1) ++
        (⟨3,0,term0,((at_+1+(emL b (at_+1)).length+1+(emL e (at_+1+(emL b (at_+1)).length+1)).length:Nat):Int)⟩ :: emL e (at_+1+(emL b (at_+1)).length+1))))
    else []
def emL:List DStmt→Nat→List DIns
  | [],_=>[]
  | x :: l,at_=>emS x at_++emL l (at_+(emS x at_).length)
end
def InsQ (x:DIns) (lo hi:Nat):Prop:=1≤x.op∧x.op≤8 ∧
 (0≤x.arg∧x.arg<if x.op=1 then (G.length:Int) else if x.op=4∨x.op=5 then P.length else if x.op=6∨x.op=7 then L.length else 1) ∧
 (if x.op=1∨x.op=2 then TmR G x.term else x.term=term0)∧(if x.op=2∨x.op=3 then (lo:Int)≤x.to∧x.to≤hi else x.to=0)
end
section
variable {G L P:List ByteArray}
theorem InsQ.mono {x:DIns} {lo hi lo' hi':Nat} (h:InsQ G L P x lo hi) (h1:lo'≤lo) (h2:hi≤hi'):InsQ G L P x lo' hi':=by
 obtain ⟨a,b,c,d,e⟩:=h
 refine ⟨a,b,c,d,?_⟩
 split at e
 · rename_i hh;rw [if_pos hh];omega
 rename_i hh;rw [if_neg hh];exact e
theorem zmk {n:ByteArray} {l:List ByteArray} (h:n∈l):0≤plc n l∧plc n l<l.length:=⟨zeV.2 h,zoa.2⟩
theorem ztH {op arg to:Int} {t:DTerm} {lo hi:Nat} (h1:1≤op) (h1':op≤8) (h2:0≤arg∧arg<if op=1 then (G.length:Int) else if op=4∨op=5 then P.length else if op=6∨op=7 then L.length else 1)
   (h3:if op=1∨op=2 then TmR G t else t=term0) (h4:if op=2∨op=3 then (lo:Int)≤to∧to≤hi else to=0):InsQ G L P ⟨op,arg,t,to⟩ lo hi:=⟨h1,h1',h2,h3,h4⟩
theorem zrD {t:DTerm} (ht:TmR G t) {to lo hi:Nat} (h1:lo≤to) (h2:to≤hi):InsQ G L P ⟨2,0,t,(to:Int)⟩ lo hi:=
 ztH (by decide) (by decide) (by rw [if_neg (by decide),if_neg (by decide),if_neg (by decide)];decide) (by rw [if_pos (.inr rfl)];exact ht) (by rw [if_pos (.inl rfl)];omega)
theorem ztI {to lo hi:Nat} (h1:lo≤to) (h2:to≤hi):InsQ G L P ⟨3,0,term0,(to:Int)⟩ lo hi:=
 ztH (by decide) (by decide) (by rw [if_neg (by decide),if_neg (by decide),if_neg (by decide)];decide) (by rw [if_neg (by decide)]) (by rw [if_pos (.inr rfl)];omega)
theorem zwc {c:Scp} (hG:G=c.gl) (hL:L=c.lk) (hP:∀ x∈c.pr,x∈P):∀ (n:Nat),
   (∀ (t:DStmt) (a:Nat),StR c n t→(∀ x∈emS G L P t a,InsQ G L P x a (a+(emS G L P t a).length))∧(emS G L P t a).length≤2*szS t) ∧
   ∀ (l:List DStmt) (a:Nat),(∀ x∈l,StR c n x)→(∀ x∈emL G L P l a,InsQ G L P x a (a+(emL G L P l a).length))∧(emL G L P l a).length≤2*szL l:=by
 have hl:∀ n,(∀ (t:DStmt) (a:Nat),StR c n t→(∀ x∈emS G L P t a,InsQ G L P x a (a+(emS G L P t a).length))∧(emS G L P t a).length≤2*szS t) →
     ∀ (l:List DStmt) (a:Nat),(∀ x∈l,StR c n x)→(∀ x∈emL G L P l a,InsQ G L P x a (a+(emL G L P l a).length))∧(emL G L P l a).length≤2*szL l:=by
   intro n hs l
   induction l with
   | nil=>intro a _;rw [emL];exact ⟨(fun x hx=>by cases hx),Nat.zero_le _⟩
   | cons t l ih=>
     intro a h
     have h1:=hs t a (h t (by simp))
     have h2:=ih (a+(emS G L P t a).length) fun x hx=>h x (by simp [hx])
     rw [emL,szL]
     generalize emS G L P t a=u at *
     generalize emL G L P l (a+u.length)=v at *
     rw [List.length_append]
     refine ⟨fun x hx=>?_,by omega⟩
     rcases List.mem_append.1 hx with hx | hx
     · exact (h1.1 x hx).mono (Nat.le_refl _) (by omega)
     exact (h2.1 x hx).mono (by omega) (by omega)
 have h0:∀ (t:DStmt) (a:Nat),St0 c t→(∀ x∈emS G L P t a,InsQ G L P x a (a+(emS G L P t a).length))∧(emS G L P t a).length≤2*szS t:=by
   rintro ⟨k,n,t,b,e⟩ a h
   rw [emS,szS]
   rcases h with ⟨hk,hn,ht,_,_⟩ | ⟨hk,hn,_⟩ | ⟨hk,hn,_⟩ | ⟨hk,hn,_⟩
   · have hk:k=1:=hk
     have hn:n∈c.gl:=hn
     rw [if_pos hk]
     refine ⟨fun x hx=>?_,by simp;omega⟩
     simp only [List.mem_cons,List.not_mem_nil,or_false] at hx
     subst hx
     exact ztH (by decide) (by decide) (by rw [if_pos rfl];exact zmk (by rw [hG];exact hn)) (by rw [if_pos (.inl rfl)];exact hG▸ht) (by rw [if_neg (by decide)])
   · have hk:k=4∨k=5:=hk
     have hn:n∈c.pr:=hn
     rw [if_neg (by omega)]
     rcases hk with hk | hk
     · rw [if_pos hk]
       refine ⟨fun x hx=>?_,by simp;omega⟩
       simp only [List.mem_cons,List.not_mem_nil,or_false] at hx
       subst hx
       exact ztH (by decide) (by decide) (by rw [if_neg (by decide),if_pos (.inl rfl)];exact zmk (hP _ hn)) (by rw [if_neg (by decide)]) (by rw [if_neg (by decide)])
     rw [if_neg (by omega),if_pos hk]
     refine ⟨fun x hx=>?_,by simp;omega⟩
     simp only [List.mem_cons,List.not_mem_nil,or_false] at hx
     subst hx
     exact ztH (by decide) (by decide) (by rw [if_neg (by decide),if_pos (.inr rfl)];exact zmk (hP _ hn)) (by rw [if_neg (by decide)]) (by rw [if_neg (by decide)])
   · have hk:k=6∨k=7:=hk
     have hn:n∈c.lk:=hn
     rw [if_neg (by omega),if_neg (by omega),if_neg (by omega)]
     rcases hk with hk | hk
     · rw [if_pos hk]
       refine ⟨fun x hx=>?_,by simp;omega⟩
       simp only [List.mem_cons,List.not_mem_nil,or_false] at hx
       subst hx
       exact ztH (by decide) (by decide) (by rw [if_neg (by decide),if_neg (by decide),if_pos (.inl rfl)];exact zmk (by rw [hL];exact hn)) (by rw [if_neg (by decide)]) (by rw [if_neg (by decide)])
     rw [if_neg (by omega),if_pos hk]
     refine ⟨fun x hx=>?_,by simp;omega⟩
     simp only [List.mem_cons,List.not_mem_nil,or_false] at hx
     subst hx
     exact ztH (by decide) (by decide) (by rw [if_neg (by decide),if_neg (by decide),if_pos (.inr rfl)];exact zmk (by rw [hL];exact hn)) (by rw [if_neg (by decide)]) (by rw [if_neg (by decide)])
   have hk:k=8:=hk
   rw [if_neg (by omega),if_neg (by omega),if_neg (by omega),if_neg (by omega),if_neg (by omega),if_pos hk]
   refine ⟨fun x hx=>?_,by simp;omega⟩
   simp only [List.mem_cons,List.not_mem_nil,or_false] at hx
   subst hx
   exact ztH (by decide) (by decide) (by rw [if_neg (by decide),if_neg (by decide),if_neg (by decide)];decide) (by rw [if_neg (by decide)]) (by rw [if_neg (by decide)])
 intro n
 induction n with
 | zero=>exact ⟨fun t a h=>h0 t a h.zero,hl 0 fun t a h=>h0 t a h.zero⟩
 | succ n ih=>
   have hs:∀ (t:DStmt) (a:Nat),StR c (n+1) t→(∀ x∈emS G L P t a,InsQ G L P x a (a+(emS G L P t a).length))∧(emS G L P t a).length≤2*szS t:=by
     intro t a h
     rcases h.succ with h | ⟨hk,hn,ht,hb,he⟩
     · exact h0 t a h
     obtain ⟨k,nm,t,b,e⟩:=t
     have hq:k=2∨k=3∧e=[]:=hk
     clear hk
     replace ht:TmR G t:=hG▸ht
     have h1:=ih.2 b (a+1) hb
     have h2:=ih.2 e (a+1+(emL G L P b (a+1)).length+1) he
     rw [emS,szS,if_neg (by omega),if_neg (by omega),if_neg (by omega),if_neg (by omega),if_neg (by omega),if_neg (by omega)]
     generalize emL G L P b (a+1)=u at *
     generalize emL G L P e (a+1+u.length+1)=v at *
     rcases hq with hq | ⟨hq,rfl⟩
     · rw [if_neg (by omega),if_pos hq]
       split
       · refine ⟨fun x hx=>?_,by simp only [List.length_cons];omega⟩
         rw [List.length_cons]
         rcases List.mem_cons.1 hx with rfl | hx
         · exact zrD ht (by omega) (by omega)
         exact (h1.1 x hx).mono (by omega) (by omega)
       rename_i hne
       refine ⟨fun x hx=>?_,?_⟩
       · simp only [List.length_cons,List.length_append]
         rcases List.mem_cons.1 hx with rfl | hx
         · exact zrD ht (by omega) (by omega)
         rcases List.mem_append.1 hx with hx | hx
         · exact (h1.1 x hx).mono (by omega) (by omega)
         rcases List.mem_cons.1 hx with rfl | hx
         · exact ztI (by omega) (by omega)
         exact (h2.1 x hx).mono (by omega) (by omega)
       have:=zgm e
       simp only [List.length_cons,List.length_append];omega
     rw [if_pos hq]
     refine ⟨fun x hx=>?_,by simp only [List.length_cons,List.length_append,List.length_nil];omega⟩
     simp only [List.length_cons,List.length_append,List.length_nil]
     rcases List.mem_cons.1 hx with rfl | hx
     · exact zrD ht (by omega) (by omega)
     rcases List.mem_append.1 hx with hx | hx
     · exact (h1.1 x hx).mono (by omega) (by omega)
     simp only [List.mem_cons,List.not_mem_nil,or_false] at hx
     subst hx
     exact ztI (by omega) (by omega)
   exact ⟨hs,hl (n+1) hs⟩
end
def zuy:DIns:=⟨9,0,term0,0⟩
section
variable (G L P:List ByteArray)
def emP:List DProc→Nat→List DIns
 | [],_=>[]
 | x :: l,a=>emL G L P x.body a++(zuy :: emP l (a+(emL G L P x.body a).length+1))
def zml:List DProc→Nat→List Int
 | [],_=>[]
 | x :: l,a=>(a:Int) :: zml l (a+(emL G L P x.body a).length+1)
end
def zbB (p:DProg):DCode:=
 ⟨p.globals,p.locks,p.procs.map DProc.name,zml p.globals p.locks (p.procs.map DProc.name) p.procs 0,emP p.globals p.locks (p.procs.map DProc.name) p.procs 0⟩
theorem zih (G L P:List ByteArray):∀ (l:List DProc) (a:Nat),(zml G L P l a).length=l.length
 | [],_=>by rw [zml];rfl
 | x :: l,a=>by rw [zml,List.length_cons,List.length_cons,zih G L P l]
theorem ztJ (G L P:List ByteArray):∀ (l:List DProc) (a i:Nat) (hi:i<l.length),∃ s,(zml G L P l a)[i]?=some ((a+s:Nat):Int)∧s+(emL G L P l[i].body (a+s)).length+1≤(emP G L P l a).length ∧
   (∀ k,k<(emL G L P l[i].body (a+s)).length→(emP G L P l a)[s+k]?=(emL G L P l[i].body (a+s))[k]?)∧(emP G L P l a)[s+(emL G L P l[i].body (a+s)).length]?=some zuy ∧
   (i=0→s=0)∧(i+1<l.length→(zml G L P l a)[i+1]?=some ((a+s+(emL G L P l[i].body (a+s)).length+1:Nat):Int))∧(i+1=l.length→s+(emL G L P l[i].body (a+s)).length+1=(emP G L P l a).length)
 | x :: l,a,0,hi=>by
   refine ⟨0,?_⟩
   simp only [Nat.add_zero,Nat.zero_add,List.getElem_cons_zero]
   rw [zml,emP]
   generalize emL G L P x.body a=u
   refine ⟨by simp,by simp,fun k hk=>List.getElem?_append_left hk,by simp,by simp,fun h=>?_,fun h=>?_⟩
   · cases l with
     | nil=>simp at h
     | cons y l=>rw [zml];rfl
   have:l=[]:=List.eq_nil_of_length_eq_zero (by simpa using h)
   subst this
   rw [emP];simp
 | x :: l,a,i+1,hi=>by
   obtain ⟨s,h1,h2,h3,h4,h5,h6,h7⟩:=ztJ G L P l (a+(emL G L P x.body a).length+1) i (by simpa using hi)
   refine ⟨(emL G L P x.body a).length+1+s,?_⟩
   simp only [List.getElem_cons_succ]
   rw [zml,emP]
   have e:a+((emL G L P x.body a).length+1+s)=a+(emL G L P x.body a).length+1+s:=by omega
   rw [e]
   generalize emL G L P x.body a=u at *
   have hil:i<l.length:=by simpa using hi
   generalize emL G L P (l[i]'hil).body (a+u.length+1+s)=v at *
   have sh:∀ (q:Nat) (m:List DIns),(u++zuy :: m)[u.length+1+q]?=m[q]?:=by
     intro q m
     rw [List.getElem?_append_right (by omega),show u.length+1+q-u.length=q+1 by omega,List.getElem?_cons_succ]
   refine ⟨by simpa using h1,by simp only [List.length_append,List.length_cons];omega,fun k hk=>?_,?_,fun h=>by omega,fun h=>?_,fun h=>?_⟩
   · rw [show u.length+1+s+k=u.length+1+(s+k) by omega,sh];exact h3 k hk
   · rw [show u.length+1+s+v.length=u.length+1+(s+v.length) by omega,sh];exact h4
   · rw [List.getElem?_cons_succ];exact h6 (by simpa using h)
   have:=h7 (by simpa using h)
   simp only [List.length_append,List.length_cons];omega
theorem zrE (G L P:List ByteArray) {m:Nat}:∀ (l:List DProc) (a:Nat),(∀ x∈l,∀ b,(emL G L P x.body b).length≤m)→(emP G L P l a).length≤l.length*(m+1)
 | [],_,_=>by rw [emP];simp
 | x :: l,a,h=>by
   have h1:=h x (by simp) a
   have h2:=zrE G L P l (a+(emL G L P x.body a).length+1) fun y hy=>h y (by simp [hy])
   rw [emP,List.length_append,List.length_cons,List.length_cons,Nat.add_mul,Nat.one_mul]
   omega
theorem zk5 {α:Type} {l:List α} {i:Nat} {x d:α} (h:l[i]?=some x):l.getD i d=x:=by rw [List.getD_eq_getElem?_getD,h];rfl
theorem zmm:∀ k,k<4→(prc4.take (1+k)).length≤4∧(prc4.take (1+k)).all zbb=true∧(prc4.take (1+k)).Nodup∧zgd∈prc4.take (1+k)
 | 0,_=>by decide
 | 1,_=>by decide
 | 2,_=>by decide
 | 3,_=>by decide
 | k+4,h=>absurd h (by omega)
theorem code_at {p:DProg} (hp:ProgR p) {i:Nat} (hi:i<p.procs.length):∃ s n:Nat,en (zbB p) i=(s:Int)∧zdl (zbB p) i=((s+n+1:Nat):Int)∧s+n+1≤(zbB p).ins.length ∧
   (∀ k,k<n→InsQ (zbB p).globals (zbB p).locks (zbB p).procs (zap (zbB p) (s+k)) s (s+n))∧zap (zbB p) (s+n)=zuy∧(i=0→s=0):=by
 obtain ⟨s,h1,h2,h3,h4,h5,h6,h7⟩:=ztJ p.globals p.locks (p.procs.map DProc.name) p.procs 0 i hi
 simp only [Nat.zero_add] at h1 h2 h3 h4 h5 h6 h7
 have hb:=hp.b _ (List.getElem_mem hi)
 have hr:=(zwc (G:=p.globals) (L:=p.locks) (P:=p.procs.map DProc.name) (c:=⟨p.globals,p.locks,(p.procs.map DProc.name).drop 1⟩) rfl rfl (fun x hx=>List.mem_of_mem_drop hx) 2).2 p.procs[i].body s hb.1
 generalize emL p.globals p.locks (p.procs.map DProc.name) p.procs[i].body s=u at *
 refine ⟨s,u.length,zk5 h1,?_,h2,fun k hk=>?_,zk5 h4,h5⟩
 · unfold zdl
   have hl:(zbB p).entry.length=p.procs.length:=zih _ _ _ _ _
   split
   · rename_i hh;exact zk5 (h6 (by omega))
   rename_i hh;show ((emP _ _ _ _ _).length:Int)=_;rw [←h7 (by omega)]
 have e:zap (zbB p) (s+k)=u[k]:=zk5 (by
   have:=h3 k hk
   rw [List.getElem?_eq_getElem hk] at this
   exact this)
 rw [e]
 exact (hr.1 _ (List.getElem_mem hk)).mono (Nat.le_refl _) (Nat.le_refl _)
theorem zhE {p:DProg} (hp:ProgR p):CodeR (zbB p)∧(zbB p).ins.length≤436:=by
 obtain ⟨k,hk,hn⟩:=hp.n
 obtain ⟨n1,n2,n3,n4⟩:=zmm k hk
 have hl:(zbB p).entry.length=p.procs.length:=zih _ _ _ _ _
 have hpl:(p.procs.map DProc.name).length=p.procs.length:=List.length_map _
 have hp4:p.procs.length≤4:=by rw [←hpl,hn];exact n1
 have hN:NamesR (zbB p):=by
   refine ⟨?_,?_,?_,?_,?_,?_,?_⟩
   · show (decide ((p.globals.length:Int)≤6)&&p.globals.all zbb)=true
     rcases hp.g with e | e<;>(rw [e];decide)
   · show (decide ((p.locks.length:Int)≤6)&&p.locks.all zbb)=true
     rcases hp.l with e | e | e<;>(rw [e];decide)
   · show (decide (((p.procs.map DProc.name).length:Int)≤8)&&(p.procs.map DProc.name).all zbb)=true
     rw [hn,n2,decide_eq_true (by omega)];rfl
   · show p.globals.Nodup
     rcases hp.g with e | e<;>(rw [e];decide)
   · show p.locks.Nodup
     rcases hp.l with e | e | e<;>(rw [e];decide)
   · show (p.procs.map DProc.name).Nodup
     rw [hn];exact n3
   show zgd∈p.procs.map DProc.name
   rw [hn];exact n4
 have hil:(zbB p).ins.length≤436:=by
   have:=zrE p.globals p.locks (p.procs.map DProc.name) (m:=108) p.procs 0 fun x hx b=>by
     have hb:=hp.b x hx
     have hr:=(zwc (G:=p.globals) (L:=p.locks) (P:=p.procs.map DProc.name) (c:=⟨p.globals,p.locks,(p.procs.map DProc.name).drop 1⟩) rfl rfl (fun x hx=>List.mem_of_mem_drop hx) 2).2 x.body b hb.1
     have:=hb.2
     omega
   show (emP _ _ _ _ _).length≤436
   omega
 have h0:0<p.procs.length:=by
   rw [←hpl,hn];exact List.length_pos_of_mem n4
 have hF:EntF (zbB p):=by
   refine ⟨by rw [hl];exact hpl.symm,by omega,?_,fun i hi=>?_⟩
   · obtain ⟨s,n,e1,_,_,_,_,e0⟩:=code_at hp h0
     rw [e1,e0 rfl];rfl
   obtain ⟨s,n,e1,e2,e3,_,_,_⟩:=code_at hp (i:=i) (by omega)
   rw [e1,e2];omega
 have hpp:0<(zbB p).procs.length:=by show 0<(p.procs.map DProc.name).length;omega
 have hfind:∀ j:Nat,j<(zbB p).ins.length→∃ i s n:Nat,i<p.procs.length∧en (zbB p) i=(s:Int)∧zdl (zbB p) i=((s+n+1:Nat):Int)∧s≤j∧j≤s+n∧zar (zbB p) j=i ∧
     (∀ k,k<n→InsQ (zbB p).globals (zbB p).locks (zbB p).procs (zap (zbB p) (s+k)) s (s+n))∧zap (zbB p) (s+n)=zuy:=by
   intro j hj
   obtain ⟨i,hi,a1,a2,a3⟩:=hF.find hpp (a:=(j:Int)) (by omega) (by omega)
   obtain ⟨s,n,e1,e2,e3,e4,e5,_⟩:=code_at hp (i:=i) (by omega)
   rw [e1] at a1
   rw [e2] at a2
   exact ⟨i,s,n,by omega,e1,e2,by omega,by omega,a3,e4,e5⟩
 have hends:∀ (i:Nat),zen (zbB p) i=zdl (zbB p) i-1:=fun i=>zcV _ i
 refine ⟨⟨hN,⟨hF.len,hF.ins,fun i hi=>⟨fun h=>by subst h;exact hF.zero,fun h=>?_,?_⟩,fun j hj=>?_⟩,fun j hj=>?_⟩,hil⟩
 · have h1:=(hF.lt (i-1) (by omega)).1
   rw [hF.step (by omega),show i-1+1=i by omega] at h1
   exact h1
 · have:=hF.lt i hi;omega
 · obtain ⟨i,s,n,hi,e1,e2,a1,a2,a3,e4,e5⟩:=hfind j hj
   rw [a3,hends,e2]
   constructor
   · intro h9
     by_cases hjn:j=s+n
     · omega
     have:=e4 (j-s) (by omega)
     rw [show s+(j-s)=j by omega] at this
     have:=this.2.1
     omega
   intro h9
   have:j=s+n:=by omega
   rw [this,e5];rfl
 obtain ⟨i,s,n,hi,e1,e2,a1,a2,a3,e4,e5⟩:=hfind j hj
 rw [a3,hends,e2]
 simp only [Int.toNat_natCast]
 rw [e1]
 by_cases hjn:j=s+n
 · rw [hjn,e5]
   have ha:(0:Int)<zbG (zbB p) 9:=by
     unfold zbG
     rw [if_neg (by decide),if_neg (by decide),if_neg (by decide)];decide
   refine ⟨by decide,⟨by decide,ha⟩,by rw [if_neg (by decide)];rfl,by rw [if_neg (by decide)];rfl⟩
 have hq:=e4 (j-s) (by omega)
 rw [show s+(j-s)=j by omega] at hq
 generalize zap (zbB p) j=x at *
 obtain ⟨q1,q2,q3,q4,q5⟩:=hq
 refine ⟨⟨q1,by omega⟩,?_,?_,?_⟩
 · unfold zbG;exact q3
 · split at q4
   · rename_i hh
     rw [if_pos hh]
     refine ⟨q4.1,fun y hy=>?_⟩
     show y∈p.globals
     exact q4.2.1 y hy
   rename_i hh;rw [if_neg hh];exact q4
 split at q5
 · rename_i hh;rw [if_pos hh];omega
 rename_i hh;rw [if_neg hh];exact q5
end Go.Proofs.YtcnglfeoglgebaaGreat
namespace Go.Sh
open Rep (rep)
structure UpG (g lo:Nat) (w w':World):Prop where
 os:w'.os=w.os
 tape:w'.tape=w.tape
 output:w'.output=w.output
 size:w.heap.size≤w'.heap.size
 block:∀ b,b<w.heap.size→b<lo→b≠g→w'.heap[b]?=w.heap[b]?
section
variable {g lo:Nat} {w w' w2:World} {α:Type} [Rep α]
theorem UpG.refl (g lo:Nat) (w:World):UpG g lo w w:=⟨rfl,rfl,rfl,Nat.le_refl _,fun _ _ _ _=>rfl⟩
theorem UpG.trans (h:UpG g lo w w') (k:UpG g lo w' w2):UpG g lo w w2:=
 ⟨k.os.trans h.os,k.tape.trans h.tape,k.output.trans h.output,Nat.le_trans h.size k.size,fun b h1 h2 h3=>(k.block b (Nat.lt_of_lt_of_le h1 h.size) h2 h3).trans (h.block b h1 h2 h3)⟩
theorem UpG.mono {lo2:Nat} (h:UpG g lo w w') (hl:lo2≤lo):UpG g lo2 w w':=⟨h.os,h.tape,h.output,h.size,fun b h1 h2 h3=>h.block b h1 (by omega) h3⟩
theorem Ext.upG (h:Ext w w'):UpG g lo w w':=⟨h.os,h.tape,h.output,h.size,fun b h1 _ _=>h.block b h1⟩
theorem ChgI.upG1 (h:ChgI g (g+1) w w'):UpG g lo w w':=⟨h.os,h.tape,h.output,h.size,fun b h1 _ h3=>h.block b h1 (by omega)⟩
theorem ChgI.upG {a b:Nat} (h:ChgI a b w w') (ha:lo≤a):UpG g lo w w':=⟨h.os,h.tape,h.output,h.size,fun c h1 h2 _=>h.block c h1 (by omega)⟩
theorem Chg.upG {F:List Nat} (h:Chg (g :: F) w w') (hF:∀ c∈F,lo≤c):UpG g lo w w':=⟨h.os,h.tape,h.output,h.size,fun c h1 h2 h3=>h.block c h1 fun hm=>by
 rcases List.mem_cons.1 hm with e | hm
 · exact h3 e
 have:=hF c hm;omega⟩
theorem UpG.toI (h:UpG g lo w w') (hl:w.heap.size≤lo):ChgI g (g+1) w w':=⟨h.os,h.tape,h.output,h.size,fun b h1 h2=>h.block b h1 (by omega) (by omega)⟩
theorem Blk.upG {b e:Nat} {cs:List Value} (h:Blk b e w cs) (hu:UpG g lo w w') (h1:b<lo) (h2:b≠g):Blk b e w' cs:=h.keep (hu.block b h.lt h1 h2)
theorem OwnI.upG {a b:Nat} {v:Value} {x:α} (h:OwnI a b w v x) (hu:UpG g lo w w') (h1:b≤lo) (h2:g<a∨b≤g):OwnI a b w' v x:=by
 obtain ⟨F,hm,hF⟩:=h
 exact ⟨F,hm.keep fun c hc=>hu.block c (hm.lt c hc) (by have:=hF c hc;omega) (by have:=hF c hc;omega),hF⟩
theorem RowI.upG {a b e:Nat} {v:Value} {l:List α} (h:RowI a b e w v l) (hu:UpG g lo w w') (h1:b≤lo) (h2:g<a∨b≤g):RowI a b e w' v l:=by
 obtain ⟨F,hm,hn,hF⟩:=zei.1 h
 exact zei.2 ⟨F,hm.keep fun c hc=>hu.block c (hm.lt c hc) (by have:=hF c hc;omega) (by have:=hF c hc;omega),hn,hF⟩
theorem IsK.upG {a b:Nat} {v:Value} {x:α} (h:IsK a b w v x) (hu:UpG g lo w w') (h1:b≤lo) (h2:g<a∨b≤g):IsK a b w' v x:=
 ⟨Nat.le_trans h.1 hu.size,fun w3 h3=>h.2 w3 fun c h4 h5=>(h3 c h4 h5).trans (hu.block c (Nat.lt_of_lt_of_le h5 h.1) (by omega) (by omega))⟩
theorem zj2 {v:Value} {x:α} (h:OwnI lo lo w v x):Mine [] w v x:=by
 obtain ⟨F,hm,hF⟩:=h
 have:F=[]:=List.eq_nil_iff_forall_not_mem.2 fun c hc=>by have:=hF c hc;omega
 subst this;exact hm
theorem zrF {hi:Nat} {n:ByteArray} {vb:Value} {l:List DStmt} (hn:n.size≤maxLen) (h:OwnI lo hi w vb l):OwnI lo hi w (.agg #[.string n,vb]) (⟨n,l⟩:DProc):=by
 obtain ⟨F,⟨⟨cs,hr,hv⟩,hnd,hw⟩,hF⟩:=h
 obtain ⟨c,rfl⟩:=zdu hr
 simp only [mkv,Rep.agg,cond_false,List.headD_cons] at hv
 subst hv
 exact ⟨F,⟨⟨[.string n,vb],zat (F:=[]) (c1:=[.string n]) (show rep [] w [.string n] n from ⟨rfl,rfl,hn⟩) hr,rfl⟩,hnd,hw⟩,hF⟩
theorem zmn {a b c:Value} {p:DProg} {lo hi l0 h0 l1 h1 l2 h2:Nat} (m0:OwnI l0 h0 w a p.globals) (m1:OwnI l1 h1 w b p.locks) (m2:OwnI l2 h2 w c p.procs) (d01:h0≤l1∨h1≤l0) (d02:h0≤l2∨h2≤l0) (d12:h1≤l2∨h2≤l1)
   (b0:lo≤l0∧h0≤hi) (b1:lo≤l1∧h1≤hi) (b2:lo≤l2∧h2≤hi):OwnI lo hi w (.agg #[a,b,c]) p:=by
 obtain ⟨F0,M0,B0⟩:=m0
 obtain ⟨F1,M1,B1⟩:=m1
 obtain ⟨F2,M2,B2⟩:=m2
 refine ⟨F0++(F1++F2),⟨⟨[a,b,c],zat (zbk rfl M0.own) (zat (zbk rfl M1.own) (zbk rfl M2.own)),rfl⟩,?_,M0.wr.append (M1.wr.append M2.wr)⟩,fun x hx=>?_⟩
 · rw [List.nodup_append,List.nodup_append]
   refine ⟨M0.nodup,⟨M1.nodup,M2.nodup,fun p hp q hq e=>?_⟩,fun p hp q hq e=>?_⟩
   · subst e;have:=B1 p hp;have:=B2 p hq;omega
   subst e
   have:=B0 p hp
   rcases List.mem_append.1 hq with hq | hq
   · have:=B1 p hq;omega
   have:=B2 p hq;omega
 rcases List.mem_append.1 hx with hx | hx
 · have:=B0 x hx;omega
 rcases List.mem_append.1 hx with hx | hx
 · have:=B1 x hx;omega
 have:=B2 x hx;omega
end
end Go.Sh
namespace Go.Proofs.YtcnglfeoglgebaaGreat
open Go Go.Sh Go.Proofs
open Rep (rep)
def F94 (a0 a1:Value) (w:World) (R:VW):Prop:=
 oP (Instr.buildSlice 24 3 #[(0,(Value.string (ByteArray.mk #[97]))),(1,(Value.string (ByteArray.mk #[98]))),(2,(Value.string (ByteArray.mk #[109])))]) w fun x9 w=>
 cL 129 [a0,x9] w fun x10 w=>
 oP (Instr.buildSlice 24 3 #[(0,(Value.string (ByteArray.mk #[97]))),(1,(Value.string (ByteArray.mk #[98]))),(2,(Value.string (ByteArray.mk #[109])))]) w fun x12 w=>
 cL 129 [a0,x12] w fun x13 w=>
 rD (Instr.build 56 #[(0,(iV 6)),(1,x10)]) w fun x15=>
 oP (Instr.buildSlice 29 1 #[(0,x15)]) w fun x16 w=>
 JOIN [7] (fun J6=>
 rB .neq 9 T0 T0 x10 x13 w fun x19=>
 BR x19
 (cL 93 [a0,(iV 2)] w fun x22 w=>
 BR x22
 (rD (Instr.build 56 #[(0,(iV 6)),(1,x13)]) w fun x26=>
 oP (Instr.buildSlice 29 1 #[(0,x26)]) w fun x27 w=>
 oP (Builtin.append_ #[29,29] 29 [x16,x27].toArray) w fun x28 w=>
 J6 [x28] w)
 (J6 [x16] w))
 (J6 [x16] w)) (fun u6 w=>
 oP (Builtin.append_ #[29,29] 29 [(u6 7),a1].toArray) w fun x31 w=>
 rD (Instr.build 56 #[(0,(iV 7)),(1,x10)]) w fun x34=>
 oP (Instr.buildSlice 29 1 #[(0,x34)]) w fun x35 w=>
 oP (Builtin.append_ #[29,29] 29 [x31,x35].toArray) w fun x36 w=>
 R x36 w)
def cfg94:Cfg:=⟨extL,[(6,536739968,[7])],[],[],[],[],[]⟩
theorem F94_call {a0 a1:Value} {w:World} {R:VW} (h:F94 a0 a1 w R):cL 94 [a0,a1] w R:=co (g:=cfg94) Tryz.func94 (by kernel_rfl) (by kernel_rfl) (by kernel_rfl) h
section
variable {w:World} {K:Value→World→Prop}
theorem zrG (k:∀ v w',Ext w w'→OwnI w.heap.size w'.heap.size w' v lks→K v w'):OP Tryz.prog (Instr.buildSlice 24 3 #[(0,(Value.string (ByteArray.mk #[97]))),(1,(Value.string (ByteArray.mk #[98]))),(2,(Value.string (ByteArray.mk #[109])))]) w K:=
 zfu (vs:=lks.map Value.string) (l:=lks) u24 ty9 zb2 (by decide) (by kernel_rfl) rfl (fun w=>zcb (by decide)) k
theorem zvz (k:∀ v w',Ext w w'→OwnI w.heap.size w'.heap.size w' v glb→K v w'):OP Tryz.prog (Instr.buildSlice 24 4 #[(0,(Value.string (ByteArray.mk #[120]))),(1,(Value.string (ByteArray.mk #[121]))),(2,(Value.string (ByteArray.mk #[122]))),(3,(Value.string (ByteArray.mk #[117])))]) w K:=
 zfu (vs:=glb.map Value.string) (l:=glb) u24 ty9 zb2 (by decide) (by kernel_rfl) rfl (fun w=>zcb (by decide)) k
theorem zvA (k:∀ v w',Ext w w'→OwnI w.heap.size w'.heap.size w' v prc4→K v w'):OP Tryz.prog (Instr.buildSlice 24 4 #[(0,(Value.string (ByteArray.mk #[109,97,105,110]))),(1,(Value.string (ByteArray.mk #[112]))),(2,(Value.string (ByteArray.mk #[113]))),(3,(Value.string (ByteArray.mk #[114])))]) w K:=
 zfu (vs:=prc4.map Value.string) (l:=prc4) u24 ty9 zb2 (by decide) (by kernel_rfl) rfl (fun w=>zcb (by decide)) k
end
mutual
theorem zuz:∀ (x:DStmt) (n:Int),0≤n→-1≤zp0 x n∧zp0 x n≤n
  | .mk k s t b e,n,hn=>by
    rw [zp0]
    have h1:=zjc b (n-1) (by omega)
    have h2:=zjc e (zhQ b (n-1)) h1.1
    omega
theorem zjc:∀ (l:List DStmt) (n:Int),-1≤n→-1≤zhQ l n∧zhQ l n≤n
  | [],n,hn=>by rw [zhQ];omega
  | x :: l,n,hn=>by
    rw [zhQ]
    split
    · rename_i h
      have h1:=zuz x n h
      have h2:=zjc l (zp0 x n) h1.1
      omega
    omega
end
theorem zs1 (x:DStmt) (n:Int):zp0 x n=zhQ x.els (zhQ x.body (n-1)):=by cases x;rw [zp0];rfl
def zuA (l:List DStmt):Prop:=∀ {w W:World} {v:Value} {n:Int},Is W v l→Ext W w→-1≤n→n≤1000→CALL Tryz.prog 92 [v,.int .i64 n] w fun r w'=>Ext w w'∧(r=.int .i64 (zhQ l n))
def F92 (a0 a1:Value) (w:World) (R:VW):Prop:=
 LOOPI [1,5] [a1,(iV 0)] w fun u2 w next2=>
 rN 29 3 a0 w fun x8=>
 rC (u2 5) x8 w fun x9=>
 BR x9
 (rB .geq 3 T0 U0 (u2 1) (iV 0) w fun x12=>
 BR x12
 ((fun w=>rX 29 a0 (u2 5) w fun x18=>
 rF 56 x18 4 w fun x19=>
 rL 29 x19 w fun x20=>
 rX 29 a0 (u2 5) w fun x23=>
 rF 56 x23 3 w fun x24=>
 rL 29 x24 w fun x25=>
 rB .sub 3 T0 U0 (u2 1) (iV 1) w fun x27=>
 (fun w_=>cL 92 [x25,x27] w_ fun x28 w=>
 Ext w_ w ∧
 cL 92 [x20,x28] w fun x29 w=>
 rA (u2 5) (iV 1) w fun x15=>
 next2 [x29,x15] w) w) (World.drew1 w))
 (R (u2 1) w))
 (R (u2 1) w)
def cfg92:Cfg:=⟨extL,[],[(2,1073741794,[1,5])],[(4,[0,1,2,3,4,5,6,7,8,9,10,11,12,13,14],4096)],[],[],[]⟩
theorem F92_call {a0 a1:Value} {w:World} {R:VW} (h:F92 a0 a1 w R):cL 92 [a0,a1] w R:=co (g:=cfg92) Tryz.func92 (by kernel_rfl) (by kernel_rfl) (by kernel_rfl) h
theorem ze1 {w:World} {v0:Value} {W0:World} {l:(List DStmt)} {n:Int}  (h0:Is W0 v0 l) (e0:Ext W0 w) (ih:∀ x∈l,zuA x.body∧zuA x.els) (hn0:-1≤n) (hn1:n≤1000) :
   CALL Tryz.prog 92 [v0,.int .i64 n] w fun r w'=>Ext w w'∧(r=.int .i64 (zhQ l n)):=by
 refine F92_call ?_
 unfold F92
 refine zaB (l.length) (fun k us w'=>∃ (n1:Int),us=[.int .i64 n1,.int .i64 (k:Int)]∧Ext w w'∧(zhQ l n=zhQ (l.drop k) n1∧-1≤n1∧n1≤1000∧k≤l.length)) (0) (by omega) ⟨n,rfl,Ext.refl w,by simp,hn0,hn1,by omega⟩ ?_
 rintro k m2 uu2 w1_ hk2 ⟨n1,hu,hx1_,hcl,hm0,hm1,hkl⟩
 obtain ⟨hu0,hu1⟩:=ze4 hu
 try rw [hu0]
 try rw [hu1]
 try clear hu0 hu1
 have hln8:=zah h0
 refine zae u29 h0 ?_
 refine zai ?_
 refine br (fun c1=>?_) (fun c1=>?_)
 · refine zb5 ?_
   refine br (fun c2=>?_) (fun c2=>?_)
   · have hx2_:=zak w1_
     have hk:k<l.length:=by omega
     have hcb:=zjc (l[k]).body (n1-1) (by omega)
     refine zad u29 zc2 h0 (by omega) fun b18 o18 h18=>?_
     refine zaa zdF ?_
     refine zab zfc (zcy h18) (e0.trans (hx1_.trans hx2_)) fun v20 h20=>?_
     refine zad u29 zc2 h0 (by omega) fun b23 o23 h23=>?_
     refine zaa zeg ?_
     refine zab zfc (zcN h23) (e0.trans (hx1_.trans hx2_)) fun v25 h25=>?_
     refine za3 (by unfold I64;omega) ?_
     refine ((ih _ (List.getElem_mem hk)).1 h25 (e0.trans (hx1_.trans hx2_)) (by omega) (by omega)).mono ?_
     rintro _ w3_ ⟨hx3_,rfl⟩
     refine ⟨hx3_,?_⟩
     refine ((ih _ (List.getElem_mem hk)).2 h20 (e0.trans (hx1_.trans (hx2_.trans hx3_))) hcb.1 (by omega)).mono ?_
     rintro _ w4_ ⟨hx4_,rfl⟩
     refine zag (by omega) ?_
     refine ⟨m2-1,by omega,k+1,by omega,_,rfl,(hx1_.trans (hx2_.trans (hx3_.trans hx4_))),?_⟩
     have h2:=zjc (l[k]).els _ hcb.1
     refine ⟨?_,by omega,by omega,by omega⟩
     rw [hcl,List.drop_eq_getElem_cons hk,zhQ,if_pos (by omega),zs1]
   refine ⟨hx1_,?_⟩
   rw [hcl]
   cases h:l.drop k with
   | nil=>rw [zhQ]
   | cons x r=>rw [zhQ,if_neg (by omega)]
 refine ⟨hx1_,?_⟩
 rw [hcl,List.drop_eq_nil_of_le (by omega),zhQ]
theorem znK (l:List DStmt):zuA l:=by
 have h:∀ x:DStmt,zuA x.body∧zuA x.els:=fun x=>by
   refine DStmt.ind (p:=fun x=>zuA x.body∧zuA x.els) (fun t hb he=>⟨?_,?_⟩) x
   · intro w W v n h e h0 h1;exact ze1 h e hb h0 h1
   intro w W v n h e h0 h1;exact ze1 h e he h0 h1
 intro w W v n hv e h0 h1
 exact ze1 hv e (fun x _=>h x) h0 h1
theorem zk6 {W w:World} {g lo1 hi1:Nat} {bs:List UInt8} {s:Cur} {v1:Value} {body:List DStmt} (hC:CurAt W g bs s w) (h1:OwnI lo1 hi1 w v1 body) (hlo:lo1≤w.heap.size) (hhi:hi1≤w.heap.size) (hg1:g<lo1) (hbl:body.length≤1000) :
   CALL Tryz.prog 94 [.pointer (some ⟨g,0,none⟩),v1] w fun r w'=>UpG g lo1 w w'∧CurAt W g bs (zi7 bs body s).2 w'∧RowI lo1 w'.heap.size 56 w' r (zi7 bs body s).1:=by
 have hgl:=hC.lt
 have hl3:((lks.length:Nat):Int)=3:=rfl
 refine F94_call ?_
 unfold F94
 refine zrG fun v9 w1 hx1 o9=>?_
 have hs1:=hx1.size
 refine (zcO (hC.ext hx1) o9 (by omega) (by omega) (by omega) (by decide) (by decide)).mono ?_
 rintro _ w2 ⟨hc2,hC2,rfl,hS10⟩
 have hs2:=hc2.size
 rw [hl3] at hC2
 refine zrG fun v12 w3 hx3 o12=>?_
 have hs3:=hx3.size
 refine (zcO (hC2.ext hx3) o12 (by omega) (by omega) (by omega) (by decide) (by decide)).mono ?_
 rintro _ w4 ⟨hc4,hC4,rfl,hS13⟩
 have hs4:=hc4.size
 rw [hl3] at hC4
 refine zcu (lo:=w4.heap.size) (hi:=w4.heap.size) (Nat.le_refl _) (by unfold I64;omega) hS10 fun v15 o15=>?_
 refine zcL (β:=DStmt) u29 zc2 z56 (by decide) (zj2 o15) fun v16 w5 hx5 r16=>?_
 have hs5:=hx5.size
 have hu5:UpG g lo1 w w5:=(hx1.upG.trans hc2.upG1).trans ((hx3.upG.trans hc4.upG1).trans hx5.upG)
 have h15:=((((h1.ext hx1).chg hc2 (by omega)).ext hx3).chg hc4 (by omega)).ext hx5
 have hC5:=hC4.ext hx5
 obtain ⟨na,hna⟩:∃ x,x=zct bs lks s:=⟨_,rfl⟩
 obtain ⟨nb,hnb⟩:∃ x,x=zct bs lks (zal bs 3 s):=⟨_,rfl⟩
 rw [←hna] at hS10 o15 r16
 rw [←hnb] at hS13
 rw [←hna,←hnb]
 have hg:zi7 bs body s=(if na=nb then (zeH na :: (body++[zdg na]),zal bs 3 (zal bs 3 s)) else if zbg bs 2 (zal bs 3 (zal bs 3 s))=0 then (zeH na :: zeH nb :: (body++[zdg na]),zal bs 2 (zal bs 3 (zal bs 3 s)))
     else (zeH na :: (body++[zdg na]),zal bs 2 (zal bs 3 (zal bs 3 s)))):=by unfold zi7;rw [←hna,←hnb]
 clear hna hnb
 refine JOIN.mk (fun us w'=>∃ v l s',us=[v]∧ChgI g (g+1) w4 w'∧CurAt W g bs s' w'∧RowI w4.heap.size w'.heap.size 56 w' v l∧l.length≤2∧zi7 bs body s=(l++(body++[zdg na]),s')) ?_ ?_
 · refine zkg ?_
   refine br (fun hne=>?_) (fun he=>?_)
   · refine (zfV hC5 (by omega)).mono ?_
     rintro _ w6 ⟨hc6,hC6,rfl⟩
     have hs6:=hc6.size
     have r6:=r16.chg hc6 (by omega)
     refine br (fun h0=>?_) (fun h0=>?_)
     · refine zcu (lo:=w6.heap.size) (hi:=w6.heap.size) (Nat.le_refl _) (by unfold I64;omega) hS13 fun v26 o26=>?_
       refine zcI (α:=DStmt) u29 zc2 z56 ztY (by decide) r6 (by omega) o26 (by omega) (by omega) (by rw [zam];simp) (by simp) fun v28 w7 hc7 r28=>?_
       refine ⟨v28,[zeH na,zeH nb],_,rfl,ChgI.out (hx5.toI.trans hc6) hc7 (by omega),hC6.chg hc7 (by omega) (by omega),r28,by simp,?_⟩
       rw [hg,if_neg hne,if_pos h0];rfl
     refine ⟨v16,[zeH na],_,rfl,hx5.toI.trans hc6,hC6,r6.mono (by omega) (by omega),by simp,?_⟩
     rw [hg,if_neg hne,if_neg h0];rfl
   refine ⟨v16,[zeH na],_,rfl,hx5.toI,hC5,r16,by simp,?_⟩
   rw [hg,if_pos (Decidable.not_not.1 he)];rfl
 rintro u6 w6 ⟨v,l,s',hu,hc6,hC6,r6,hll,hgd⟩
 simp only [List.map_cons,List.map_nil,List.cons.injEq,and_true] at hu
 rw [hu,hgd]
 have hs6:=hc6.size
 have h16:=(((((h1.ext hx1).chg hc2 (by omega)).ext hx3).chg hc4 (by omega))).chg hc6 (by omega)
 refine zhz (α:=DStmt) (lo0:=lo1) u29 zc2 ztY r6 (by omega) h16 (by omega) (by omega) (by omega) (by rw [zam];omega) (by omega) fun v31 w7 hc7 r31=>?_
 have hs7:=hc7.size
 refine zcu (lo:=w7.heap.size) (hi:=w7.heap.size) (Nat.le_refl _) (by unfold I64;omega) hS10 fun v34 o34=>?_
 refine zcI (α:=DStmt) u29 zc2 z56 ztY (by decide) r31 (by omega) o34 (by omega) (by omega) (by rw [zam,List.length_append];omega) (by rw [List.length_append];omega) fun v36 w8 hc8 r36=>?_
 refine ⟨(((hx1.upG.trans hc2.upG1).trans (hx3.upG.trans hc4.upG1)).trans hc6.upG1).trans ((hc7.upG (by omega)).trans (hc8.upG (by omega))),(hC6.chg hc7 (by omega) (by omega)).chg hc8 (by omega) (by omega),?_⟩
 simpa [zdg] using r36
theorem zs2 {P:Program} {X:Nat→Prop} {m:Sem Value} {w:World} {v:Value} {K:Value→Prop} (h:∀ w':World,m.run P w'=.ok v w') (k:K v):RDX P X m w K:=⟨v,fun w' _=>h w',k⟩
theorem zrH (bs:List UInt8) (s:Cur):2≤(zi8 bs s).length∧(zi8 bs s).length≤4:=by
 have:=zry bs s
 unfold zi8
 rw [List.length_take]
 show 2≤min _ 4∧min _ 4≤4
 omega
def zwd (t:DStmt):Prop:=(t.kind=1∧zbb t.name=true∧zaL 6 t.term=true∧t.body=[]∧t.els=[])∨((t.kind=4∨t.kind=5∨t.kind=6∨t.kind=7)∧zbb t.name=true∧t.term=term0∧t.body=[]∧t.els=[]) ∨
 (t.kind=8∧t.name=ByteArray.mk #[]∧t.term=term0∧t.body=[]∧t.els=[])∨(t.kind=2∧t.name=ByteArray.mk #[]∧zaL 6 t.term=true)∨(t.kind=3∧t.name=ByteArray.mk #[]∧zaL 6 t.term=true∧t.els=[])
def zwe (c:Scp):Prop:=(∀ x∈c.gl,zbb x=true)∧(∀ x∈c.lk,zbb x=true)∧∀ x∈c.pr,zbb x=true
theorem StR.one {c:Scp} {n:Nat} {t:DStmt} (hp:zwe c) (h:StR c n t):zwd t:=by
 have h0:St0 c t→zwd t:=fun h=>by
   rcases h with ⟨h1,h2,h3,h4,h5⟩ | ⟨h1,h2,h3,h4,h5⟩ | ⟨h1,h2,h3,h4,h5⟩ | ⟨h1,h2,h3,h4,h5⟩
   · exact .inl ⟨h1,hp.1 _ h2,h3.1,h4,h5⟩
   · exact .inr (.inl ⟨by omega,hp.2.2 _ h2,h3,h4,h5⟩)
   · exact .inr (.inl ⟨by omega,hp.2.1 _ h2,h3,h4,h5⟩)
   exact .inr (.inr (.inl ⟨h1,h2,h3,h4,h5⟩))
 cases n with
 | zero=>exact h0 h.zero
 | succ n=>
   rcases h.succ with h | ⟨h1,h2,h3,h4,h5⟩
   · exact h0 h
   rcases h1 with h1 | ⟨h1,h6⟩
   · exact .inr (.inr (.inr (.inl ⟨h1,h2,h3.1⟩)))
   exact .inr (.inr (.inr (.inr ⟨h1,h2,h3.1,h6⟩)))
theorem ProgR.facts {p:DProg} (hp:ProgR p):p.procs.length≤4∧(∀ x∈p.procs.map DProc.name,zbb x=true)∧(p.procs.map DProc.name).Nodup∧zgd∈p.procs.map DProc.name:=by
 obtain ⟨k,hk,hn⟩:=hp.n
 obtain ⟨n1,n2,n3,n4⟩:=zmm k hk
 rw [←hn] at n1 n2 n3 n4
 rw [List.length_map] at n1
 exact ⟨n1,fun x hx=>List.all_eq_true.1 n2 x hx,n3,n4⟩
theorem ProgR.gn {p:DProg} (hp:ProgR p):∀ x∈p.globals,zbb x=true:=by
 intro x hx
 rcases hp.g with e | e<;>rw [e] at hx
 · exact zk1 hx
 exact zk1 (List.mem_of_mem_take hx)
theorem ProgR.ln {p:DProg} (hp:ProgR p):∀ x∈p.locks,zbb x=true:=by
 intro x hx
 rcases hp.l with e | e | e<;>rw [e] at hx
 · exact zk2 hx
 · exact zk2 (List.mem_of_mem_take hx)
 exact zk2 (List.mem_of_mem_take hx)
end Go.Proofs.YtcnglfeoglgebaaGreat
namespace Go.Sh
open Rep (rep)
instance:RepZ Raw:=⟨⟨.slice none 0 0⟩,[.slice none 0 0],fun _=>⟨rfl,rfl,rfl⟩⟩
abbrev RIns:=RV DIns 84
structure DEm where
 a:Raw
 b:Raw
 c:Raw
 ins:RIns
theorem DEm.ext_iff {x y:DEm}:x=y↔(x.a=y.a∧x.b=y.b∧x.c=y.c∧x.ins=y.ins):=⟨fun h=>by rw [h];exact ⟨rfl,rfl,rfl,rfl⟩,fun h=>by obtain ⟨h0,h1,h2,h3⟩:=h;cases x;cases y;simp only at h0 h1 h2 h3;simp only [h0,h1,h2,h3]⟩
instance:Rep DEm:=Rep.via fun x=>(x.a,x.b,x.c,x.ins)
instance:RepZ DEm:=⟨⟨(RepZ.zv:Raw),(RepZ.zv:Raw),(RepZ.zv:Raw),(RepZ.zv:RIns)⟩,RepZ.zc (Raw×Raw×Raw×RIns),fun w=>RepZ.zr (α:=Raw×Raw×Raw×RIns) w⟩
section
variable {P:Program} {w w':World} {lo hi:Nat}
theorem zg4 {op arg to:Int} {t0 t1 t2 t3:Value} {t:DTerm} (h0:I64 op) (h1:I64 arg) (h2:I64 to) (ht:OwnI lo hi w (.agg #[t0,t1,t2,t3]) t):OwnI lo hi w (.agg #[.int .i64 op,.int .i64 arg,t0,t1,t2,t3,.int .i64 to]) (⟨op,arg,t,to⟩:DIns):=by
 obtain ⟨F,⟨⟨cs,hr,hv⟩,hnd,hw⟩,hF⟩:=ht
 have hcs:cs=[t0,t1,t2,t3]:=by
   simp only [mkv,Rep.agg,cond_true,Value.agg.injEq] at hv
   have:=congrArg Array.toList hv
   simpa using this.symm
 subst hcs
 refine ⟨F,⟨⟨[.int .i64 op,.int .i64 arg,t0,t1,t2,t3,.int .i64 to],?_,rfl⟩,hnd,hw⟩,hF⟩
 have:=zat (F:=[]) (c1:=[.int .i64 op]) (show rep [] w [.int .i64 op] op from ⟨rfl,rfl,h0⟩) (zat (F:=[]) (c1:=[.int .i64 arg]) (show rep [] w [.int .i64 arg] arg from ⟨rfl,rfl,h1⟩) (zat hr (show rep [] w [.int .i64 to] to from ⟨rfl,rfl,h2⟩)))
 simp only [List.nil_append,List.append_nil] at this
 exact this
theorem zjd {α β:Type} [Rep α] [Rep β] {e b o g:Nat} {F G:List Nat} {t by_:Nat} {x:RV β e} {upd:RV β e→α} {w2:World} {v':Value} {l':List β} {G':List Nat} {K:World→Prop} (ht:tyI P t=some (1,by_,false)) (hL:Lens (VH g) (g :: F) w b o G x upd) (hlt:∀ c∈g :: F,c<w.heap.size) (hc:Chg G w w2)
   (hR:RowG G' e w2 v' l') (hN:G'.Nodup) (hs:∀ c∈G',c∈G∨c∉g :: F)
   (k:∀ w3,Chg (b :: G) w w3→(∃ F',OAt F' w3 g 0 (upd ⟨v',l'⟩)∧∀ c∈F',c∈g :: F∨c∈G')→K w3):OPU P (Instr.storeAt t (.pointer (some ⟨b,o,none⟩)) v') w2 K:=by
 obtain ⟨cs,⟨rfl,hrow⟩,hr,hn,hw,hb,hwb⟩:=hL.here
 have hbl:b<w.heap.size:=hlt b (hL.sub b (by simp))
 have hbk:w2.heap[b]?=w.heap[b]?:=hc.block b hbl hb
 have hwb2:∃ c e,w2.heap[b]?=some (.cells c e (0,0)):=by obtain ⟨c,e,h⟩:=hwb;exact ⟨c,e,by rw [hbk];exact h⟩
 have hbG':b∉G':=fun hm=>by
   rcases hs b hm with h | h
   · exact hb h
   exact h (hL.sub b (by simp))
 refine zia ht hwb2 (zaK hr hbk) hrow.one hR.one fun w3 hc3 hr3=>?_
 have hcat:ChgAt b o 1 G w w3:=by
   refine ⟨(hc.mono (by simp +contextual)).trans (hc3.chg.mono (by simp +contextual)),fun c e hcc=>?_⟩
   obtain ⟨c',h1,h2⟩:=hc3.cell c e (by rw [hbk];exact hcc)
   exact ⟨c',h1,h2⟩
 have hkeep:∀ c∈G',w3.heap[c]?=w2.heap[c]?:=fun c hcm=>hc3.chg.block c (hR.lt c hcm) (by simp;exact fun e=>hbG' (e▸hcm))
 obtain ⟨c',e',hc'⟩:=hwb2
 obtain ⟨c'',hc'',_⟩:=hc3.cell c' e' hc'
 obtain ⟨F',h1,h2⟩:=hL.back w3 G' ⟨v',l'⟩ hcat ⟨[v'],⟨rfl,hR.keep hkeep⟩,hr3,hN,(hR.keep hkeep).wr,hbG',c'',e',hc''⟩ hs
 exact k w3 hcat.chg ⟨F',h1,h2⟩
end
end Go.Sh
namespace Go.Proofs.YtcnglfeoglgebaaGreat
open Go Go.Sh Go.Proofs
open Rep (rep)
section
variable {w:World} {lo hi:Nat} {K:Value→Prop}
theorem zpO {a b:Int} (ha:I64 a) (hb:I64 b) (k:∀ v,OwnI lo hi w v (⟨a,0,term0,b⟩:DIns)→K v):RD Tryz.prog (Instr.build 84 #[(0,.int .i64 a),(3,.int .i64 b)]) w K:=
 zaT (cells:=#[.int .i64 a,.int .i64 0,.int .i64 0,.int .i64 0,.string nO,.slice none 0 0,.int .i64 b]) (by kernel_rfl) (k _ (zg4 ha zja hb zeJ))
theorem zje {a:Int} (ha:I64 a) (k:∀ v,OwnI lo hi w v (⟨a,0,term0,0⟩:DIns)→K v):RD Tryz.prog (Instr.build 84 #[(0,.int .i64 a)]) w K:=
 zaT (cells:=#[.int .i64 a,.int .i64 0,.int .i64 0,.int .i64 0,.string nO,.slice none 0 0,.int .i64 0]) (by kernel_rfl) (k _ (zg4 ha zja zja zeJ))
end
section
variable {W w w':World} {g:Nat} {p:DProg} {L:List DIns} {F:List Nat}
end
theorem ze2 (G L P:List ByteArray) (x:DStmt) (a:Nat):emS G L P x a =
   if x.kind=1 then [⟨1,plc x.name G,x.term,0⟩]
   else if x.kind=4 then [⟨4,plc x.name P,term0,0⟩]
   else if x.kind=5 then [⟨5,plc x.name P,term0,0⟩]
   else if x.kind=6 then [⟨6,plc x.name L,term0,0⟩]
   else if x.kind=7 then [⟨7,plc x.name L,term0,0⟩]
   else if x.kind=8 then [⟨8,0,term0,0⟩]
   else if x.kind=3 then ⟨2,0,x.term,((a+1+(emL G L P x.body (a+1)).length+1:Nat):Int)⟩ :: (emL G L P x.body (a+1)++[⟨3,0,term0,(a:Int)⟩])
   else if x.kind=2 then
     (if x.els.length=0 then ⟨2,0,x.term,((a+1+(emL G L P x.body (a+1)).length:Nat):Int)⟩ :: emL G L P x.body (a+1)
     else ⟨2,0,x.term,((a+1+(emL G L P x.body (a+1)).length+1:Nat):Int)⟩ :: (emL G L P x.body (a+1) ++
       (⟨3,0,term0,((a+1+(emL G L P x.body (a+1)).length+1+(emL G L P x.els (a+1+(emL G L P x.body (a+1)).length+1)).length:Nat):Int)⟩ :: emL G L P x.els (a+1+(emL G L P x.body (a+1)).length+1))))
   else []:=by cases x;rw [emS];rfl
section
variable (G L P:List ByteArray)
mutual
theorem zrI:∀ (x:DStmt) (a:Nat),(emS G L P x a).length≤2*szS x
  | .mk k n t b e,a=>by
    have h1:=zhF b (a+1)
    have h2:=zhF e (a+1+(emL G L P b (a+1)).length+1)
    rw [emS,szS]
    repeat' split
    all_goals simp only [List.length_cons,List.length_nil,List.length_append];omega
theorem zhF:∀ (l:List DStmt) (a:Nat),(emL G L P l a).length≤2*szL l
  | [],a=>by rw [emL];simp
  | x :: l,a=>by
    have h1:=zrI x a
    have h2:=zhF l (a+(emS G L P x a).length)
    rw [emL,szL,List.length_append];omega
end
end
theorem zk7 (x:DStmt):szS x=1+szL x.body+szL x.els:=by cases x;rw [szS];rfl
theorem zbL {g:Nat} {F F1:List Nat} {w w1 w2:World} (h:Chg (g :: F) w w1) (k:Chg (g :: F1) w1 w2) (hF:∀ c∈F1,c∈F∨w.heap.size≤c):Chg (g :: F) w w2:=
 ⟨k.os.trans h.os,k.tape.trans h.tape,k.output.trans h.output,Nat.le_trans h.size k.size,fun b hb hn=>(k.block b (Nat.lt_of_lt_of_le hb h.size) fun hm=>by
   simp only [List.mem_cons,not_or] at hn
   rcases List.mem_cons.1 hm with e | hm
   · exact hn.1 e
   rcases hF b hm with h | h
   · exact hn.2 h
   omega).trans (h.block b hb hn)⟩
theorem zuB {W w:World} {b:Nat} {x:DStmt} (h:AtB W w b 0 x):AtB W w b (0+6) x.body:=by
 obtain ⟨F,cs,hr,hc⟩:=h
 have h:AtB W w b 0 x.tup:=⟨F,cs,zdn.1 hr,hc⟩
 exact h.snd.snd.snd.fst
theorem zuC {W w:World} {b:Nat} {x:DStmt} (h:AtB W w b 0 x):AtB W w b (0+7) x.els:=by
 obtain ⟨F,cs,hr,hc⟩:=h
 have h:AtB W w b 0 x.tup:=⟨F,cs,zdn.1 hr,hc⟩
 exact h.snd.snd.snd.snd
def F40 (a0:Value) (w:World) (R:VW):Prop:=
 oP (Instr.alloc 27 true (.tuple #[])) w fun x2 w=>
 oP (Instr.buildSlice 24 4 #[(0,(Value.string (ByteArray.mk #[120]))),(1,(Value.string (ByteArray.mk #[121]))),(2,(Value.string (ByteArray.mk #[122]))),(3,(Value.string (ByteArray.mk #[117])))]) w fun x7 w=>
 oP (Instr.buildSlice 24 3 #[(0,(Value.string (ByteArray.mk #[97]))),(1,(Value.string (ByteArray.mk #[98]))),(2,(Value.string (ByteArray.mk #[109])))]) w fun x8 w=>
 rD (Instr.build 27 #[(0,x7),(1,x8)]) w fun x9=>
 oP (Instr.alloc 27 true (.tuple #[])) w fun x3 w=>
 oS 27 x3 x9 w fun w=>
 oP (Instr.buildSlice 24 4 #[(0,(Value.string (ByteArray.mk #[109,97,105,110]))),(1,(Value.string (ByteArray.mk #[112]))),(2,(Value.string (ByteArray.mk #[113]))),(3,(Value.string (ByteArray.mk #[114])))]) w fun x10 w=>
 cL 51 [a0,(iV 3)] w fun x12 w=>
 rB .add 3 U0 T0 (iV 2) x12 w fun x13=>
 rD (Instr.sliceAt 24 x10 none (some x13) none) w fun x14=>
 LOOPI [5] [(iV 0)] w fun u4 w next4=>
 rN 24 3 x14 w fun x17=>
 rC (u4 5) x17 w fun x18=>
 BR x18
 (cL 91 [a0,(iV 2)] w fun x22 w=>
 cL 91 [a0,(iV 1)] w fun x24 w=>
 oP (Builtin.append_ #[29,29] 29 [x22,x24].toArray) w fun x25 w=>
 JOIN [6] (fun J9=>
 cL 92 [x25,(iV 50)] w fun x27 w=>
 rB .lss 3 T0 U0 x27 (iV 0) w fun x28=>
 BR x28
 (rD (Instr.build 56 #[(0,(iV 8))]) w fun x29=>
 oP (Instr.buildSlice 29 1 #[(0,x29)]) w fun x30 w=>
 J9 [x30] w)
 (J9 [x25] w)) (fun u9 w=>
 JOIN [6] (fun J11=>
 cL 93 [a0,(iV 2)] w fun x32 w=>
 BR x32
 (cL 94 [a0,(u9 6)] w fun x35 w=>
 J11 [x35] w)
 (J11 [(u9 6)] w)) (fun u11 w=>
 JOIN [6] (fun J13=>
 rB .eql 3 T0 U0 (u4 5) (iV 0) w fun x37=>
 BR x37
 (cL 93 [a0,(iV 2)] w fun x40 w=>
 BR x40
 (rX 24 x14 (iV 1) w fun x43=>
 rL 9 x43 w fun x44=>
 rD (Instr.build 56 #[(0,(iV 5)),(1,x44)]) w fun x45=>
 oP (Instr.buildSlice 29 1 #[(0,x45)]) w fun x46 w=>
 oP (Builtin.append_ #[29,29] 29 [x46,(u11 6)].toArray) w fun x48 w=>
 J13 [x48] w)
 (J13 [(u11 6)] w))
 (J13 [(u11 6)] w)) (fun u13 w=>
 (fun w=>XR fun X=>RDX tp X (Instr.fieldAt 27 x3 2) w fun x49=>
 RDX tp X (Instr.loadAt 25 x49) w fun x50=>
 RDX tp X (Instr.indexAt 24 x14 (u4 5)) w fun x53=>
 RDX tp X (Instr.loadAt 9 x53) w fun x54=>
 RDX tp X (Instr.sliceAt 24 x14 (some (iV 1)) none none) w fun x58=>
 (fun w_=>cL 95 [a0,(u13 6),x58] w_ fun x59 w=>
 ExtX X w_ w ∧
 RDX tp X (Instr.build 32 #[(0,x54),(1,x59)]) w fun x60=>
 (fun w_=>oP (Instr.buildSlice 25 1 #[(0,x60)]) w_ fun x61 w=>
 ExtX X w_ w ∧
 (oP (Builtin.append_ #[25,25] 25 [x50,x61].toArray) w fun x62 w=>
 RDX tp X (Instr.fieldAt 27 x3 2) w fun x63=>
 oS 25 x63 x62 w fun w=>
 rA (u4 5) (iV 1) w fun x20=>
 next4 [x20] w)) w) w) (World.drew1 w)))))
 (rL 27 x3 w fun x64=>
 oS 27 x2 x64 w fun w=>
 rD (zax 27 x2) w fun r2=>R r2 w)
def cfg40:Cfg:={ ext:=extL,joins:=[(9,2080374848,[6]),(11,66571993152,[6]),(13,562881233944640,[6])],loops:=[(4,18446744073709518944,[5])],draws:=[(13,[0,1,2,3,4,5,6,7,8,9,10,11,12,13,14,15],5120)],pars:=[],xs:=[13] }
theorem F40_call {a0:Value} {w:World} {R:VW} (h:F40 a0 w R):cL 40 [a0] w R:=co (g:=cfg40) Tryz.func40 (by kernel_rfl) (by kernel_rfl) (by kernel_rfl) h
theorem zpP {w:World} {n:ByteArray} {a:Option Addr} {m c:Nat}:(Instr.build 32 #[(0,.string n),(1,.slice a m c)]).run Tryz.prog w=.ok (.agg #[.string n,.slice a m c]) w:=by
 obtain ⟨v,h1,h2⟩:=zaT (P:=Tryz.prog) (w:=w) (K:=fun v=>v=.agg #[.string n,.slice a m c]) (t:=32) (parts:=#[(0,.string n),(1,.slice a m c)]) (cells:=#[.string n,.slice a m c]) (by kernel_rfl) rfl
 subst h2;exact h1 w (Ext.refl w)
theorem zs3 {X:Nat→Prop} {w:World} {lo hi n cap i:Nat} {a:Option Addr} {l:List ByteArray} {K:Value→Prop} (h:IsK lo hi w (.slice a n cap) l) (hn:n=l.length) (hil:i<l.length) (hX:∀ b,lo≤b→b<hi→¬X b)
   (k:l[i].size≤maxLen→K (.string l[i])):∃ p,(∀ w':World,(Instr.indexAt 24 (.slice a n cap) (.int .i64 (i:Int))).run Tryz.prog w'=.ok p w')∧RDX Tryz.prog X (Instr.loadAt 9 p) w K:=by
 subst hn
 obtain ⟨F,cs,⟨a',cap',Fi,xs,rfl,h1,h2,hc,h4⟩,hv⟩:=h.is
 simp only [mkv,Rep.agg,cond_false,List.headD_cons,Value.slice.injEq] at hv
 obtain ⟨rfl,_,rfl⟩:=hv
 rcases h4 with ⟨rfl,_⟩ | ⟨b,o,rfl,rfl,hr,hb⟩
 · simp at hil
 refine ⟨.pointer (some ⟨b,o+i*1,none⟩),fun w'=>by rw [zbH u24 ty9 (by omega) (by omega)];simp,?_⟩
 have key:∀ w':World,Is w' (.slice (some ⟨b,o,none⟩) l.length cap) l→w'.cell? ⟨b,o+i*1,none⟩=some (.string l[i])∧l[i].size≤maxLen:=by
   intro w' hw
   obtain ⟨F,cs,⟨a',cap',Fi,xs,rfl,h1,h2,hc,h4⟩,hv⟩:=hw
   simp only [mkv,Rep.agg,cond_false,List.headD_cons,Value.slice.injEq] at hv
   obtain ⟨rfl,_,rfl⟩:=hv
   rcases h4 with ⟨rfl,_⟩ | ⟨b2,o2,hbo,rfl,hr,hb⟩
   · simp at hil
   simp only [Option.some.injEq,Addr.mk.injEq,and_true] at hbo
   obtain ⟨rfl,rfl⟩:=hbo
   have e:l=l.take i++(l[i] :: l.drop (i+1)):=by simp
   rw [e] at hc
   obtain ⟨F1,F2,x1,x2,rfl,rfl,c1,c2⟩:=Cells.split hc
   obtain ⟨G,F3,cg,x3,rfl,rfl,⟨_,rfl,hs⟩,_⟩:=c2
   have hx1:x1.length=i:=by rw [Cells.len c1,List.length_take,Nat.min_eq_left (by omega)];exact Nat.mul_one i
   refine ⟨?_,hs⟩
   have:=hr i (.string l[i]) (by rw [List.getElem?_append_right (by omega),hx1];simp)
   simpa using this
 refine ⟨.string l[i],fun w' hx'=>?_,k (key w h.is).2⟩
 have h0:=(key w' (h.2 w' fun c h5 h6=>hx'.block c (Nat.lt_of_lt_of_le h6 h.1) (hX c h5 h6))).1
 rw [Nat.mul_one] at h0
 have hA:=zcl ty9 w'
 simp [Instr.loadAt,Instr.sureAddr,loadVar,hA,h0]
theorem zrJ (bs:List UInt8) (s:Cur):(zaZ bs 2 s).1.length≤4∧(zaZ bs 1 (zaZ bs 2 s).2).1.length≤4∧(zft bs s).1.length≤50∧(zgn bs (zft bs s)).1.length≤53:=by
 refine ⟨zi5 4 0 _,zi5 4 0 _,?_,?_⟩
 · have:=znF bs s;have:=zgm (zft bs s).1;omega
 have:=zrx bs (znF bs s);have:=zgm (zgn bs (zft bs s)).1;omega
theorem zoT {X:Nat→Prop} {w:World} {m:Sem Value} {p:Value} {K:Value→Prop} (h:∀ w':World,m.run Tryz.prog w'=.ok p w') (k:K p):RDX Tryz.prog X m w K:=⟨p,fun w' _=>h w',k⟩
theorem zrK {pr:List ByteArray} (h:1<pr.length):(pr.drop 1).getD 0 nO=pr[1]:=by
 rw [List.getD_eq_getElem?_getD,List.getElem?_drop,List.getElem?_eq_getElem h];rfl
theorem zjv {bs:List UInt8} {pr l:List ByteArray} {k:Nat} {s:Cur} (hk:k<l.length):zbi bs pr (l.drop k) k s =
   (⟨l[k],(zc1 bs pr k s).1⟩ :: (zbi bs pr (l.drop (k+1)) (k+1) (zc1 bs pr k s).2).1,(zbi bs pr (l.drop (k+1)) (k+1) (zc1 bs pr k s).2).2):=by
 rw [List.drop_eq_getElem_cons hk,zbi]
theorem zpQ {W w:World} {g:Nat} {bs:List UInt8} {s:Cur} (hC:CurAt W g bs s w) :
   CALL Tryz.prog 40 [.pointer (some ⟨g,0,none⟩)] w fun r w'=>ChgI g (g+1) w w'∧CurAt W g bs (zek bs s).2 w'∧OwnI w.heap.size w'.heap.size w' r (zek bs s).1:=by
 have hgl:=hC.lt
 refine F40_call ?_
 unfold F40
 refine zbD zvN fun w1 hx1 hB1=>?_
 have hs1:=hx1.size
 have hg1:=hB1.lt
 refine zvz fun v7 w2 hx2 o7=>?_
 have hs2:=hx2.size
 refine zrG fun v8 w3 hx3 o8=>?_
 have hs3:=hx3.size
 have o7:=o7.ext hx3
 obtain ⟨a7,cap7,rfl⟩:=zeI o7
 obtain ⟨a8,cap8,rfl⟩:=zeI o8
 refine zaT (cells:=#[.slice a7 glb.length cap7,.slice a8 lks.length cap8,.slice none 0 0]) (by kernel_rfl) ?_
 refine zbD zvN fun w4 hx4 hB4=>?_
 have hs4:=hx4.size
 have hg4:=hB4.lt
 have o7:=o7.ext hx4
 have o8:=o8.ext hx4
 refine zbR (x:=(⟨glb,lks,[]⟩:DProg)) (lo:=w1.heap.size) (hi:=w3.heap.size) zn2 rfl hB4 rfl (zmn (l0:=w1.heap.size) (h0:=w2.heap.size) (l1:=w2.heap.size) (h1:=w3.heap.size) (l2:=w3.heap.size) (h2:=w3.heap.size) o7 o8 zb9 (by omega) (by omega) (by omega) (by omega) (by omega) (by omega)) fun w5 hc5 hB5=>?_
 have hs5:=hc5.size
 have o7:=o7.chg hc5 (by omega)
 have o8:=o8.chg hc5 (by omega)
 have hx05:Ext w w5:=Ext.chgI (hx1.trans (hx2.trans (hx3.trans hx4))) hc5 (by omega)
 have hB15:=(hB1.ext (hx2.trans (hx3.trans hx4))).chgI hc5 (by omega)
 refine zvA fun v10 w6 hx6 o10=>?_
 have hs6:=hx6.size
 refine (zb3 (hC.ext (hx05.trans hx6)) (by omega)).mono ?_
 rintro _ w7 ⟨hc7,hC7,rfl⟩
 have hs7:=hc7.size
 have o7:=(o7.ext hx6).chg hc7 (by omega)
 have o8:=(o8.ext hx6).chg hc7 (by omega)
 have o10:=o10.chg hc7 (by omega)
 have hB7:=(hB5.ext hx6).chgI hc7 (by omega)
 have hB17:=(hB15.ext hx6).chgI hc7 (by omega)
 have hbx:=zb8 bs (n:=3) (by omega) s
 have hN:=zrH bs s
 refine zc4 (by unfold I64;omega) ?_
 obtain ⟨a10,cap10,rfl⟩:=zeI o10
 have hK10:=o10.isK (by omega)
 obtain ⟨np,hnp⟩:∃ np:Nat,np=2+(zbg bs 3 s).toNat:=⟨_,rfl⟩
 have hnp4:np≤prc4.length:=by show np≤4;omega
 have hprN:zi8 bs s=prc4.take np:=by rw [hnp];rfl
 have hprl:(zi8 bs s).length=np:=by rw [hprN,List.length_take];omega
 have hK:=hK10.take hnp4
 rw [←hprN] at hK
 have hsl:∀ w':World,(Instr.sliceAt 24 (.slice a10 prc4.length cap10) none (some (.int .i64 (2+zbg bs 3 s))) none).run Tryz.prog w'=.ok (.slice a10 np cap10) w':=fun w'=>by
   obtain ⟨a',cap',Fi',xs',hv',q1,q2,_⟩:=zcc o10.is
   simp only [Value.slice.injEq] at hv'
   obtain ⟨rfl,_,rfl⟩:=hv'
   have hb:(Instr.sliceBounds true prc4.length cap10 none (some (.int .i64 (2+zbg bs 3 s))) none).run Tryz.prog w'=.ok (0,np,cap10) w':=by
     have h1:2+zbg bs 3 s≤(cap10:Int):=by omega
     have h2:(0:Int)≤2+zbg bs 3 s:=by omega
     have h3:(2+zbg bs 3 s).toNat=np:=by omega
     simp [Instr.sliceBounds,Instr.sliceBound,asIntOf,h1,h2,h3]
   simp only [Instr.sliceAt,Instr.slice,Sem.run_bind,run_underlying u24,Result.andThen_ok,hb,zaw ty9]
   simp
   exact fun _=>by cases a10<;>simp [Addr.add_mid,Addr.add]
 refine zaQ (fun w' _=>hsl w') ?_
 obtain ⟨L,hL⟩:∃ L,L=zi8 bs s:=⟨_,rfl⟩
 rw [←hL] at hK hN hprl
 have hp0:0<(L.drop 1).length:=by rw [List.length_drop];omega
 have hc07:ChgI g (g+1) w w7:=((hx05.trans hx6).toI).trans hc7
 refine zaB L.length (fun k us w'=>us=[.int .i64 (k:Int)]∧∃ (ps:List DProc) (s1:Cur) (vr:Value) (hi:Nat),k≤L.length∧ps.length=k∧zbi bs (L.drop 1) L 0 (zal bs 3 s)=(ps++(zbi bs (L.drop 1) (L.drop k) k s1).1,(zbi bs (L.drop 1) (L.drop k) k s1).2) ∧
     CurAt W g bs s1 w'∧ChgI g (g+1) w w'∧Blk w3.heap.size 27 w' [.slice a7 glb.length cap7,.slice a8 lks.length cap8,vr]∧OwnI w1.heap.size w2.heap.size w' (.slice a7 glb.length cap7) glb∧OwnI w2.heap.size w3.heap.size w' (.slice a8 lks.length cap8) lks ∧
     IsK w5.heap.size w6.heap.size w' (.slice a10 np cap10) L∧RowI w6.heap.size hi 32 w' vr ps∧w6.heap.size≤hi∧hi≤w'.heap.size∧Blk w.heap.size 27 w' [.slice none 0 0,.slice none 0 0,.slice none 0 0]) 0 (Nat.zero_le _)
     ⟨rfl,[],zal bs 3 s,.slice none 0 0,w6.heap.size,Nat.zero_le _,rfl,by simp,hC7,hc07,hB7,o7,o8,hK,zbE _ _ _ _,Nat.le_refl _,by omega,hB17⟩ ?_
 rintro k m u w8 hkm ⟨hu,ps,s1,vr,hi,hkl,hps,hdr,hC8,hc8,hB8,o7,o8,hK8,r8,hhi0,hhi,hB18⟩
 simp only [List.map_cons,List.map_nil,List.cons.injEq,and_true] at hu
 rw [hu]
 have hs8:=hc8.size
 refine zae u24 hK8.is ?_
 refine zai ?_
 refine br (fun hlt=>?_) (fun hge=>?_)
 · have hk:k<L.length:=by omega
   rw [zjv hk] at hdr
   obtain ⟨q1,q2,q3,q4⟩:=zrJ bs s1
   refine ((znI 2 (by omega)).2 hC8 rfl).mono ?_
   rintro v22 w9 ⟨hc9,hC9,r22⟩
   have hs9:=hc9.size
   refine ((znI 1 (by omega)).2 hC9 rfl).mono ?_
   rintro v24 w10 ⟨hc10,hC10,r24⟩
   have hs10:=hc10.size
   refine zpM (α:=DStmt) u29 zc2 ztY (r22.chg hc10 (by omega)) (by omega) r24.own (by omega) (by omega) (by rw [zam];omega) (by omega) fun v25 w11 hc11 r25=>?_
   have hs11:=hc11.size
   have hC11:=hC10.chg hc11 (by omega) (by omega)
   have hu11:UpG g w8.heap.size w8 w11:=(hc9.upG1.trans hc10.upG1).trans (hc11.upG (by omega))
   refine JOIN.mk (fun us w'=>∃ v,us=[v]∧UpG g w8.heap.size w8 w'∧CurAt W g bs (zft bs s1).2 w'∧OwnI w8.heap.size w'.heap.size w' v (zft bs s1).1) ?_ ?_
   · refine (znK _ r25.is (Ext.refl _) (by omega) (by omega)).mono ?_
     rintro _ w12 ⟨hx12,rfl⟩
     have hs12:=hx12.size
     refine zai ?_
     refine br (fun h0=>?_) (fun h0=>?_)
     · refine zhB (lo:=w12.heap.size) (hi:=w12.heap.size) (Nat.le_refl _) (by unfold I64;omega) fun v29 o29=>?_
       refine zey (α:=DStmt) (lo:=w12.heap.size) (hi:=w12.heap.size) u29 zc2 z56 (by decide) o29 (by omega) fun v30 w13 hx13 o30=>?_
       refine ⟨v30,rfl,(hu11.trans hx12.upG).trans hx13.upG,hC11.ext (hx12.trans hx13),?_⟩
       unfold zft
       rw [if_pos h0]
       exact o30.mono (by omega) (by omega)
     refine ⟨v25,rfl,hu11.trans hx12.upG,hC11.ext hx12,?_⟩
     unfold zft
     rw [if_neg h0]
     exact (r25.ext hx12).own.mono (by omega) (by omega)
   rintro u9 w14 ⟨v14,hu,hu14,hC14,o14⟩
   simp only [List.map_cons,List.map_nil,List.cons.injEq,and_true] at hu
   rw [hu]
   have hs14:=hu14.size
   have hgw:g<w8.heap.size:=by omega
   refine JOIN.mk (fun us w'=>∃ v,us=[v]∧UpG g w8.heap.size w8 w'∧CurAt W g bs (zgn bs (zft bs s1)).2 w'∧OwnI w8.heap.size w'.heap.size w' v (zgn bs (zft bs s1)).1) ?_ ?_
   · refine (zfV hC14 (by omega)).mono ?_
     rintro _ w15 ⟨hc15,hC15,rfl⟩
     have hs15:=hc15.size
     have o15:=o14.chg hc15 (by omega)
     refine br (fun h0=>?_) (fun h0=>?_)
     · refine (zk6 hC15 o15 (by omega) (by omega) hgw (by omega)).mono ?_
       rintro v35 w16 ⟨hu16,hC16,r16⟩
       refine ⟨v35,rfl,(hu14.trans hc15.upG1).trans hu16,?_,?_⟩
       · unfold zgn;rw [if_pos h0];exact hC16
       unfold zgn;rw [if_pos h0];exact r16.own
     refine ⟨v14,rfl,hu14.trans hc15.upG1,?_,?_⟩
     · unfold zgn;rw [if_neg h0];exact hC15
     unfold zgn;rw [if_neg h0];exact o15.mono (Nat.le_refl _) hs15
   rintro u11 w17 ⟨v17,hu,hu17,hC17,o17⟩
   simp only [List.map_cons,List.map_nil,List.cons.injEq,and_true] at hu
   rw [hu]
   have hs17:=hu17.size
   have hK17:=hK8.upG hu17 (by omega) (by omega)
   have hone:1<L.length:=by omega
   refine JOIN.mk (fun us w'=>∃ v,us=[v]∧UpG g w8.heap.size w8 w'∧CurAt W g bs (zh0 bs k ((L.drop 1).getD 0 nO) (zgn bs (zft bs s1))).2 w'∧OwnI w8.heap.size w'.heap.size w' v (zh0 bs k ((L.drop 1).getD 0 nO) (zgn bs (zft bs s1))).1) ?_ ?_
   · refine zaf ?_
     refine br (fun hk0=>?_) (fun hk0=>?_)
     · have hk0':k=0:=by omega
       refine (zfV hC17 (by omega)).mono ?_
       rintro _ w18 ⟨hc18,hC18,rfl⟩
       have hs18:=hc18.size
       have o18:=o17.chg hc18 (by omega)
       have hK18:=hK17.chgF hc18.toC (by simp;omega)
       refine br (fun h0=>?_) (fun h0=>?_)
       · refine zav (l:=L) (i:=1) u24 ty9 hK18.is (by omega) (by show 1<L.length;omega) fun b43 o43 hA43=>?_
         refine zas ty9 hA43 (Ext.refl _) fun hS44=>?_
         refine zcu (lo:=w18.heap.size) (hi:=w18.heap.size) (Nat.le_refl _) (by unfold I64;omega) hS44 fun v45 o45=>?_
         refine zcL (β:=DStmt) u29 zc2 z56 (by decide) (zj2 o45) fun v46 w19 hx19 r46=>?_
         have hs19:=hx19.size
         refine zhz (α:=DStmt) (lo0:=w8.heap.size) u29 zc2 ztY r46 (by omega) (o18.ext hx19) (by omega) (by omega) (by omega) (by rw [zam];simp;omega) (by simp;omega) fun v48 w20 hc20 r48=>?_
         refine ⟨v48,rfl,((hu17.trans hc18.upG1).trans hx19.upG).trans (hc20.upG (by omega)),?_,?_⟩
         · unfold zh0
           rw [if_pos hk0',if_pos h0]
           exact (hC18.ext hx19).chg hc20 (by omega) (by omega)
         unfold zh0
         rw [if_pos hk0',if_pos h0,zrK hone]
         exact r48.own
       refine ⟨v17,rfl,hu17.trans hc18.upG1,?_,?_⟩
       · unfold zh0;rw [if_pos hk0',if_neg h0];exact hC18
       unfold zh0;rw [if_pos hk0',if_neg h0];exact o18.mono (Nat.le_refl _) hs18
     have hk0':¬k=0:=by omega
     refine ⟨v17,rfl,hu17,?_,?_⟩
     · unfold zh0;rw [if_neg hk0'];exact hC17
     unfold zh0;rw [if_neg hk0'];exact o17
   rintro u13 w21 ⟨v21,hu,hu21,hC21,o21⟩
   simp only [List.map_cons,List.map_nil,List.cons.injEq,and_true] at hu
   rw [hu]
   have hs21:=hu21.size
   have hx22:=zak w21
   have hs22:=hx22.size
   generalize World.drew1 w21=w22 at *
   have hu22:UpG g w8.heap.size w8 w22:=hu21.trans hx22.upG
   have hB22:=hB8.upG hu22 (by omega) (by omega)
   have hK22:=hK8.upG hu22 (by omega) (by omega)
   have r22:=r8.upG hu22 (by omega) (by omega)
   have o22:=o21.ext hx22
   have hC22:=hC21.ext hx22
   refine XR.mk (fun c=>c=g∨w8.heap.size≤c) ?_
   have hXK:∀ b,w5.heap.size≤b→b<w6.heap.size→¬(b=g∨w8.heap.size≤b):=fun b h1 h2=>by omega
   refine zb1 zf2 ?_
   refine zcg zr1 (u:=vr) (fun j v hj=>?_) (by omega) ?_
   · have:=hB22.range 2 vr rfl
     match j,hj with
     | 0,hj=>simp at hj;subst hj;simpa using this
     | j+1,hj=>simp at hj
   obtain ⟨p53,hp53,hl53⟩:=zs3 (X:=fun c=>c=g∨w8.heap.size≤c) (K:=fun v=>L[k].size≤maxLen∧v=.string L[k]) hK22 hprl.symm hk hXK fun h=>⟨h,rfl⟩
   refine zoT hp53 ?_
   obtain ⟨v54,hv54,hS54,rfl⟩:=hl53
   refine RDX.mk _ hv54 ?_
   have hd1:∀ w':World,(Instr.sliceAt 24 (.slice a10 np cap10) (some (.int .i64 1)) none none).run Tryz.prog w'=.ok (.slice (if cap10=1 then a10 else a10.map (·.add (1*Rep.size ByteArray))) (np-1) (cap10-1)) w':=fun w'=>by
     obtain ⟨a',cap',Fi',xs',hv',z1,z2,_⟩:=zcc hK22.is
     simp only [Value.slice.injEq] at hv'
     obtain ⟨rfl,_,rfl⟩:=hv'
     have hb:(Instr.sliceBounds true np cap10 (some (.int .i64 1)) none none).run Tryz.prog w'=.ok (1,np,cap10) w':=by
       have h1:(1:Int)≤(np:Int):=by omega
       simp [Instr.sliceBounds,Instr.sliceBound,asIntOf,h1]
     simp [Instr.sliceAt,Instr.slice,run_underlying u24,hb,zaw ty9]
     rfl
   refine zoT hd1 ?_
   have hK1:IsK w5.heap.size w6.heap.size w22 (.slice (if cap10=1 then a10 else a10.map (·.add (1*Rep.size ByteArray))) (np-1) (cap10-1)) (L.drop 1):=by
     have:=IsK.drop (l:=L) (k:=1) (by rw [hprl];exact hK22) (by omega)
     rwa [hprl] at this
   obtain ⟨F,hMF,hF⟩:=o22
   refine (zrC _ hC22 hMF (fun h=>by have:=hF g h;omega) (fun c hc=>by have:=hF c hc;omega) hK1 (by omega) (fun c hc=>by have:=hF c hc;omega) hp0 (by rw [List.length_drop];omega)).mono ?_
   rintro r59 w23 ⟨h59,hc23,hC23,F',hM23,hF'⟩
   rw [h59]
   have hs23:=hc23.size
   refine ⟨hc23.toX fun c hc=>?_,?_⟩
   · rcases List.mem_cons.1 hc with rfl | hc
     · exact .inl rfl
     exact .inr (hF c hc).1
   have hu23:UpG g w8.heap.size w22 w23:=hc23.upG fun c hc=>(hF c hc).1
   have o23:OwnI w8.heap.size w22.heap.size w23 v21 (zc1 bs (L.drop 1) k s1).1:=⟨F',hM23,fun c hc=>⟨(hF c (hF' c hc)).1,hMF.lt c (hF' c hc)⟩⟩
   obtain ⟨a21,c21,rfl⟩:=zeI o23
   refine zs2 (fun w'=>zpP) ?_
   have o60:=zrF hS54 o23
   have hB23:=hB22.upG hu23 (by omega) (by omega)
   have r23:=r22.upG hu23 (by omega) (by omega)
   refine zkm (α:=DProc) u25 zmO z32 zwB (by decide) r23 (by omega) o60 (by omega) (by omega) (by rw [zam];omega) (by omega) (fun v62 w24 hc24 r24'=>?_) fun s' w' hx' h'=>⟨hx'.toX,h'⟩
   have hs24:=hc24.size
   refine zb1 zf2 ?_
   have hB24:=hB23.chgI hc24 (by omega)
   refine zb0 (α:=List DProc) zr1 rfl rfl hB24 (by simp) r24'.own fun w25 hc25 hB25=>?_
   have hs25:=hc25.size
   refine zag (by omega) ?_
   have hu25:UpG g w6.heap.size w8 w24:=((hu22.trans hu23).mono (by omega)).trans (hc24.upG (by omega))
   refine ⟨m-1,by omega,k+1,by omega,rfl,ps++[⟨L[k],(zc1 bs (L.drop 1) k s1).1⟩],(zc1 bs (L.drop 1) k s1).2,v62,w24.heap.size,by omega,by simp [hps],by rw [hdr];simp,?_,?_,hB25,?_,?_,?_,r24'.chg hc25 (by omega),by omega,by omega,?_⟩
   · exact (hC23.chg hc24 (by omega) (by omega)).chg hc25 (by omega) (by omega)
   · have h1:ChgI g (g+1) w w23:=hc8.trans ((hu22.trans hu23).toI (Nat.le_refl _))
     exact ChgI.out (ChgI.out h1 hc24 (by omega)) hc25 (by omega)
   · exact (o7.upG hu25 (by omega) (by omega)).chg hc25 (by omega)
   · exact (o8.upG hu25 (by omega) (by omega)).chg hc25 (by omega)
   · exact (hK8.upG hu25 (Nat.le_refl _) (by omega)).chgF hc25.toC (by simp;omega)
   exact (hB18.upG hu25 (by omega) (by omega)).chgI hc25 (by omega)
 have hk:k=L.length:=by omega
 subst hk
 rw [List.drop_length,zbi] at hdr
 simp only [List.append_nil] at hdr
 have hpe:zek bs s=(⟨glb,lks,ps⟩,s1):=by
   unfold zek
   rw [←hL,hdr]
 rw [hpe]
 refine ziI hB8 zn2 ?_
 have ost:OwnI w1.heap.size w8.heap.size w8 (.agg #[.slice a7 glb.length cap7,.slice a8 lks.length cap8,vr]) (⟨glb,lks,ps⟩:DProg):=
   zmn (l0:=w1.heap.size) (h0:=w2.heap.size) (l1:=w2.heap.size) (h1:=w3.heap.size) (l2:=w6.heap.size) (h2:=hi) o7 o8 r8.own (by omega) (by omega) (by omega) (by omega) (by omega) (by omega)
 refine zbR zn2 rfl hB18 rfl ost fun w9 hc9 hB9=>?_
 have hs9:=hc9.size
 refine zep hB9 zn2 ?_
 exact ⟨ChgI.out hc8 hc9 (Nat.le_refl _),hC8.chg hc9 (by omega) (by omega),(ost.chg hc9 (by omega)).mono (by omega) (by omega)⟩
abbrev Raw5:=Raw×Raw×Raw×Raw×Raw
theorem zmo {w:World} {lo hi:Nat} {a b c d e:Value} (ha:a.oneCell'=true) (hb:b.oneCell'=true) (hc:c.oneCell'=true) (hd:d.oneCell'=true) (he:e.oneCell'=true):OwnI lo hi w (.agg #[a,b,c,d,e]) ((⟨a⟩,⟨b⟩,⟨c⟩,⟨d⟩,⟨e⟩):Raw5):=by
 refine ⟨[],⟨⟨[a,b,c,d,e],?_,rfl⟩,List.nodup_nil,Wr.nil _⟩,by simp⟩
 have r:∀ {v:Value},v.oneCell'=true→rep [] w [v] (⟨v⟩:Raw):=fun h=>⟨rfl,rfl,h⟩
 exact zat (F:=[]) (r ha) (zat (F:=[]) (r hb) (zat (F:=[]) (r hc) (zat (F:=[]) (r hd) (r he))))
theorem zk8 {α:Type} [Rep α] (ha:Rep.agg α=false) {lo hi:Nat} {w:World} {v:Value} {x:α} (h:OwnI lo hi w v x):v.oneCell'=true:=by
 obtain ⟨F,⟨hm,_,_⟩,_⟩:=h
 exact Rep.one (zbk ha hm) v (by simp)
section
variable {W:World} {p:DProg} {gk ge bs x2 l3 h3 l7 h7:Nat} {v14 v18 vp ve:Value} {N:List ByteArray} {E:List Int} {L:List DIns} {Fp Fe Fi:List Nat} {w w':World}
theorem zhG {α:Type} [Rep α] {lo hi:Nat} {v:Value} {x:α} {S:List Nat} (h:OwnI lo hi w v x) (hc:Chg S w w') (hd:∀ c∈S,c<lo∨hi≤c):OwnI lo hi w' v x:=by
 obtain ⟨F,hm,hF⟩:=h
 exact ⟨F,hm.keep fun c hcm=>hc.block c (hm.lt c hcm) fun hs=>by have:=hF c hcm;have:=hd c hs;omega,hF⟩
variable (ho:gk<bs∧ge<bs∧gk≠ge∧x2<bs∧x2≠gk∧x2≠ge∧h3≤bs∧h7≤bs∧(gk<l3∨h3≤gk)∧(gk<l7∨h7≤gk)∧(ge<l3∨h3≤ge)∧(ge<l7∨h7≤ge)∧W.heap.size≤gk∧W.heap.size≤ge)
include ho
end
theorem zs4 {G L P:List ByteArray} {l:List DProc} {k:Nat} (hk:k<l.length) (a:Nat):emP G L P (l.drop k) a=emL G L P l[k].body a++(zuy :: emP G L P (l.drop (k+1)) (a+(emL G L P l[k].body a).length+1)):=by
 rw [List.drop_eq_getElem_cons hk,emP]
theorem zrL {G L P:List ByteArray} {l:List DProc} {k:Nat} (hk:k<l.length) (a:Nat):zml G L P (l.drop k) a=(a:Int) :: zml G L P (l.drop (k+1)) (a+(emL G L P l[k].body a).length+1):=by
 rw [List.drop_eq_getElem_cons hk,zml]
theorem zmp {α:Type} [Rep α] {e:TypeId} {F:List Nat} {w:World} {v:Value} {l:List α} (h:RowG F e w v l) (hn:F.Nodup):Mine F w v l:=⟨h.own,hn,h.wr⟩
def F59 (a0 a1 a2:Value) (w:World) (R:VW):Prop:=
 oP (Instr.box 36 a0) w fun x3 w=>
 oP (Instr.box 46 a1) w fun x4 w=>
 oP (Instr.alloc 46 true (.tuple #[])) w fun x6 w=>
 rL 46 x4 w fun x12=>
 cL 79 [x12] w fun x13 w=>
 oP (Instr.alloc 46 true (.tuple #[])) w fun x7 w=>
 oS 46 x7 x13 w fun w=>
 rF 46 x7 2 w fun x14=>
 rL 44 x14 w fun x15=>
 rX 44 x15 a2 w fun x17=>
 rL 33 x17 w fun x18=>
 rN 33 3 x18 w fun x19=>
 rB .sub 3 T0 U0 x19 (iV 1) w fun x20=>
 rF 46 x7 2 w fun x21=>
 rL 44 x21 w fun x22=>
 rX 44 x22 a2 w fun x24=>
 rL 33 x24 w fun x25=>
 rX 33 x25 x20 w fun x27=>
 rL 3 x27 w fun x28=>
 rF 36 x3 4 w fun x29=>
 rL 34 x29 w fun x30=>
 rX 34 x30 x28 w fun x32=>
 rL 84 x32 w fun x33=>
 oP (Instr.alloc 84 true (.tuple #[])) w fun x10 w=>
 oS 84 x10 x33 w fun w=>
 rA x28 (iV 1) w fun x35=>
 JOIN [11] (fun J30=>
 rF 84 x10 0 w fun x36=>
 rL 3 x36 w fun x37=>
 rB .eql 3 T0 U0 x37 (iV 1) w fun x39=>
 BR x39
 ((fun w=>rF 46 x7 0 w fun x40=>
 rL 33 x40 w fun x41=>
 rF 84 x10 1 w fun x42=>
 rL 3 x42 w fun x43=>
 rF 84 x10 2 w fun x44=>
 rL 53 x44 w fun x45=>
 rF 36 x3 0 w fun x46=>
 rL 24 x46 w fun x47=>
 rF 46 x4 0 w fun x48=>
 rL 33 x48 w fun x49=>
 (fun w_=>cL 127 [x45,x47,x49] w_ fun x50 w=>
 Ext w_ w ∧
 rX 33 x41 x43 w fun x51=>
 oS 3 x51 x50 w fun w=>
 J30 [x35] w) w) (World.drew1 w))
 (rB .eql 3 T0 U0 x37 (iV 2) w fun x53=>
 BR x53
 (rF 84 x10 2 w fun x54=>
 rL 53 x54 w fun x55=>
 rF 36 x3 0 w fun x56=>
 rL 24 x56 w fun x57=>
 rF 46 x4 0 w fun x58=>
 rL 33 x58 w fun x59=>
 cL 127 [x55,x57,x59] w fun x60 w=>
 rB .eql 3 T0 U0 x60 (iV 0) w fun x61=>
 BR x61
 (rF 84 x10 3 w fun x62=>
 rL 3 x62 w fun x63=>
 J30 [x63] w)
 (J30 [x35] w))
 (rB .eql 3 T0 U0 x37 (iV 3) w fun x65=>
 BR x65
 (rF 84 x10 3 w fun x66=>
 rL 3 x66 w fun x67=>
 J30 [x67] w)
 (rB .eql 3 T0 U0 x37 (iV 4) w fun x69=>
 BR x69
 ((fun w=>XR fun X=>RDX tp X (Instr.fieldAt 46 x7 2) w fun x70=>
 RDX tp X (Instr.loadAt 44 x70) w fun x71=>
 RDX tp X (Instr.fieldAt 46 x7 2) w fun x73=>
 RDX tp X (Instr.loadAt 44 x73) w fun x74=>
 RDX tp X (Instr.indexAt 44 x74 a2) w fun x76=>
 RDX tp X (Instr.loadAt 33 x76) w fun x77=>
 RDX tp X (Instr.fieldAt 36 x3 3) w fun x78=>
 RDX tp X (Instr.loadAt 33 x78) w fun x79=>
 RDX tp X (Instr.fieldAt 84 x10 1) w fun x80=>
 RDX tp X (Instr.loadAt 3 x80) w fun x81=>
 RDX tp X (Instr.indexAt 33 x79 x81) w fun x82=>
 RDX tp X (Instr.loadAt 3 x82) w fun x83=>
 (fun w_=>oP (Instr.buildSlice 33 1 #[(0,x83)]) w_ fun x84 w=>
 ExtX X w_ w ∧
 ((fun w_=>oP (Builtin.append_ #[33,33] 33 [x77,x84].toArray) w_ fun x85 w=>
 ExtX X w_ w ∧
 (RDX tp X (Instr.indexAt 44 x71 a2) w fun x86=>
 oS 33 x86 x85 w fun w=>
 rL 46 x7 w fun x87=>
 oS 46 x6 x87 w fun w=>
 rD (zax 46 x6) w fun r6=>R r6 w)) w)) w) (World.drew1 w))
 (rB .eql 3 T0 U0 x37 (iV 5) w fun x89=>
 BR x89
 (rF 46 x7 2 w fun x90=>
 rL 44 x90 w fun x91=>
 rN 44 3 x91 w fun x92=>
 rB .lss 3 T0 U0 x92 (iV 6) w fun x93=>
 BR x93
 ((fun w=>rF 46 x7 2 w fun x94=>
 rL 44 x94 w fun x95=>
 rF 36 x3 3 w fun x96=>
 rL 33 x96 w fun x97=>
 rF 84 x10 1 w fun x98=>
 rL 3 x98 w fun x99=>
 rX 33 x97 x99 w fun x100=>
 rL 3 x100 w fun x101=>
 (fun w_=>oP (Instr.buildSlice 33 1 #[(0,x101)]) w_ fun x102 w=>
 Ext w_ w ∧
 ((fun w_=>oP (Instr.buildSlice 44 1 #[(0,x102)]) w_ fun x103 w=>
 Ext w_ w ∧
 (oP (Builtin.append_ #[44,44] 44 [x95,x103].toArray) w fun x104 w=>
 rF 46 x7 2 w fun x105=>
 oS 44 x105 x104 w fun w=>
 J30 [x35] w)) w)) w) (World.drew1 w))
 (J30 [x35] w))
 (rB .eql 3 T0 U0 x37 (iV 6) w fun x107=>
 BR x107
 (rF 46 x7 1 w fun x108=>
 rL 33 x108 w fun x109=>
 rF 84 x10 1 w fun x110=>
 rL 3 x110 w fun x111=>
 rX 33 x109 x111 w fun x113=>
 oS 3 x113 a2 w fun w=>
 J30 [x35] w)
 (rB .eql 3 T0 U0 x37 (iV 7) w fun x115=>
 BR x115
 (rF 46 x7 1 w fun x116=>
 rL 33 x116 w fun x117=>
 rF 84 x10 1 w fun x118=>
 rL 3 x118 w fun x119=>
 rX 33 x117 x119 w fun x120=>
 rL 3 x120 w fun x121=>
 rB .eql 3 T0 T0 x121 a2 w fun x123=>
 BR x123
 (rF 46 x7 1 w fun x124=>
 rL 33 x124 w fun x125=>
 rF 84 x10 1 w fun x126=>
 rL 3 x126 w fun x127=>
 rX 33 x125 x127 w fun x128=>
 oS 3 x128 (iV (-1)) w fun w=>
 J30 [x35] w)
 (J30 [x35] w))
 (rB .eql 3 T0 U0 x37 (iV 9) w fun x130=>
 BR x130
 ((fun w=>rF 46 x7 2 w fun x131=>
 rL 44 x131 w fun x132=>
 rF 46 x7 2 w fun x134=>
 rL 44 x134 w fun x135=>
 rX 44 x135 a2 w fun x137=>
 rL 33 x137 w fun x138=>
 rD (Instr.sliceAt 33 x138 none (some x20) none) w fun x140=>
 rX 44 x132 a2 w fun x141=>
 oS 33 x141 x140 w fun w=>
 rB .gtr 3 T0 U0 x20 (iV 0) w fun x143=>
 BR x143
 (rF 46 x7 2 w fun x144=>
 rL 44 x144 w fun x145=>
 rX 44 x145 a2 w fun x147=>
 rL 33 x147 w fun x148=>
 rB .sub 3 T0 U0 x20 (iV 1) w fun x150=>
 rX 33 x148 x150 w fun x151=>
 rL 3 x151 w fun x152=>
 rA x152 (iV 1) w fun x153=>
 rX 33 x148 x150 w fun x154=>
 oS 3 x154 x153 w fun w=>
 rL 46 x7 w fun x155=>
 oS 46 x6 x155 w fun w=>
 rD (zax 46 x6) w fun r6=>R r6 w)
 (rL 46 x7 w fun x155=>
 oS 46 x6 x155 w fun w=>
 rD (zax 46 x6) w fun r6=>R r6 w)) (World.drew1 w))
 (J30 [x35] w))))))))) (fun u30 w=>
 rF 46 x7 2 w fun x156=>
 rL 44 x156 w fun x157=>
 rX 44 x157 a2 w fun x159=>
 rL 33 x159 w fun x160=>
 rX 33 x160 x20 w fun x163=>
 oS 3 x163 (u30 11) w fun w=>
 rL 46 x7 w fun x164=>
 oS 46 x6 x164 w fun w=>
 rD (zax 46 x6) w fun r6=>R r6 w)
def cfg59:Cfg:={ ext:=extL,joins:=[(30,91343852333181432387730302044767688659776309248,[11])],loops:=[],draws:=[(8,[0,1,2,3,4,5,6,7,8,9,10,11,12],1024),(15,[0,1,2,3,4,5,6,7,8,9,10,11,12,13,14,15,16,17],49152),(19,[0,1,2,3,4,5,6,7,8,9,10,11,12],768),(26,[0,1,2,3,4,5,6,7,8,9,10,11],0)],pars:=[],xs:=[15] }
theorem F59_call {a0 a1 a2:Value} {w:World} {R:VW} (h:F59 a0 a1 a2 w R):cL 59 [a0,a1,a2] w R:=co (g:=cfg59) Tryz.func59 (by kernel_rfl) (by kernel_rfl) (by kernel_rfl) h
theorem zuD {P:Program} {w:World} {t e:TypeId} {by_:Nat} {u:Value} {l:List Int} {G:List Nat} {k:Nat} {K:Value→Prop} (ht:P.underlying t=some (.slice e)) (he:tyI P e=some (1,by_,false)) (hm:Mine G w u l) (hk:k≤l.length) (hne:l≠[])
   (kk:∀ b a cap v G',u=.slice (some ⟨b,a,none⟩) l.length cap→Mine G' w v (l.take k)→(∀ c∈G',c∈G)→(0<k→v=.slice (some ⟨b,a,none⟩) k cap)→K v):RD P (Instr.sliceAt t u none (some (.int .i64 (k:Int))) none) w K:=by
 obtain ⟨⟨cs,⟨a,cap,Fi,xs,rfl,h1,h2,hc,h4⟩,rfl⟩,hn,hw⟩:=hm
 rcases h4 with ⟨h4,_⟩ | ⟨b,o,rfl,rfl,hr,hb⟩
 · exact absurd h4 hne
 have hFi:=Cells.flat (xs:=xs) hc
 subst hFi
 have hbd:∀ w',(Instr.sliceBounds true l.length cap none (some (.int .i64 (k:Int))) none).run P w'=.ok (0,k,cap) w':=fun w'=>by
   have h5:(k:Int)≤(cap:Int):=by omega
   simp [Instr.sliceBounds,Instr.sliceBound,asIntOf,h5]
   intro h6
   omega
 have e0:l=l.take k++l.drop k:=by simp
 have hc':=hc
 rw [e0] at hc'
 obtain ⟨F1,F2,x1,x2,hFF,rfl,c1,c2⟩:=Cells.split hc'
 obtain ⟨rfl,rfl⟩:=List.append_eq_nil_iff.1 hFF.symm
 have hlk:(l.take k).length=k:=by simp;omega
 have hval:∃ v:Value,(∀ w',(Instr.sliceAt t (.slice (some ⟨b,o,none⟩) l.length cap) none (some (.int .i64 (k:Int))) none).run P w'=.ok v w')∧v=.slice (some ⟨b,o,none⟩) k cap:=by
   refine ⟨_,fun w'=>?_,rfl⟩
   simp only [Instr.sliceAt,Instr.slice,Sem.run_bind,run_underlying ht,Result.andThen_ok,hbd,zaw he]
   simp [Addr.add_mid]
 obtain ⟨v,hrun,rfl⟩:=hval
 refine zaQ (fun w' _=>hrun w') ?_
 by_cases h0:k=0
 · subst h0
   refine kk b o cap _ [] rfl ?_ (by simp) (fun h=>by omega)
   have:l.take 0=[]:=by simp
   rw [this]
   exact ⟨⟨_,⟨some ⟨b,o,none⟩,cap,[],[],rfl,Nat.zero_le _,h2,⟨rfl,rfl⟩,.inl ⟨rfl,rfl⟩⟩,rfl⟩,List.nodup_nil,Wr.nil w⟩
 refine kk b o cap _ [b] rfl ?_ (by simp) (fun _=>rfl)
 refine ⟨⟨_,⟨some ⟨b,o,none⟩,cap,[],x1,rfl,by rw [hlk];omega,h2,c1,.inr ⟨b,o,rfl,rfl,(zau hr).1,hb⟩⟩,by rw [hlk];rfl⟩,by simp,hw.sub (by simp)⟩
theorem zpR {w W0 W1:World} {v0 v1:Value} {c:DCode} {s:DState} {t:Int} (h0:Is W0 v0 c) (e0:Ext W0 w) (h1:Is W1 v1 s) (e1:Ext W1 w) (hc:CodeR c) (hs:zbQ c s) (hgo:GoR c s t) :
   CALL Tryz.prog 59 [v0,v1,.int .i64 t] w fun r w'=>Ext w w'∧Own w.heap.size w' r (zec c s t):=by
 obtain ⟨tn,rfl,htn,hne,hl8,hat⟩:=zky hs hgo.1
 have hatlt:=zm4 hs tn
 have hat0:0≤zeb s tn:=hgo.1
 have hpos:=List.length_pos_iff.2 hne
 refine F59_call ?_
 unfold F59
 refine zcz h0 e0 fun w1 hx1 hA1=>?_
 refine zcz h1 (e1.trans hx1) fun w2 hx2 hA2=>?_
 refine zbD zpX fun w3 hx3 hB3=>?_
 have hg3:=hB3.lt
 have hs1:=hx1.size
 have hs2:=hx2.size
 refine zab zck hA2 hx3 fun v12 h12=>?_
 refine (zpf h12 hx3 (zqD hc hs)).mono ?_
 rintro r13 w4 ⟨hx4,z,o13,hz⟩
 have hs4:=hx4.size
 refine zcB (α:=DStV) zpX fun w5 hx5 hv5=>?_
 have hs5:=hx5.size
 have hg5:=hv5.lt
 refine zaF zck hv5 (o13.ext hx5) (by omega) fun w6 hc6 hv6=>?_
 have hs6:=hc6.size
 have hx36:Ext w3 w6:=Ext.chgI (hx4.trans hx5) hc6 (by omega)
 have hzl:z.stacks.l.map RV.l=s.stacks:=congrArg DState.stacks hz
 have hzn:tn<z.stacks.l.length:=by have:=congrArg List.length hzl;simp at this;omega
 refine zaa za6 ?_
 refine zab (α:=RIntss) zes (zd4 hv6.at) (Ext.refl w6) fun v15 k15=>?_
 obtain ⟨rfl,h15⟩:=zm7 k15
 refine zad (α:=RInts) u44 za1 h15 hzn fun b17 o17 hA17=>?_
 refine zab (α:=RInts) za1 hA17 (Ext.refl w6) fun v18 k18=>?_
 obtain ⟨rfl,h18⟩:=zm7 k18
 obtain ⟨x,hx⟩:∃ x,x=z.stacks.l[tn]:=⟨_,rfl⟩
 have hxl:x.l=stk s tn:=by
   have e1:(z.stacks.l.map RV.l)[tn]?=s.stacks[tn]?:=by rw [hzl]
   rw [List.getElem?_map,List.getElem?_eq_getElem hzn,List.getElem?_eq_getElem htn] at e1
   have e2:=Option.some.inj e1
   rw [hx,e2]
   exact zeo (t:=(tn:Int)) (by simpa using htn)
 rw [←hx] at h18 ⊢
 refine zae u33 h18 ?_
 refine za3 (by unfold I64;rw [hxl];omega) ?_
 obtain ⟨top,htop⟩:∃ top:Nat,(x.l.length:Int)-1=top:=⟨x.l.length-1,by rw [hxl];omega⟩
 have htl:top<x.l.length:=by omega
 rw [htop]
 have hx7:=Ext.refl w6
 have hs7:=hx7.size
 have hx16:Ext w1 w6:=hx2.trans (hx3.trans hx36)
 have hx26:Ext w2 w6:=hx3.trans hx36
 refine zaa za6 ?_
 refine zh9 zes (zd4 hv6.at) (Ext.refl w6) ?_
 refine zad (α:=RInts) u44 za1 h15 hzn fun b24 o24 hA24=>?_
 rw [←hx] at hA24
 refine zh9 za1 hA24 (Ext.refl w6) ?_
 refine zad u33 ty3 h18 htl fun b26 o26 hA26=>?_
 have hget:x.l[top]=zeb s tn:=by
   rw [zod,hat,hxl]
   congr 1
   rw [hxl] at htop;omega
 rw [hget] at hA26
 refine zac ty3 hA26 hx7 fun hI27=>?_
 refine zaa zaG ?_
 refine zab zdi (zao hA1) hx16 fun v23 h23=>?_
 refine zav u34 zdY h23 hgo.1 (by omega) fun b28 o28 hA28=>?_
 rw [zaP] at hA28
 refine zab zdY hA28 hx16 fun v29 h29=>?_
 refine zcA zr2 rfl zdY rfl h29 hx16 fun w8 hx8 hA10 hV10=>?_
 have hs8:=hx8.size
 have hins:=hc.f.ins
 refine zc4 (by unfold I64;omega) ?_
 have hR:=zgK hc hs hgo.1
 obtain ⟨I,hI⟩:∃ I,I=atI c s tn:=⟨_,rfl⟩
 have hA10:At w8 w6.heap.size 0 I:=by rw [hI];exact hA10
 have hx68:=hx7.trans hx8
 have hv8:VarI w3.heap.size w8.heap.size w8 w4.heap.size z:=(hv6.ext hx68).mono (Nat.le_refl _) (by omega)
 have hx38:Ext w3 w8:=hx36.trans hx68
 have hres:∀ (zz:DState) (w9:World),Ext w3 w9→VarI w3.heap.size w9.heap.size w9 w4.heap.size zz→zz=zec c s tn →
     RD Tryz.prog (Instr.loadAt 46 (.pointer (some ⟨w4.heap.size,0,none⟩))) w9 fun x148=>OPU Tryz.prog (Instr.storeAt 46 (.pointer (some ⟨w2.heap.size,0,none⟩)) x148) w9 fun w'=>
       RD Tryz.prog (zax 46 (.pointer (some ⟨w2.heap.size,0,none⟩))) w' fun r6=>Ext w w'∧Own w.heap.size w' r6 (zec c s tn):=by
   intro zz w9 hx9 hv9 he
   have hs9:=hx9.size
   refine zce zck hv9 (Ext.refl w9) fun v148 o148=>?_
   obtain ⟨a,b,c',rfl⟩:=zvg o148
   refine zbR (α:=DState) zck rfl (hB3.ext hx9) rfl o148 fun w10 hc10 hB10=>?_
   refine zep hB10 zck ?_
   refine ⟨Ext.chgI (hx1.trans (hx2.trans (hx3.trans hx9))) hc10 (by omega),?_⟩
   have:=o148.chg hc10 (by omega)
   rw [he] at this
   exact this.own.mono (by omega)
 refine JOIN.mk (fun us w'=>us=[.int .i64 (zcE c s tn)]∧Ext w3 w'∧∃ z':DStV,VarI w3.heap.size w'.heap.size w' w4.heap.size z'∧z'.vars=(zaV c s tn).vars∧z'.owner=(zaV c s tn).owner∧z'.stacks.l.map RV.l=(zaV c s tn).stacks∧z'.stacks.l[tn]?=some x∧(I.op≠4∧I.op≠9)) ?_ ?_
 · refine zaa zbx ?_
   refine zac ty3 (zaC hA10) (Ext.refl w8) fun _=>?_
   have hzv:z.vars=s.vars:=congrArg DState.vars hz
   have hzo:z.owner=s.owner:=congrArg DState.owner hz
   have hzx:z.stacks.l[tn]?=some x:=by rw [List.getElem?_eq_getElem hzn,hx]
   have same:∀ w9,Ext w8 w9→(I.op≠1∧I.op≠4∧I.op≠5∧I.op≠6∧I.op≠7∧I.op≠9)→∃ z':DStV,VarI w3.heap.size w9.heap.size w9 w4.heap.size z'∧z'.vars=(zaV c s tn).vars∧z'.owner=(zaV c s tn).owner∧z'.stacks.l.map RV.l=(zaV c s tn).stacks∧z'.stacks.l[tn]?=some x∧(I.op≠4∧I.op≠9):=by
     rintro w9 hx9 ⟨q1,q4,q5,q6,q7,q9⟩
     have he:zaV c s tn=s:=by unfold zaV;rw [←hI,if_neg q1,if_neg q5,if_neg q6,if_neg q7]
     rw [he]
     exact ⟨z,(hv8.ext hx9).mono (Nat.le_refl _) hx9.size,hzv,hzo,hzl,hzx,q4,q9⟩
   have hnext:I.op≠2→I.op≠3→zcE c s tn=zeb s tn+1:=fun q2 q3=>by unfold zcE;rw [←hI,if_neg q2,if_neg q3]
   refine zaf ?_
   refine br (fun q1=>?_) (fun q1=>?_)
   · have hx9:=zak w8
     have hs9:=hx9.size
     have hg8:=hv8.lt
     obtain ⟨har0,har1⟩:=zqF hc hs hat0 (hI▸q1)
     rw [←hI] at har0 har1
     obtain ⟨ar,har⟩:∃ ar:Nat,I.arg=ar:=⟨I.arg.toNat,by omega⟩
     have har2:ar<z.vars.length:=by rw [hzv];omega
     obtain ⟨u,b,a,cap,hr,hIs,hu,hst⟩:=zok (hv8.ext hx9) (by omega) har2
     refine zaa zf3 ?_
     refine za2 za1 hr ?_
     refine zaa zby ?_
     refine zac ty3 (zaD hA10) hx9 fun _=>?_
     refine zaa zdZ ?_
     refine zab zcd (zbz hA10) hx9 fun v54 h54=>?_
     refine zaa zc5 ?_
     refine zab zcQ (za9 hA1) (hx16.trans (hx68.trans hx9)) fun v56 h56=>?_
     refine zaa zf3 ?_
     refine zab za1 (zcn hA2) (hx26.trans (hx68.trans hx9)) fun v58 h58=>?_
     have hok:zaL 6 I.term=true:=by
       have:=hR.2.2.1
       rw [←hI,if_pos (.inl q1)] at this
       exact this.1
     refine (zgN h54 hx9 h56 (hx16.trans (hx68.trans hx9)) h58 (hx26.trans (hx68.trans hx9)) hok).mono ?_
     rintro _ w10 ⟨hx10,rfl⟩
     refine ⟨hx10,?_⟩
     have hs10:=hx10.size
     rw [har]
     refine zcf u33 ty3 hu har2 ?_
     have hwr:=zcJ c.globals s.vars 6 I.term
     refine hst w10 hx10 _ (by unfold I64;omega) _ fun w11 hc11 hv11=>?_
     have hs11:=hc11.size
     have hrest:zaV c s tn=⟨s.vars.set I.arg.toNat (workT c.globals s.vars 6 I.term),s.owner,s.stacks⟩:=by unfold zaV;rw [←hI,if_pos q1]
     refine ⟨by rw [hnext (by omega) (by omega)],Ext.chgI ((hx38.trans hx9).trans hx10) hc11 (by omega),_,hv11.mono (Nat.le_refl _) (by omega),?_,?_,?_,hzx,by omega,by omega⟩
     · rw [hrest,hzv,har];rfl
     · rw [hrest];exact hzo
     rw [hrest];exact hzl
   refine zaf ?_
   refine br (fun q2=>?_) (fun q2=>?_)
   · refine zaa zdZ ?_
     refine zab zcd (zbz hA10) (Ext.refl w8) fun v54 h54=>?_
     refine zaa zc5 ?_
     refine zab zcQ (za9 hA1) (hx16.trans hx68) fun v56 h56=>?_
     refine zaa zf3 ?_
     refine zab za1 (zcn hA2) (hx26.trans hx68) fun v58 h58=>?_
     have hok:zaL 6 I.term=true:=by
       have:=hR.2.2.1
       rw [←hI,if_pos (.inr q2)] at this
       exact this.1
     refine (zgN h54 (Ext.refl w8) h56 (hx16.trans hx68) h58 (hx26.trans hx68) hok).mono ?_
     rintro _ w9 ⟨hx9,rfl⟩
     refine zaf ?_
     refine br (fun q=>?_) (fun q=>?_)
     · refine zaa zd0 ?_
       refine zac ty3 (zbI hA10) hx9 fun _=>?_
       exact ⟨by unfold zcE;rw [←hI,if_pos q2,if_pos q],hx38.trans hx9,same w9 hx9 (by omega)⟩
     exact ⟨by unfold zcE;rw [←hI,if_pos q2,if_neg q],hx38.trans hx9,same w9 hx9 (by omega)⟩
   refine zaf ?_
   refine br (fun q3=>?_) (fun q3=>?_)
   · refine zaa zd0 ?_
     refine zac ty3 (zbI hA10) (Ext.refl w8) fun _=>?_
     exact ⟨by unfold zcE;rw [←hI,if_neg q2,if_pos q3],hx38,same w8 (Ext.refl w8) (by omega)⟩
   have hn:=hnext q2 q3
   refine zaf ?_
   refine br (fun q4=>?_) (fun q4=>?_)
   · have hx9:=zak w8
     have hs9:=hx9.size
     have hg8:=hv8.lt
     obtain ⟨har0,har1⟩:=zfH hc hs hat0 (.inl (hI▸q4))
     rw [←hI] at har0 har1
     obtain ⟨ar,har⟩:∃ ar:Nat,I.arg=ar:=⟨I.arg.toNat,by omega⟩
     obtain ⟨F,hO,hF⟩:=hv6.ext (hx68.trans hx9)
     have hlt:=hO.lts
     obtain ⟨G1,hL1⟩:=zcp (Lens.var hO)
     obtain ⟨b2,a2,cap2,G2,hv2,hG21,hL2⟩:=hL1.elemV hzn
     rw [←hx] at hL2
     obtain ⟨cs1,⟨rfl,_⟩,hr1,_,_,hg1,_⟩:=hL1.here
     obtain ⟨cs,⟨rfl,hrow⟩,hr2,hnG,_,hb2,_⟩:=hL2.here
     have hG2F:∀ c∈G2,c∈F:=fun c hcm=>by
       rcases List.mem_cons.1 (hL2.sub c (by simp [hcm])) with rfl | h
       · exact absurd (hG21 _ (by simp [hcm])) hg1
       exact h
     have hGb:∀ c∈G2,w3.heap.size≤c∧c<w4.heap.size:=fun c hcm=>hF c (hG2F c hcm)
     have hX3:∀ c,c∈G2→w3.heap.size≤c:=fun c hcm=>(hGb c hcm).1
     have hx39:=hx38.trans hx9
     refine XR.mk (fun c=>c∈G2) ?_
     refine zb1 za6 ?_
     refine zcg zes hr1 (fun h=>by have:=hGb _ h;omega) ?_
     refine zb1 za6 ?_
     refine zcg zes hr1 (fun h=>by have:=hGb _ h;omega) ?_
     refine zcX (w0:=w3) hX3 hx39 ?_
     refine zcf u44 za1 hv2 hzn ?_
     refine zcg za1 hr2 hb2 ?_
     refine zb1 za5 ?_
     refine zcX (w0:=w3) hX3 hx39 ?_
     refine zab za1 (zan hA1) (hx2.trans hx3) fun v74 h74=>?_
     refine zb1 zby ?_
     refine zcg ty3 (za7 (zqA (zaD hA10)) hx9) (fun h=>by have:=hGb _ h;omega) ?_
     rw [har]
     refine zcX (w0:=w3) hX3 hx39 ?_
     refine zad u33 ty3 h74 (by omega) fun b77 o77 hA77=>?_
     rw [zbm] at hA77
     refine zcX (w0:=w3) hX3 hx39 ?_
     refine zac ty3 hA77 (hx2.trans hx3) fun hI78=>?_
     refine zdK (β:=Int) (G:=G2) u33 ty3 z3 zc3 (by decide) hrow hnG (zbp hI78) (by simp) (by rw [zam,hxl];omega) (by rw [hxl];omega) (fun w10 v80 w11 G' hx10 hc11 hR11 hN11 hs11=>?_) fun sv w10 hx10 hop=>⟨hx10.toX,hop⟩
     refine ⟨hc11.toX (fun c h=>h),?_⟩
     have hs10:=hx10.size
     have hs11':=hc11.size
     have hc911:Chg G2 (World.drew1 w8) w11:=(hx10.chg G2).trans hc11
     have hx311:Ext w3 w11:=Ext.chgI hx39 (hc911.toI (lo:=w3.heap.size) (hi:=w4.heap.size) hGb) (Nat.le_refl _)
     refine zcX (w0:=w3) hX3 hx311 ?_
     refine zcf u44 za1 hv2 hzn ?_
     refine zfG za1 hL2 hlt hc911 hR11 hN11 (fun c hcm=>?_) fun w12 hc12 ⟨F',hO',hF'⟩=>?_
     · rcases hs11 c hcm with h | h | h
       · exact .inl h
       · simp at h
       exact .inr h
     have hs12:=hc12.size
     have hcI:ChgI w3.heap.size w8.heap.size (World.drew1 w8) w12:=hc12.toI fun c hcm=>by
       have:=hL2.sub c hcm
       rcases List.mem_cons.1 this with rfl | h
       · exact ⟨by omega,hg8⟩
       have:=hF c h;omega
     refine hres _ w12 (Ext.chgI hx39 hcI (Nat.le_refl _)) (zkz ⟨F',hO',fun c hcm=>?_⟩) ?_
     · have h1:=hO'.lts c (by simp [hcm])
       rcases hF' c hcm with h | h
       · rcases List.mem_cons.1 h with rfl | h
         · obtain ⟨_,_,_,_,_,hnn,_⟩:=hO';exact absurd hcm hnn
         have:=hF c h;omega
       omega
     unfold zec DStV.er
     have e1:((tn:Int)).toNat=tn:=by omega
     rw [←hI,if_pos q4]
     simp only [DState.mk.injEq,hzv,hzo,true_and]
     rw [List.map_set,hzl,hxl,e1,har,Int.toNat_natCast]
   refine zaf ?_
   refine br (fun q5=>?_) (fun q5=>?_)
   · have hg8:=hv8.lt
     obtain ⟨har0,har1⟩:=zfH hc hs hat0 (.inr (hI▸q5))
     rw [←hI] at har0 har1
     obtain ⟨ar,har⟩:∃ ar:Nat,I.arg=ar:=⟨I.arg.toNat,by omega⟩
     have hzlen:z.stacks.l.length=s.stacks.length:=by have:=congrArg List.length hzl;simpa using this
     refine zaa za6 ?_
     refine zab (α:=RIntss) zes (zd4 hv8.at) (Ext.refl w8) fun v86 k86=>?_
     obtain ⟨rfl,h86⟩:=zm7 k86
     refine zae u44 h86 ?_
     rw [hzlen]
     refine zai ?_
     refine br (fun qq=>?_) (fun qq=>?_)
     · have hx9:=zak w8
       have hs9:=hx9.size
       obtain ⟨F,hO,hF⟩:=hv8.ext hx9
       have hlt:=hO.lts
       obtain ⟨G1,hL1⟩:=zcp (Lens.var hO)
       refine zaa za6 ?_
       refine zh9 zes (zd4 hv8.at) hx9 ?_
       refine zaa za5 ?_
       refine zab za1 (zan hA1) (hx16.trans (hx68.trans hx9)) fun v92 h92=>?_
       refine zaa zby ?_
       refine zac ty3 (zaD hA10) hx9 fun _=>?_
       rw [har]
       refine zad u33 ty3 h92 (by omega) fun b95 o95 hA95=>?_
       rw [zbm] at hA95
       refine zac ty3 hA95 (hx16.trans (hx68.trans hx9)) fun hI96=>?_
       refine zcL (β:=Int) u33 ty3 z3 (by decide) (zbp hI96) fun v97 w10 hx10 r97=>?_
       refine ⟨hx10,?_⟩
       have hs10:=hx10.size
       obtain ⟨GX,hMX,hGX⟩:=zhk r97
       obtain ⟨cs,⟨rfl,hrow⟩,_,hnG,_⟩:=hL1.here
       have hGlt:∀ c∈G1,c<(World.drew1 w8).heap.size:=fun c hcm=>hlt c (hL1.sub c (by simp [hcm]))
       refine zdK (β:=RInts) (G:=G1) (w:=w10) u44 za1 z33 zu8 (by decide) (hrow.keep fun c hcm=>hx10.heap (hGlt c hcm)) hnG hMX (fun c hcm hg=>by have:=hGX c hcm;have:=hGlt c hg;omega) (by rw [zam,hzlen];omega) (by rw [hzlen];omega) (fun w11 v99 w12 G' hx11 hc12' hR12 hN12 hs12=>?_) fun sv w11 hx11 hop=>⟨hx11,hop⟩
       have hc12:Chg G1 w10 w12:=(hx11.chg G1).trans hc12'
       refine zaa za6 ?_
       refine zfG zes hL1 hlt ((hx10.chg G1).trans hc12) hR12 hN12 (fun c hcm=>?_) fun w13 hc13 ⟨F',hO',hF'⟩=>?_
       · rcases hs12 c hcm with h | h | h
         · exact .inl h
         · exact .inr (hGX c h).1
         exact .inr (by omega)
       have hs13:=hc13.size
       have hcI:ChgI w3.heap.size w8.heap.size (World.drew1 w8) w13:=hc13.toI fun c hcm=>by
         have:=hL1.sub c hcm
         rcases List.mem_cons.1 this with rfl | h
         · exact ⟨by omega,hg8⟩
         exact hF c h
       have hrest:zaV c s tn=⟨s.vars,s.owner,s.stacks++[[en c I.arg.toNat]]⟩:=by unfold zaV;rw [←hI,if_neg q1,if_pos q5,if_pos (by omega)]
       refine ⟨by rw [hn],Ext.chgI (hx38.trans hx9) hcI (Nat.le_refl _),_,⟨F',hO',fun c hcm=>?_⟩,?_,?_,?_,?_,by omega,by omega⟩
       · have h1:=hO'.lts c (by simp [hcm])
         rcases hF' c hcm with h | h
         · rcases List.mem_cons.1 h with rfl | h
           · obtain ⟨_,_,_,_,_,hnn,_⟩:=hO';exact absurd hcm hnn
           have:=hF c h;omega
         omega
       · rw [hrest];exact hzv
       · rw [hrest];exact hzo
       · rw [hrest]
         simp only [List.map_append,List.map_cons,List.map_nil,hzl,har,Int.toNat_natCast]
       show (z.stacks.l++_)[tn]?=some x
       rw [List.getElem?_append_left hzn];exact hzx
     have hrest:zaV c s tn=s:=by unfold zaV;rw [←hI,if_neg q1,if_pos q5,if_neg (by omega)]
     refine ⟨by rw [hn],hx38,z,hv8,?_,?_,?_,hzx,by omega,by omega⟩
     · rw [hrest];exact hzv
     · rw [hrest];exact hzo
     rw [hrest];exact hzl
   refine zaf ?_
   refine br (fun q6=>?_) (fun q6=>?_)
   · have hg8:=hv8.lt
     obtain ⟨har0,har1⟩:=zfD hc hs hat0 (.inl (hI▸q6))
     rw [←hI] at har0 har1
     obtain ⟨ar,har⟩:∃ ar:Nat,I.arg=ar:=⟨I.arg.toNat,by omega⟩
     have har2:ar<z.owner.length:=by rw [hzo];omega
     obtain ⟨u,b,a,cap,hr,hIs,hu,hst⟩:=zgO hv8 (by omega) har2
     refine zaa zdp ?_
     refine za2 za1 hr ?_
     refine zaa zby ?_
     refine zac ty3 (zaD hA10) (Ext.refl w8) fun _=>?_
     rw [har]
     refine zcf u33 ty3 hu har2 ?_
     have hmany:=hs.2.2.1
     refine hst w8 (Ext.refl w8) _ (by unfold I64;omega) _ fun w11 hc11 hv11=>?_
     have hs11:=hc11.size
     have hrest:zaV c s tn=⟨s.vars,s.owner.set I.arg.toNat tn,s.stacks⟩:=by unfold zaV;rw [←hI,if_neg q1,if_neg q5,if_pos q6]
     refine ⟨by rw [hn],Ext.chgI hx38 hc11 (by omega),_,hv11.mono (Nat.le_refl _) (by omega),?_,?_,?_,hzx,by omega,by omega⟩
     · rw [hrest];exact hzv
     · rw [hrest,hzo,har];rfl
     rw [hrest];exact hzl
   refine zaf ?_
   refine br (fun q7=>?_) (fun q7=>?_)
   · have hg8:=hv8.lt
     obtain ⟨har0,har1⟩:=zfD hc hs hat0 (.inr (hI▸q7))
     rw [←hI] at har0 har1
     obtain ⟨ar,har⟩:∃ ar:Nat,I.arg=ar:=⟨I.arg.toNat,by omega⟩
     have har2:ar<z.owner.length:=by rw [hzo];omega
     obtain ⟨u,b,a,cap,hr,hIs,hu,hst⟩:=zgO hv8 (by omega) har2
     refine zaa zdp ?_
     refine za2 za1 hr ?_
     refine zaa zby ?_
     refine zac ty3 (zaD hA10) (Ext.refl w8) fun _=>?_
     rw [har]
     refine zad u33 ty3 hIs har2 fun b115 o115 hA115=>?_
     refine zac ty3 hA115 (Ext.refl w8) fun _=>?_
     have how:z.owner[ar]=ow s I.arg:=by
       have:ar<s.owner.length:=by rw [←hzo];exact har2
       rw [har,←ztp this]
       congr 1
     rw [how]
     refine zaf ?_
     refine br (fun qq=>?_) (fun qq=>?_)
     · refine zaa zdp ?_
       refine za2 za1 hr ?_
       refine zaa zby ?_
       refine zac ty3 (zaD hA10) (Ext.refl w8) fun _=>?_
       rw [har]
       refine zcf u33 ty3 hu har2 ?_
       refine hst w8 (Ext.refl w8) _ (by unfold I64;omega) _ fun w11 hc11 hv11=>?_
       have hs11:=hc11.size
       have hrest:zaV c s tn=⟨s.vars,s.owner.set I.arg.toNat (-1),s.stacks⟩:=by unfold zaV;rw [←hI,if_neg q1,if_neg q5,if_neg q6,if_pos q7,if_pos qq]
       refine ⟨by rw [hn],Ext.chgI hx38 hc11 (by omega),_,hv11.mono (Nat.le_refl _) (by omega),?_,?_,?_,hzx,by omega,by omega⟩
       · rw [hrest];exact hzv
       · rw [hrest,hzo,har];rfl
       rw [hrest];exact hzl
     have hrest:zaV c s tn=s:=by unfold zaV;rw [←hI,if_neg q1,if_neg q5,if_neg q6,if_pos q7,if_neg qq]
     refine ⟨by rw [hn],hx38,z,hv8,?_,?_,?_,hzx,by omega,by omega⟩
     · rw [hrest];exact hzv
     · rw [hrest];exact hzo
     rw [hrest];exact hzl
   refine zaf ?_
   refine br (fun q9=>?_) (fun q9=>?_)
   · have hx9:=zak w8
     have hs9:=hx9.size
     have hg8:=hv8.lt
     have hx39:=hx38.trans hx9
     obtain ⟨F,hO,hF⟩:=hv6.ext (hx68.trans hx9)
     have hlt:=hO.lts
     obtain ⟨G1v,hL1v⟩:=zcp (Lens.var hO)
     obtain ⟨b2v,a2v,cap2v,G2v,hv2v,hG21v,hL2v⟩:=hL1v.elemV hzn
     rw [←hx] at hL2v
     obtain ⟨cs1,⟨rfl,_⟩,hr1v,_,_,hg1v,_⟩:=hL1v.here
     obtain ⟨cs2,⟨rfl,hrow2⟩,hr2v,_,_,_,hwb2⟩:=hL2v.here
     have hOs:OAt F (World.drew1 w8) w4.heap.size 0 s:=by have:=zqE hO;rwa [hz] at this
     obtain ⟨G1,hL1⟩:=zdH (Lens.var hOs)
     obtain ⟨_,_,_,_,_,hgG1,_⟩:=hL1.here
     obtain ⟨u1,b2,a2,cap2,G2,hr1,hIs1,hu1,hL2⟩:=hL1.elem htn
     have hu:u1=z.stacks.v:=zcq hr1 hr1v
     refine zaa za6 ?_
     refine za2 zes hr1 ?_
     refine zaa za6 ?_
     refine za2 zes hr1 ?_
     refine zcf u44 za1 hu1 htn ?_
     have hbb:b2=b2v∧a2=a2v:=by
       rw [hu,hv2v] at hu1
       simp only [Value.slice.injEq,Option.some.injEq,Addr.mk.injEq] at hu1
       exact ⟨hu1.1.1.symm,hu1.1.2.1.symm⟩
     obtain ⟨rfl,rfl⟩:=hbb
     obtain ⟨ux,hMx,hrx,hGx,_⟩:=hL2.row
     obtain ⟨_,_,_,_,_,hb2G2,_⟩:=hL2.here
     have hux:ux=x.v:=zcq hrx hr2v
     have hsl:s.stacks[tn]=x.l:=by rw [hxl];exact zeo (t:=(tn:Int)) (by simpa using htn)
     rw [hux,hsl] at hMx
     refine za2 za1 hr2v ?_
     refine zuD u33 ty3 hMx (by omega) (by rw [hxl];exact hne) fun bx ax capx v132 G' hxv hM' hG' hv'=>?_
     refine zcf u44 za1 hu1 htn ?_
     have hb2G':b2∉G':=fun h=>hb2G2 (hG' _ h)
     have hb2g:b2≠w4.heap.size:=fun e=>hg1v (e▸hG21v b2 (by simp))
     have hrep':=zbk rfl hM'.own
     have hone':v132.oneCell'=true:=Rep.one hrep' v132 (by simp)
     refine zia za1 hwb2 hr2v hrow2.one hone' fun w10 hch hr10=>?_
     have hkeep':∀ c∈G',w10.heap[c]?=(World.drew1 w8).heap[c]?:=fun c hcm=>hch.chg.block c (hM'.lt c hcm) (by simp;exact fun e=>hb2G' (e▸hcm))
     obtain ⟨cb,eb,hcb⟩:=hwb2
     obtain ⟨cb',hcb',_⟩:=hch.cell cb eb hcb
     have hOy:OAt G' w10 b2 (a2+tn*Rep.size (List Int)) (x.l.take top):=⟨[v132],Rep.keep hrep' hkeep',hr10,hM'.nodup,hM'.wr.keep hkeep',hb2G',cb',eb,hcb'⟩
     have hg10:w10.heap[w4.heap.size]?=(World.drew1 w8).heap[w4.heap.size]?:=hch.chg.block _ (hlt _ (by simp)) (by simp;exact fun e=>hb2g e.symm)
     obtain ⟨F',hO',hF'⟩:=hL2.back w10 G' (x.l.take top) (hch.mono (Nat.le_refl _) (Nat.le_refl _) (by simp)) hOy (fun c hcm=>.inl (hG' c hcm))
     have hs10:=hch.chg.size
     have hFb:∀ c∈F',w3.heap.size≤c∧c<w4.heap.size:=fun c hcm=>by
       have hin:c∈w4.heap.size :: F:=by
         rcases hF' c hcm with h | h
         · exact h
         exact hGx c (hG' c h)
       rcases List.mem_cons.1 hin with rfl | h
       · obtain ⟨_,_,_,_,_,hnn,_⟩:=hO';exact absurd hcm hnn
       exact hF c h
     have hb2F:b2∈w4.heap.size :: F:=hL2.sub b2 (by simp)
     have hcI:ChgI w3.heap.size w8.heap.size (World.drew1 w8) w10:=hch.chg.toI fun c hcm=>by
       simp only [List.mem_cons,List.not_mem_nil,or_false] at hcm
       subst hcm
       rcases List.mem_cons.1 hb2F with h | h
       · rw [h];exact ⟨by omega,hg8⟩
       have:=hF _ h;omega
     have hx310:Ext w3 w10:=Ext.chgI hx39 hcI (Nat.le_refl _)
     have e1:((tn:Int)).toNat=tn:=by omega
     have hlen:x.l.length=top+1:=by omega
     have htop8:top<8:=by have h:=htl;rw [hxl] at h;omega
     refine zcT ?_
     refine br (fun hp=>?_) (fun hp=>?_)
     · refine zaa za6 ?_
       refine za2 zes (zaK hr1 hg10) ?_
       refine zcf u44 za1 hu1 htn ?_
       refine za2 za1 hr10 ?_
       refine za3 (by unfold I64;omega) ?_
       obtain ⟨tp,htp⟩:∃ tp:Nat,(top:Int)-1=tp:=⟨top-1,by omega⟩
       rw [htp]
       obtain ⟨G1',hL1'⟩:=zdH (Lens.var hO')
       have hk':tn<(s.stacks.set tn (x.l.take top)).length:=by simpa using htn
       obtain ⟨u1',b2',a2',cap2',G2',hr1',_,hu1',hL2'⟩:=hL1'.elem hk'
       have hu':u1'=u1:=zcq hr1' (zaK hr1 hg10)
       have hbb':b2'=b2∧a2'=a2:=by
         rw [hu',hu1] at hu1'
         simp only [Value.slice.injEq,Option.some.injEq,Addr.mk.injEq] at hu1'
         exact ⟨hu1'.1.1.symm,hu1'.1.2.1.symm⟩
       obtain ⟨rfl,rfl⟩:=hbb'
       have hel:(s.stacks.set tn (x.l.take top))[tn]'hk'=x.l.take top:=List.getElem_set_self ..
       simp only [hel] at hL2'
       obtain ⟨uy,by',ay',capy',G3',hry,hIsy,huy,hL3'⟩:=hL2'.elem (k:=tp) (by simp;omega)
       have huy':uy=v132:=zcq hry hr10
       have hv132:=hv' (by omega)
       have hbx:by'=bx∧ay'=ax:=by
         rw [huy',hv132] at huy
         simp only [Value.slice.injEq,Option.some.injEq,Addr.mk.injEq] at huy
         exact ⟨huy.1.1.symm,huy.1.2.1.symm⟩
       obtain ⟨rfl,rfl⟩:=hbx
       refine zcf u33 ty3 hv132 (k:=tp) (by omega) ?_
       have hval:(x.l.take top)[tp]'(by simp;omega)=st x.l tp:=by
         rw [List.getElem_take,zod]
       refine zac ty3 hL3'.here.at (Ext.refl w10) fun hI140=>?_
       rw [hval]
       have hstr:0≤st x.l tp∧st x.l tp<c.ins.length:=by
         have hmem:=hs.2.2.2.2.2 x.l (by rw [←hsl];exact List.getElem_mem _)
         exact hmem.2.1 tp (by omega)
       refine zc4 (by unfold I64;omega) ?_
       refine zcf u33 ty3 hv132 (k:=tp) (by omega) ?_
       have hg10':w4.heap.size<w10.heap.size:=by omega
       refine zfF (α:=DState) (lo:=w3.heap.size) (hi:=w10.heap.size) ty3 hL3' (fun c hcm=>by have:=hFb c hcm;omega) (by omega) (zbp (x:=st x.l tp+1) (by unfold I64;omega)) fun w11 hc11 hv11=>?_
       have hs11:=hc11.size
       refine hres _ w11 (Ext.chgI hx310 hc11 (Nat.le_refl _)) (hv11.mono (Nat.le_refl _) (by omega)) ?_
       unfold zec
       rw [←hI,if_neg q4,if_pos q9]
       simp only [DState.mk.injEq,true_and,e1,List.set_set]
       congr 1
       unfold ziK
       rw [←hxl,hlen,if_neg (by omega),show top+1-1=top by omega,show top+1-2=tp by omega]
     refine hres _ w10 hx310 ⟨F',hO',fun c hcm=>by have:=hFb c hcm;omega⟩ ?_
     unfold zec
     rw [←hI,if_neg q4,if_pos q9]
     simp only [DState.mk.injEq,true_and,e1]
     congr 1
     unfold ziK
     have ht0:top=0:=by omega
     subst ht0
     rw [←hxl,hlen]
     simp
   exact ⟨by rw [hn],hx38,same w8 (Ext.refl w8) (by omega)⟩
 rintro uj w9 ⟨hu,hx9,z',hv9,hz1,hz2,hz3,hz4,ho4,ho9⟩
 simp only [List.map_cons,List.map_nil,List.cons.injEq,and_true] at hu
 rw [hu]
 have hs9:=hx9.size
 obtain ⟨hk',hxk⟩:=List.getElem?_eq_some_iff.1 hz4
 have hg9:=hv9.lt
 obtain ⟨F,hO,hF⟩:=hv9
 obtain ⟨G1,hL1⟩:=zcp (Lens.var hO)
 obtain ⟨b2,a2,cap2,G2,hv2,_,hL2⟩:=hL1.elemV hk'
 rw [hxk] at hL2
 obtain ⟨cs1,⟨rfl,_⟩,hr1,_⟩:=hL1.here
 obtain ⟨cs2,⟨rfl,_⟩,hr2,_⟩:=hL2.here
 refine zaa za6 ?_
 refine za2 zes hr1 ?_
 refine zcf u44 za1 hv2 hk' ?_
 refine za2 za1 hr2 ?_
 refine zoh (e:=3) u33 ty3 hL2 htl fun b3 o3 G3 hL3=>?_
 have hI64:I64 (zcE c s tn):=by
   have hto:I.op=2∨I.op=3→I64 I.to:=fun h=>by
     have:=hR.2.2.2
     rw [←hI,if_pos h] at this
     obtain ⟨i,hi,_,_,hpr⟩:=hc.f.find hc.1.procs8.2 hat0 hatlt.2
     have h1:=hc.f.nonneg hi
     have h2:=(hc.f.lt i hi).2
     rw [hpr,zcV,Int.toNat_natCast] at this
     unfold I64;omega
   unfold zcE
   rw [←hI]
   split
   · split
     · exact hto (.inl (by assumption))
     unfold I64;omega
   split
   · exact hto (.inr (by assumption))
   unfold I64;omega
 refine zfF ty3 hL3 hF (by omega) (zbp hI64) fun w10 hc10 hv10=>?_
 have hs10:=hc10.size
 refine hres _ w10 (Ext.chgI hx9 hc10 (Nat.le_refl _)) (zkz (hv10.mono (Nat.le_refl _) (by omega))) ?_
 unfold zec DStV.er
 rw [←hI,if_neg ho4,if_neg ho9]
 simp only [DState.mk.injEq,hz1,hz2,true_and]
 have e1:((tn:Int)).toNat=tn:=by omega
 have e2:(stk s tn).length-1=top:=by rw [←hxl];omega
 rw [List.map_set,hz3,hxl,e1,e2]
theorem zjf {c:DCode} {s:DState} {t:Int}:∀ {k:Nat},t∈zco c s k→GoR c s t
 | 0,h=>by simp [zco] at h
 | k+1,h=>by
   rw [zco] at h
   split at h
   · rcases List.mem_append.1 h with h | h
     · exact zjf h
     simp only [List.mem_cons,List.not_mem_nil,or_false] at h
     subst h;assumption
   exact zjf h
def zeK (c:DCode) (s:DState) (p:Int):Int:=(zcW c s).getD ((max p 0).tmod (zcW c s).length).toNat 0
theorem zjg {p:Int} {n:Nat} (h:n≠0):0≤(max p 0).tmod n∧((max p 0).tmod n).toNat<n:=by
 have h1:0≤max p 0:=by omega
 have h2:=Int.emod_nonneg (max p 0) (b:=(n:Int)) (by omega)
 have h3:=Int.emod_lt_of_pos (max p 0) (b:=(n:Int)) (by omega)
 rw [Int.tmod_eq_emod_of_nonneg h1]
 omega
theorem zg5 {c:DCode} {s:DState} {p:Int} (h:((max p 0).tmod (zcW c s).length).toNat<(zcW c s).length):(zcW c s)[((max p 0).tmod (zcW c s).length).toNat]=zeK c s p:=by
 unfold zeK;rw [List.getD_eq_getElem?_getD,List.getElem?_eq_getElem h];rfl
theorem zrM {c:DCode} {s:DState} {p:Int} (h:(zcW c s).length≠0):GoR c s (zeK c s p):=by
 have h1:=(zjg (p:=p) h).2
 rw [←zg5 h1]
 exact zjf (List.getElem_mem h1)
def zmE (c:DCode):List Int→DState→List Int→DState×List Int
 | [],s,went=>(s,went)
 | p :: ps,s,went=>if (zcW c s).length=0 then (s,went) else zmE c ps (zec c s (zeK c s p)) (went++[zeK c s p])
theorem zmq {c:DCode} {l:List Int} {s:DState} {went:List Int} (h:(zcW c s).length=0):zmE c l s went=(s,went):=by
 cases l with
 | nil=>rfl
 | cons p ps=>rw [zmE,if_pos h]
theorem zmr {c:DCode} {l:List Int} {k:Nat} {s:DState} {went:List Int} (hk:k<l.length) (h:¬(zcW c s).length=0):zmE c (l.drop k) s went=zmE c (l.drop (k+1)) (zec c s (zeK c s l[k])) (went++[zeK c s l[k]]):=by
 rw [List.drop_eq_getElem_cons hk,zmE,if_neg h]
def runOf (c:DCode) (picks:List Int):DState×List Int:=if CodeR c then zmE c (picks.take 400) (zds c) [] else (⟨[],[],[]⟩,[])
def zwv {α β:Type} [Rep α] [Rep β] (w w':World) (r:Value) (x:α) (y:β):Prop:=∃ a b lo hi lo2 hi2,r=.tuple #[a,b]∧OwnI lo hi w' a x∧OwnI lo2 hi2 w' b y∧w.heap.size≤lo∧w.heap.size≤lo2∧hi≤w'.heap.size∧hi2≤w'.heap.size∧(hi≤lo2∨hi2≤lo)
def F15 (a0 a1:Value) (w:World) (R:VW):Prop:=
 oP (Instr.box 36 a0) w fun x2 w=>
 oP (Instr.alloc 46 true (.tuple #[])) w fun x4 w=>
 rL 36 x2 w fun x12=>
 cL 52 [x12] w fun x13 w=>
 rD (Op.unary .not x13) w fun x14=>
 BR x14
 (rD (Instr.build 46 #[]) w fun x15=>
 oS 46 x4 x15 w fun w=>
 rD (zax 46 x4) w fun r4=>R (Value.tuple #[r4,(Value.slice none 0 0)]) w)
 (rL 36 x2 w fun x16=>
 cL 53 [x16] w fun x17 w=>
 oP (Instr.alloc 46 true (.tuple #[])) w fun x6 w=>
 oS 46 x6 x17 w fun w=>
 rN 33 3 a1 w fun x20=>
 rD (Builtin.min_ #[3,3] 3 [x20,(iV 400)].toArray) w fun x21=>
 rD (Instr.sliceAt 33 a1 none (some x21) none) w fun x22=>
 rN 33 3 x22 w fun x23=>
 LOOPI [7,24] [(Value.slice none 0 0),(iV 0)] w fun u6 w next6=>
 rC (u6 24) x23 w fun x25=>
 BR x25
 (rX 33 x22 (u6 24) w fun x26=>
 rL 3 x26 w fun x27=>
 rL 36 x2 w fun x28=>
 rL 46 x6 w fun x29=>
 cL 54 [x28,x29] w fun x30 w=>
 rN 33 3 x30 w fun x32=>
 rB .eql 3 T0 U0 x32 (iV 0) w fun x33=>
 BR x33
 (rL 46 x6 w fun x51=>
 oS 46 x4 x51 w fun w=>
 rD (zax 46 x4) w fun r4=>R (Value.tuple #[r4,(u6 7)]) w)
 (rD (Builtin.max_ #[3,3] 3 [x27,(iV 0)].toArray) w fun x36=>
 rN 33 3 x30 w fun x38=>
 rB .rem 3 T0 T0 x36 x38 w fun x39=>
 rX 33 x30 x39 w fun x40=>
 rL 3 x40 w fun x41=>
 rL 36 x2 w fun x42=>
 rL 46 x6 w fun x43=>
 cL 55 [x42,x43,x41] w fun x45 w=>
 oS 46 x6 x45 w fun w=>
 oP (Instr.buildSlice 33 1 #[(0,x41)]) w fun x48 w=>
 oP (Builtin.append_ #[33,33] 33 [(u6 7),x48].toArray) w fun x49 w=>
 rA (u6 24) (iV 1) w fun x50=>
 next6 [x49,x50] w))
 (rL 46 x6 w fun x51=>
 oS 46 x4 x51 w fun w=>
 rD (zax 46 x4) w fun r4=>R (Value.tuple #[r4,(u6 7)]) w))
def cfg15:Cfg:=⟨extL,[],[(6,2251799796911744,[7,24])],[],[],[],[]⟩
theorem F15_call {a0 a1:Value} {w:World} {R:VW} (h:F15 a0 a1 w R):cL 15 [a0,a1] w R:=co (g:=cfg15) Tryz.func15 (by kernel_rfl) (by kernel_rfl) (by kernel_rfl) h
theorem zhU {w:World} {v0:Value} {W0:World} {c:DCode} {v1:Value} {W1:World} {picks:(List Int)}  (h0:Is W0 v0 c) (e0:Ext W0 w) (h1:Is W1 v1 picks) (e1:Ext W1 w) (hw:zlB c≤1048576) :
   CALL Tryz.prog 15 [v0,v1] w fun r w'=>Ext w w'∧(zwv w w' r (runOf c picks).1 (runOf c picks).2):=by
 refine F15_call ?_
 unfold F15
 have hs_e0:=e0.size
 have hs_e1:=e1.size
 refine zaz zdW rfl h0 e0 fun w1_ hx1_ hA2 hV2=>?_
 have hs_hx1_:=hx1_.size
 refine zcB (α:=DState) zvP fun w2_ hx2_ hv4=>?_
 have hg4:=hv4.lt
 have hs_hx2_:=hx2_.size
 refine zbd hV2 hx2_ ?_
 refine (zgI h0 (e0.trans (hx1_.trans hx2_))).mono ?_
 rintro _ w3_ ⟨hx3_,rfl⟩
 have hs_hx3_:=hx3_.size
 refine zaS ?_
 refine br (fun c1=>?_) (fun c1=>?_)
 · refine zaT (cells:=#[.slice none 0 0,.slice none 0 0,.slice none 0 0]) (by kernel_rfl) ?_
   have o15:OwnI (α:=DState) w3_.heap.size w3_.heap.size w3_ (.agg #[.slice none 0 0,.slice none 0 0,.slice none 0 0]) RepZ.zv:=zqI
   refine zaF zck (hv4.ext hx3_) (o15.ext (Ext.refl w3_)) (by omega) fun w4_ hc4_ hv4_s4=>?_
   have hs_hc4_:=hc4_.size
   have o15_c4:=(o15.ext (Ext.refl w3_)).chg hc4_ (by omega)
   refine zbh zck hv4_s4 (Ext.refl w4_) fun r4 hr4=>?_
   replace hr4:=hr4.ext (Ext.refl w4_)
   refine ⟨(Ext.chgI ((hx1_.trans hx2_).trans hx3_) hc4_ (by omega)),?_⟩
   rw [show runOf c picks=(⟨[],[],[]⟩,[]) from if_neg c1]
   exact ⟨_,_,_,_,_,_,rfl,hr4,zb6 (lo:=w4_.heap.size) (hi:=w4_.heap.size) none,by omega,by omega,by omega,by omega,by omega⟩
 have hc:CodeR c:=Decidable.not_not.1 c1
 refine zbd hV2 (hx2_.trans hx3_) ?_
 refine (zpj h0 (e0.trans (hx1_.trans (hx2_.trans hx3_))) (by omega) (by assumption)).mono ?_
 rintro r17 w5_ ⟨hx5_,o17⟩
 have o17:=o17.toI
 have hs_hx5_:=hx5_.size
 refine zcB (α:=DState) zvP fun w6_ hx6_ hv6=>?_
 have hg6:=hv6.lt
 have hs_hx6_:=hx6_.size
 refine zaF zck (hv6.ext (Ext.refl w6_)) (o17.ext hx6_) (by omega) fun w7_ hc7_ hv6_s7=>?_
 have hs_hc7_:=hc7_.size
 have hv4_c7:=(hv4.ext (hx3_.trans (hx5_.trans hx6_))).chg hc7_ (by omega) (by omega)
 have o17_c7:=(o17.ext hx6_).chg hc7_ (by omega)
 have hln20:=zah h1
 refine zae u33 h1 ?_
 refine ztn ?_
 refine ziy u33 ty3 h1 (by omega) (by omega) fun v22 h22=>?_
 have ht:picks.take (min (picks.length:Int) 400).toNat=picks.take 400:=by
   rw [show (min (picks.length:Int) 400).toNat=min 400 picks.length by omega,←List.take_eq_take_min]
 rw [ht] at h22
 have hln23:=zah h22
 refine zae u33 h22 ?_
 refine zaB ((picks.take 400).length) (fun k us w'=>∃ (s:DState) (went:List Int) (v:Value) (lo hi lo2 hi2:Nat),us=[v,.int .i64 (k:Int)]∧Ext w5_ w'∧(k≤(picks.take 400).length∧zmE c (picks.take 400) (zds c) []=zmE c ((picks.take 400).drop k) s went∧zbQ c s∧went.length=k∧VarI lo hi w' w5_.heap.size s∧RowI lo2 hi2 3 w' v went∧(w2_.heap.size≤lo∧(hi≤w5_.heap.size∨w5_.heap.size<lo)∧w5_.heap.size<lo2∧lo≤hi∧lo2≤hi2∧hi≤w'.heap.size∧hi2≤w'.heap.size∧(hi≤lo2∨hi2≤lo)))) (0) (by omega) ⟨zds c,[],_,_,_,_,_,rfl,(Ext.chgI hx6_ hc7_ (by omega)),by omega,rfl,ziL hc,rfl,(hv6_s7.ext (Ext.refl w7_)),zbE w7_.heap.size w7_.heap.size _ _,by omega⟩ ?_
 rintro k m6 uu6 w8_ hk6 ⟨s,went,v7,lo,hi,lo2,hi2,hu,hx8_,hkl,hrun,hs,hwl,hst,hrow,hbd⟩
 have hs_hx8_:=hx8_.size
 obtain ⟨hu0,hu1⟩:=ze4 hu
 try rw [hu0]
 try rw [hu1]
 try clear hu0 hu1
 have hk4:(picks.take 400).length≤400:=List.length_take_le _ _
 refine zai ?_
 refine br (fun c2=>?_) (fun c2=>?_)
 · refine zad u33 ty3 h22 (by omega) fun b26 o26 h26=>?_
   refine zac ty3 h26 (e1.trans (hx1_.trans (hx2_.trans (hx3_.trans (hx5_.trans hx8_))))) fun hI27=>?_
   refine zbd hV2 (hx2_.trans (hx3_.trans (hx5_.trans hx8_))) ?_
   refine zce zck hst (Ext.refl w8_) fun v29 o29=>?_
   refine (zpe h0 (e0.trans (hx1_.trans (hx2_.trans (hx3_.trans (hx5_.trans hx8_))))) o29.is (Ext.refl w8_) (by assumption) (by assumption)).mono ?_
   rintro r30 w9_ ⟨hx9_,o30⟩
   have o30:=o30.toI
   have hs_hx9_:=hx9_.size
   have hln32:=zah o30.is
   refine zae u33 o30.is ?_
   refine zaf ?_
   refine br (fun c3=>?_) (fun c3=>?_)
   · refine zce zck hst hx9_ fun v51 o51=>?_
     refine zaF zck (hv4.ext (hx3_.trans (hx5_.trans (hx8_.trans hx9_)))) (o51.ext hx9_) (by omega) fun w10_ hc10_ hv4_s10=>?_
     have hs_hc10_:=hc10_.size
     have o17_c10:=(o17.ext (hx8_.trans hx9_)).chg hc10_ (by omega)
     have hst_c10:=(hst.ext hx9_).chg hc10_ (by omega) (by omega)
     have hrow_c10:=(hrow.ext hx9_).chg hc10_ (by omega)
     have o30_c10:=(o30.ext (Ext.refl w9_)).chg hc10_ (by omega)
     have o29_c10:=(o29.ext hx9_).chg hc10_ (by omega)
     have o51_c10:=(o51.ext hx9_).chg hc10_ (by omega)
     refine zbh zck hv4_s10 (Ext.refl w10_) fun r4 hr4=>?_
     replace hr4:=hr4.ext (Ext.refl w10_)
     refine ⟨(Ext.chgI (((((hx1_.trans hx2_).trans hx3_).trans hx5_).trans hx8_).trans hx9_) hc10_ (by omega)),?_⟩
     have hR:runOf c picks=(s,went):=by unfold runOf;rw [if_pos hc,hrun,zmq (by omega)]
     rw [hR]
     exact ⟨_,_,_,_,_,_,rfl,hr4,(hrow_c10.ext (Ext.refl w10_)).own,by omega,by omega,by omega,by omega,by omega⟩
   refine zqx ?_
   have hln38:=zah o30.is
   refine zae u33 o30.is ?_
   refine zip (by omega) ?_
   refine zav u33 ty3 o30.is (zjg (by omega)).1 (zjg (by omega)).2 fun b40 o40 h40=>?_
   refine zac ty3 h40 (Ext.refl w9_) fun hI41=>?_
   have hgo:=zrM (c:=c) (s:=s) (p:=(picks.take 400)[k]) (by omega)
   rw [zg5] at hI41
   rw [zg5]
   refine zbd hV2 (hx2_.trans (hx3_.trans (hx5_.trans (hx8_.trans hx9_)))) ?_
   refine zce zck hst hx9_ fun v43 o43=>?_
   refine (zph h0 (e0.trans (hx1_.trans (hx2_.trans (hx3_.trans (hx5_.trans (hx8_.trans hx9_)))))) o43.is hx9_ (by assumption) (by assumption) (by assumption)).mono ?_
   rintro r45 w11_ ⟨hx11_,o45⟩
   have o45:=o45.toI
   have hs_hx11_:=hx11_.size
   refine zaF zck (hst.ext (hx9_.trans hx11_)) (o45.ext (Ext.refl w11_)) (by omega) fun w12_ hc12_ hst_s12=>?_
   have hs_hc12_:=hc12_.size
   have hv4_c12:=(hv4.ext (hx3_.trans (hx5_.trans (hx8_.trans (hx9_.trans hx11_))))).chg hc12_ (by omega) (by omega)
   have o17_c12:=(o17.ext (hx8_.trans (hx9_.trans hx11_))).chg hc12_ (by omega)
   have hrow_c12:=(hrow.ext (hx9_.trans hx11_)).chg hc12_ (by omega)
   have o30_c12:=(o30.ext hx11_).chg hc12_ (by omega)
   have o29_c12:=(o29.ext (hx9_.trans hx11_)).chg hc12_ (by omega)
   have o43_c12:=(o43.ext (hx9_.trans hx11_)).chg hc12_ (by omega)
   have o45_c12:=(o45.ext (Ext.refl w11_)).chg hc12_ (by omega)
   refine zfk (α:=Int) u33 ty3 z3 zc3 (by decide) (hrow_c12.ext (Ext.refl w12_)) (ownI_int (lo:=w12_.heap.size) (hi:=w12_.heap.size) (by first | assumption | (unfold I64 at *;omega))) (by rw [zam];omega) (by omega) fun v49 w13_ lo49 hi49 hc13_ o49 hd49=>?_
   have hs_hc13_:=hc13_.size
   have hv4_c13:=(hv4_c12.ext (Ext.refl w12_)).chg hc13_ (by omega) (by omega)
   have o17_c13:=(o17_c12.ext (Ext.refl w12_)).chg hc13_ (by omega)
   have hst_s12_c13:=(hst_s12.ext (Ext.refl w12_)).chg hc13_ (by omega) (by omega)
   have o30_c13:=(o30_c12.ext (Ext.refl w12_)).chg hc13_ (by omega)
   have o29_c13:=(o29_c12.ext (Ext.refl w12_)).chg hc13_ (by omega)
   have o43_c13:=(o43_c12.ext (Ext.refl w12_)).chg hc13_ (by omega)
   have o45_c13:=(o45_c12.ext (Ext.refl w12_)).chg hc13_ (by omega)
   refine zag (by omega) ?_
   refine ⟨m6-1,by omega,k+1,by omega,zec c s (zeK c s (picks.take 400)[k]),went++[zeK c s (picks.take 400)[k]],_,(w9_.heap.size),(w11_.heap.size),(lo49),(hi49),rfl,(Ext.chgI (Ext.chgI ((hx8_.trans hx9_).trans hx11_) hc12_ (by omega)) hc13_ (by omega)),?_⟩
   refine ⟨by omega,?_,zjL hc hs hgo,by simp;omega,(hst_s12_c13.ext (Ext.refl w13_)),(o49.ext (Ext.refl w13_)),?_⟩
   · rw [hrun,zmr (by omega) (by omega)]
   omega
 refine zce zck hst (Ext.refl w8_) fun v51 o51=>?_
 refine zaF zck (hv4.ext (hx3_.trans (hx5_.trans hx8_))) (o51.ext (Ext.refl w8_)) (by omega) fun w14_ hc14_ hv4_s14=>?_
 have hs_hc14_:=hc14_.size
 have o17_c14:=(o17.ext hx8_).chg hc14_ (by omega)
 have hst_c14:=(hst.ext (Ext.refl w8_)).chg hc14_ (by omega) (by omega)
 have hrow_c14:=(hrow.ext (Ext.refl w8_)).chg hc14_ (by omega)
 have o51_c14:=(o51.ext (Ext.refl w8_)).chg hc14_ (by omega)
 refine zbh zck hv4_s14 (Ext.refl w14_) fun r4 hr4=>?_
 replace hr4:=hr4.ext (Ext.refl w14_)
 refine ⟨(Ext.chgI ((((hx1_.trans hx2_).trans hx3_).trans hx5_).trans hx8_) hc14_ (by omega)),?_⟩
 have hR:runOf c picks=(s,went):=by unfold runOf;rw [if_pos hc,hrun,List.drop_eq_nil_of_le (by omega)];rfl
 rw [hR]
 exact ⟨_,_,_,_,_,_,rfl,hr4,(hrow_c14.ext (Ext.refl w14_)).own,by omega,by omega,by omega,by omega,by omega⟩
def F16 (a0 a1:Value) (w:World) (R:VW):Prop:=
 oP (Instr.box 36 a0) w fun x2 w=>
 oP (Instr.alloc 46 true (.tuple #[])) w fun x4 w=>
 oP (Instr.buildSlice 33 0 #[]) w fun x12 w=>
 rL 36 x2 w fun x13=>
 cL 56 [x13] w fun x14 w=>
 oP (Instr.alloc 46 true (.tuple #[])) w fun x7 w=>
 oS 46 x7 x14 w fun w=>
 rL 36 x2 w fun x15=>
 cL 57 [x15] w fun x16 w=>
 rD (Op.unary .not x16) w fun x17=>
 BR x17
 (rL 46 x7 w fun x18=>
 oS 46 x4 x18 w fun w=>
 rD (zax 46 x4) w fun r4=>R (Value.tuple #[r4,x12]) w)
 (LOOPI [6,8] [x12,(iV 0)] w fun u6 w next6=>
 rN 33 3 a1 w fun x22=>
 rC (u6 8) x22 w fun x23=>
 BR x23
 (rB .lss 3 T0 U0 (u6 8) (iV 400) w fun x26=>
 BR x26
 (rL 36 x2 w fun x30=>
 rL 46 x7 w fun x31=>
 cL 58 [x30,x31] w fun x32 w=>
 rN 33 3 x32 w fun x34=>
 rB .eql 3 T0 U0 x34 (iV 0) w fun x35=>
 BR x35
 (rL 46 x7 w fun x57=>
 oS 46 x4 x57 w fun w=>
 rD (zax 46 x4) w fun r4=>R (Value.tuple #[r4,(u6 6)]) w)
 (rX 33 a1 (u6 8) w fun x38=>
 rL 3 x38 w fun x39=>
 JOIN [10] (fun J13=>
 rB .lss 3 T0 U0 x39 (iV 0) w fun x41=>
 BR x41
 (J13 [(iV 0)] w)
 (J13 [x39] w)) (fun u13 w=>
 rN 33 3 x32 w fun x45=>
 rB .rem 3 T0 T0 (u13 10) x45 w fun x46=>
 rX 33 x32 x46 w fun x47=>
 rL 3 x47 w fun x48=>
 rL 36 x2 w fun x49=>
 rL 46 x7 w fun x50=>
 cL 59 [x49,x50,x48] w fun x52 w=>
 oS 46 x7 x52 w fun w=>
 oP (Instr.buildSlice 33 1 #[(0,x48)]) w fun x55 w=>
 oP (Builtin.append_ #[33,33] 33 [(u6 6),x55].toArray) w fun x56 w=>
 rA (u6 8) (iV 1) w fun x29=>
 next6 [x56,x29] w)))
 (rL 46 x7 w fun x57=>
 oS 46 x4 x57 w fun w=>
 rD (zax 46 x4) w fun r4=>R (Value.tuple #[r4,(u6 6)]) w))
 (rL 46 x7 w fun x57=>
 oS 46 x4 x57 w fun w=>
 rD (zax 46 x4) w fun r4=>R (Value.tuple #[r4,(u6 6)]) w))
def cfg16:Cfg:=⟨extL,[(13,3298534884352,[10])],[(6,144115188074811200,[6,8])],[],[],[],[]⟩
theorem F16_call {a0 a1:Value} {w:World} {R:VW} (h:F16 a0 a1 w R):cL 16 [a0,a1] w R:=co (g:=cfg16) Tryz.func16 (by kernel_rfl) (by kernel_rfl) (by kernel_rfl) h
set_option maxRecDepth 20000 in
theorem zms {w:World} {v0:Value} {W0:World} {c:DCode} {v1:Value} {W1:World} {picks:(List Int)}  (h0:Is W0 v0 c) (e0:Ext W0 w) (h1:Is W1 v1 picks) (e1:Ext W1 w) (hw:zlB c≤1048576) :
    CALL Tryz.prog 16 [v0,v1] w fun r w'=>Ext w w'∧(zwv w w' r (runOf c picks).1 (runOf c picks).2):=by
  refine F16_call ?_
  unfold F16
  have hs_e0:=e0.size
  have hs_e1:=e1.size
  refine zaz zdW rfl h0 e0 fun w1_ hx1_ hA2 hV2=>?_
  have hs_hx1_:=hx1_.size
  refine zcB (α:=DState) zvP fun w2_ hx2_ hv4=>?_
  have hg4:=hv4.lt
  have hs_hx2_:=hx2_.size
  refine zbW (α:=Int) u33 ty3 fun v12 w3_ hx3_ o12=>?_
  have hs_hx3_:=hx3_.size
  refine zbd hV2 (hx2_.trans hx3_) ?_
  refine (zjo h0 (e0.trans (hx1_.trans (hx2_.trans hx3_))) (by omega)).mono ?_
  rintro r14 w4_ ⟨hx4_,o14⟩
  have o14:=o14.toI
  have hs_hx4_:=hx4_.size
  refine zcB (α:=DState) zvP fun w5_ hx5_ hv7=>?_
  have hg7:=hv7.lt
  have hs_hx5_:=hx5_.size
  refine zaF zck (hv7.ext (Ext.refl w5_)) (o14.ext hx5_) (by omega) fun w6_ hc6_ hv7_s6=>?_
  have hs_hc6_:=hc6_.size
  have hv4_c6:=(hv4.ext (hx3_.trans (hx4_.trans hx5_))).chg hc6_ (by omega) (by omega)
  have o12_c6:=(o12.ext (hx4_.trans hx5_)).chg hc6_ (by omega)
  have o14_c6:=(o14.ext hx5_).chg hc6_ (by omega)
  refine zbd hV2 (Ext.chgI (((hx2_.trans hx3_).trans hx4_).trans hx5_) hc6_ (by omega)) ?_
  refine (zgH h0 (Ext.chgI (((((e0.trans hx1_).trans hx2_).trans hx3_).trans hx4_).trans hx5_) hc6_ (by omega))).mono ?_
  rintro _ w7_ ⟨hx7_,rfl⟩
  have hs_hx7_:=hx7_.size
  refine zaS ?_
  refine br (fun c1=>?_) (fun c1=>?_)
  · refine zce zck hv7_s6 hx7_ fun v18 o18=>?_
    refine zaF zck (hv4_c6.ext hx7_) (o18.ext hx7_) (by omega) fun w8_ hc8_ hv4_s8=>?_
    have hs_hc8_:=hc8_.size
    have o12_c8:=(o12_c6.ext hx7_).chg hc8_ (by omega)
    have o14_c8:=(o14_c6.ext hx7_).chg hc8_ (by omega)
    have hv7_s6_c8:=(hv7_s6.ext hx7_).chg hc8_ (by omega) (by omega)
    have o18_c8:=(o18.ext hx7_).chg hc8_ (by omega)
    refine zbh zck hv4_s8 (Ext.refl w8_) fun r4 hr4=>?_
    replace hr4:=hr4.ext (Ext.refl w8_)
    refine ⟨(Ext.chgI ((Ext.chgI ((((hx1_.trans hx2_).trans hx3_).trans hx4_).trans hx5_) hc6_ (by omega)).trans hx7_) hc8_ (by omega)),?_⟩
    rw [show runOf c picks=(⟨[],[],[]⟩,[]) from if_neg c1]
    rw [show zfi c=⟨[],[],[]⟩ from if_neg c1] at hr4
    exact ⟨_,_,_,_,_,_,rfl,hr4,(o12_c8.ext (Ext.refl w8_)).own,by omega,by omega,by omega,by omega,by omega⟩
  refine zaB ((picks.take 400).length) (fun k us w'=>∃ (s:DState) (went:List Int) (v:Value) (lo hi lo2 hi2:Nat),us=[v,.int .i64 (k:Int)]∧Ext w4_ w'∧(k≤(picks.take 400).length∧zmE c (picks.take 400) (zds c) []=zmE c ((picks.take 400).drop k) s went∧zbQ c s∧went.length=k∧VarI lo hi w' w4_.heap.size s∧RowI lo2 hi2 3 w' v went∧(w2_.heap.size≤lo∧(hi≤w4_.heap.size∨w4_.heap.size<lo)∧w4_.heap.size<lo2∧lo≤hi∧lo2≤hi2∧hi≤w'.heap.size∧hi2≤w'.heap.size∧(hi≤lo2∨hi2≤lo)))) (0) (by omega) ⟨zfi c,[],_,_,_,_,_,rfl,((Ext.chgI hx5_ hc6_ (by omega)).trans hx7_),by omega,by rw [show zfi c=zds c from if_pos (Decidable.not_not.1 c1)];rfl,by rw [show zfi c=zds c from if_pos (Decidable.not_not.1 c1)];exact ziL (Decidable.not_not.1 c1),rfl,(hv7_s6.ext hx7_),zd1 w7_.heap.size w7_.heap.size _ _ _,by omega⟩ ?_
  rintro k m6 uu6 w9_ hk6 ⟨s,went,v7,lo,hi,lo2,hi2,hu,hx9_,hkl,hrun,hs,hwl,hst,hrow,hbd⟩
  have hs_hx9_:=hx9_.size
  obtain ⟨hu0,hu1⟩:=ze4 hu;clear hu
  try rw [hu0]
  try rw [hu1]
  try clear hu0 hu1
  have hk5:(picks.take 400).length=min 400 picks.length:=List.length_take
  have hc:CodeR c:=Decidable.not_not.1 c1
  have hsd:zfi c=zds c:=if_pos hc
  have hln22:=zah h1
  refine zae u33 h1 ?_
  refine zai ?_
  refine br (fun c2=>?_) (fun c2=>?_)
  · refine zai ?_
    refine br (fun c3=>?_) (fun c3=>?_)
    · refine zbd hV2 (hx2_.trans (hx3_.trans (hx4_.trans hx9_))) ?_
      refine zce zck hst (Ext.refl w9_) fun v31 o31=>?_
      refine (zm6 h0 (e0.trans (hx1_.trans (hx2_.trans (hx3_.trans (hx4_.trans hx9_))))) o31.is (Ext.refl w9_) (by assumption) (by assumption)).mono ?_
      rintro r32 w10_ ⟨hx10_,o32⟩
      have o32:=o32.toI
      have hs_hx10_:=hx10_.size
      have hln34:=zah o32.is
      refine zae u33 o32.is ?_
      refine zaf ?_
      refine br (fun c4=>?_) (fun c4=>?_)
      · refine zce zck hst hx10_ fun v57 o57=>?_
        refine zaF zck (hv4.ext (hx3_.trans (hx4_.trans (hx9_.trans hx10_)))) (o57.ext hx10_) (by omega) fun w11_ hc11_ hv4_s11=>?_
        have hs_hc11_:=hc11_.size
        have o12_c11:=(o12.ext (hx4_.trans (hx9_.trans hx10_))).chg hc11_ (by omega)
        have hrow_c11:=(hrow.ext hx10_).chg hc11_ (by omega)
        have o14_c11:=(o14.ext (hx9_.trans hx10_)).chg hc11_ (by omega)
        have hst_c11:=(hst.ext hx10_).chg hc11_ (by omega) (by omega)
        have o32_c11:=(o32.ext (Ext.refl w10_)).chg hc11_ (by omega)
        have o31_c11:=(o31.ext hx10_).chg hc11_ (by omega)
        have o57_c11:=(o57.ext hx10_).chg hc11_ (by omega)
        refine zbh zck hv4_s11 (Ext.refl w11_) fun r4 hr4=>?_
        replace hr4:=hr4.ext (Ext.refl w11_)
        refine ⟨(Ext.chgI (((((hx1_.trans hx2_).trans hx3_).trans hx4_).trans hx9_).trans hx10_) hc11_ (by omega)),?_⟩
        have hR:runOf c picks=(s,went):=by unfold runOf;rw [if_pos hc,hrun,zmq (by omega)]
        rw [hR]
        exact ⟨_,_,_,_,_,_,rfl,hr4,(hrow_c11.ext (Ext.refl w11_)).own,by omega,by omega,by omega,by omega,by omega⟩
      refine zad u33 ty3 h1 (by omega) fun b38 o38 h38=>?_
      refine zac ty3 h38 (e1.trans (hx1_.trans (hx2_.trans (hx3_.trans (hx4_.trans (hx9_.trans hx10_)))))) fun hI39=>?_
      refine JOIN.mk (fun us w'=>us=[.int .i64 (max picks[k] 0)]∧Ext w10_ w'∧(True)) ?_ ?_
      · refine zai ?_
        refine br (fun c5=>?_) (fun c5=>?_)
        · refine ⟨by rw [show max picks[k] 0=0 by omega],Ext.refl w10_,?_⟩
          trivial
        refine ⟨by rw [show max picks[k] 0=picks[k] by omega],Ext.refl w10_,?_⟩
        trivial
      rintro uj13 w12_ ⟨hu,hx12_,hinv⟩
      have hs_hx12_:=hx12_.size
      simp only [List.map_cons,List.map_nil,List.cons.injEq,and_true] at hu
      try rw [hu]
      try clear hu
      have hln45:=zah o32.is
      refine zae u33 o32.is ?_
      refine zip (by omega) ?_
      refine zav u33 ty3 o32.is (zjg (by omega)).1 (zjg (by omega)).2 fun b47 o47 h47=>?_
      refine zac ty3 h47 hx12_ fun hI48=>?_
      have hgo:=zrM (c:=c) (s:=s) (p:=picks[k]) (by omega)
      rw [zg5] at hI48
      rw [zg5]
      refine zbd hV2 (hx2_.trans (hx3_.trans (hx4_.trans (hx9_.trans (hx10_.trans hx12_))))) ?_
      refine zce zck hst (hx10_.trans hx12_) fun v50 o50=>?_
      refine (zpR h0 (e0.trans (hx1_.trans (hx2_.trans (hx3_.trans (hx4_.trans (hx9_.trans (hx10_.trans hx12_))))))) o50.is (hx10_.trans hx12_) (by assumption) (by assumption) (by assumption)).mono ?_
      rintro r52 w13_ ⟨hx13_,o52⟩
      have o52:=o52.toI
      have hs_hx13_:=hx13_.size
      refine zaF zck (hst.ext (hx10_.trans (hx12_.trans hx13_))) (o52.ext (Ext.refl w13_)) (by omega) fun w14_ hc14_ hst_s14=>?_
      have hs_hc14_:=hc14_.size
      have hv4_c14:=(hv4.ext (hx3_.trans (hx4_.trans (hx9_.trans (hx10_.trans (hx12_.trans hx13_)))))).chg hc14_ (by omega) (by omega)
      have o12_c14:=(o12.ext (hx4_.trans (hx9_.trans (hx10_.trans (hx12_.trans hx13_))))).chg hc14_ (by omega)
      have hrow_c14:=(hrow.ext (hx10_.trans (hx12_.trans hx13_))).chg hc14_ (by omega)
      have o14_c14:=(o14.ext (hx9_.trans (hx10_.trans (hx12_.trans hx13_)))).chg hc14_ (by omega)
      have o32_c14:=(o32.ext (hx12_.trans hx13_)).chg hc14_ (by omega)
      have o31_c14:=(o31.ext (hx10_.trans (hx12_.trans hx13_))).chg hc14_ (by omega)
      have o50_c14:=(o50.ext (hx10_.trans (hx12_.trans hx13_))).chg hc14_ (by omega)
      have o52_c14:=(o52.ext (Ext.refl w13_)).chg hc14_ (by omega)
      refine zfk (α:=Int) u33 ty3 z3 zc3 (by decide) (hrow_c14.ext (Ext.refl w14_)) (ownI_int (lo:=w14_.heap.size) (hi:=w14_.heap.size) (by first | assumption | (unfold I64 at *;omega))) (by rw [zam];omega) (by omega) fun v56 w15_ lo56 hi56 hc15_ o56 hd56=>?_
      have hs_hc15_:=hc15_.size
      have hv4_c15:=(hv4_c14.ext (Ext.refl w14_)).chg hc15_ (by omega) (by omega)
      have o12_c15:=(o12_c14.ext (Ext.refl w14_)).chg hc15_ (by omega)
      have o14_c15:=(o14_c14.ext (Ext.refl w14_)).chg hc15_ (by omega)
      have hst_s14_c15:=(hst_s14.ext (Ext.refl w14_)).chg hc15_ (by omega) (by omega)
      have o32_c15:=(o32_c14.ext (Ext.refl w14_)).chg hc15_ (by omega)
      have o31_c15:=(o31_c14.ext (Ext.refl w14_)).chg hc15_ (by omega)
      have o50_c15:=(o50_c14.ext (Ext.refl w14_)).chg hc15_ (by omega)
      have o52_c15:=(o52_c14.ext (Ext.refl w14_)).chg hc15_ (by omega)
      refine zag (by omega) ?_
      refine ⟨m6-1,by omega,k+1,by omega,zec c s (zeK c s picks[k]),went++[zeK c s picks[k]],_,(w12_.heap.size),(w13_.heap.size),(lo56),(hi56),rfl,(Ext.chgI (Ext.chgI (((hx9_.trans hx10_).trans hx12_).trans hx13_) hc14_ (by omega)) hc15_ (by omega)),?_⟩
      refine ⟨by omega,?_,zjL hc hs hgo,by simp;omega,(hst_s14_c15.ext (Ext.refl w15_)),(o56.ext (Ext.refl w15_)),?_⟩
      · rw [hrun,zmr (by omega) (by omega),List.getElem_take]
      omega
    refine zce zck hst (Ext.refl w9_) fun v57 o57=>?_
    refine zaF zck (hv4.ext (hx3_.trans (hx4_.trans hx9_))) (o57.ext (Ext.refl w9_)) (by omega) fun w16_ hc16_ hv4_s16=>?_
    have hs_hc16_:=hc16_.size
    have o12_c16:=(o12.ext (hx4_.trans hx9_)).chg hc16_ (by omega)
    have hrow_c16:=(hrow.ext (Ext.refl w9_)).chg hc16_ (by omega)
    have o14_c16:=(o14.ext hx9_).chg hc16_ (by omega)
    have hst_c16:=(hst.ext (Ext.refl w9_)).chg hc16_ (by omega) (by omega)
    have o57_c16:=(o57.ext (Ext.refl w9_)).chg hc16_ (by omega)
    refine zbh zck hv4_s16 (Ext.refl w16_) fun r4 hr4=>?_
    replace hr4:=hr4.ext (Ext.refl w16_)
    refine ⟨(Ext.chgI ((((hx1_.trans hx2_).trans hx3_).trans hx4_).trans hx9_) hc16_ (by omega)),?_⟩
    have hR:runOf c picks=(s,went):=by unfold runOf;rw [if_pos hc,hrun,List.drop_eq_nil_of_le (by omega)];rfl
    rw [hR]
    exact ⟨_,_,_,_,_,_,rfl,hr4,(hrow_c16.ext (Ext.refl w16_)).own,by omega,by omega,by omega,by omega,by omega⟩
  refine zce zck hst (Ext.refl w9_) fun v57 o57=>?_
  refine zaF zck (hv4.ext (hx3_.trans (hx4_.trans hx9_))) (o57.ext (Ext.refl w9_)) (by omega) fun w17_ hc17_ hv4_s17=>?_
  have hs_hc17_:=hc17_.size
  have o12_c17:=(o12.ext (hx4_.trans hx9_)).chg hc17_ (by omega)
  have hrow_c17:=(hrow.ext (Ext.refl w9_)).chg hc17_ (by omega)
  have o14_c17:=(o14.ext hx9_).chg hc17_ (by omega)
  have hst_c17:=(hst.ext (Ext.refl w9_)).chg hc17_ (by omega) (by omega)
  have o57_c17:=(o57.ext (Ext.refl w9_)).chg hc17_ (by omega)
  refine zbh zck hv4_s17 (Ext.refl w17_) fun r4 hr4=>?_
  replace hr4:=hr4.ext (Ext.refl w17_)
  refine ⟨(Ext.chgI ((((hx1_.trans hx2_).trans hx3_).trans hx4_).trans hx9_) hc17_ (by omega)),?_⟩
  have hR:runOf c picks=(s,went):=by unfold runOf;rw [if_pos hc,hrun,List.drop_eq_nil_of_le (by omega)];rfl
  rw [hR]
  exact ⟨_,_,_,_,_,_,rfl,hr4,(hrow_c17.ext (Ext.refl w17_)).own,by omega,by omega,by omega,by omega,by omega⟩
mutual
def quS:DStmt→DStmt
  | .mk k n t b e=>if k=5 then zhx else .mk k n t (quL b) (quL e)
def quL:List DStmt→List DStmt
  | []=>[]
  | x :: l=>quS x :: quL l
end
theorem zrN (x:DStmt):quS x=if x.kind=5 then zhx else .mk x.kind x.name x.term (quL x.body) (quL x.els):=by cases x;rw [quS];rfl
theorem zrO:∀ l:List DStmt,(quL l).length=l.length
 | []=>by rw [quL]
 | x :: l=>by rw [quL,List.length_cons,List.length_cons,zrO l]
theorem zj3:∀ l m:List DStmt,quL (l++m)=quL l++quL m
 | [],m=>by rw [quL];rfl
 | x :: l,m=>by rw [List.cons_append,quL,quL,zj3 l m];rfl
theorem zuE (x:DStmt):quL [x]=[quS x]:=by rw [quL,quL]
mutual
theorem zvB:∀ x:DStmt,szS (quS x)≤szS x
  | .mk k n t b e=>by
    have h1:=zoU b
    have h2:=zoU e
    rw [quS]
    split
    · simp only [zhx,szS,szL];omega
    simp only [szS];omega
theorem zoU:∀ l:List DStmt,szL (quL l)≤szL l
  | []=>by rw [quL];omega
  | x :: l=>by
    have h1:=zvB x
    have h2:=zoU l
    rw [quL,szL,szL];omega
end
theorem znL {y:DStmt}:∀ {l:List DStmt},y∈quL l→∃ x∈l,y=quS x
 | [],h=>by rw [quL] at h;cases h
 | x :: l,h=>by
   rw [quL] at h
   rcases List.mem_cons.1 h with h | h
   · exact ⟨x,by simp,h⟩
   obtain ⟨z,hz,e⟩:=znL h
   exact ⟨z,by simp [hz],e⟩
theorem zwI {c:Scp}:∀ (n:Nat) (t:DStmt),StR c n t→StR c n (quS t):=by
 have h0:∀ t:DStmt,St0 c t→St0 c (quS t):=by
   rintro ⟨k,nm,t,b,e⟩ h
   rw [quS]
   split
   · exact .inr (.inr (.inr ⟨rfl,rfl,rfl,rfl,rfl⟩))
   have hb:b=[]:=by rcases h with h | h | h | h<;>exact h.2.2.2.1
   have he:e=[]:=by rcases h with h | h | h | h<;>exact h.2.2.2.2
   subst hb he
   rw [quL]
   exact h
 intro n
 induction n with
 | zero=>exact fun t h=>StR.base (h0 t h.zero)
 | succ n ih=>
   rintro t h
   rcases h.succ with h | ⟨h1,h2,h3,h4,h5⟩
   · exact StR.base (h0 t h)
   rw [zrN,if_neg (by omega)]
   have hl:∀ l:List DStmt,(∀ x∈l,StR c n x)→∀ y∈quL l,StR c n y:=fun l hl y hy=>by
     obtain ⟨x,hx,rfl⟩:=znL hy
     exact ih x (hl x hx)
   refine StR.more ?_ h2 h3 (hl _ h4) (hl _ h5)
   rcases h1 with h1 | ⟨h1,h6⟩
   · exact .inl h1
   refine .inr ⟨h1,?_⟩
   show quL t.els=[]
   rw [h6,quL]
section
variable (G L P:List ByteArray)
mutual
theorem zvC:∀ (x:DStmt) (a:Nat),∀ y∈emS G L P (quS x) a,y.op≠5
  | .mk k n t b e,a,y,h=>by
    rw [quS] at h
    split at h
    · simp only [zhx,emS] at h
      simp at h
      rw [h];simp
    rename_i h5
    have hb:=fun a y h=>zoV b a y h
    have he:=fun a y h=>zoV e a y h
    rw [emS,if_neg h5] at h
    repeat' split at h
    all_goals first
      | (simp only [List.mem_cons,List.not_mem_nil,or_false] at h;rw [h];simp;done)
      | skip
    · simp only [List.mem_cons,List.mem_append,List.not_mem_nil,or_false] at h
      rcases h with rfl | h | rfl
      · simp
      · exact hb _ _ h
      simp
    · simp only [List.mem_cons] at h
      rcases h with rfl | h
      · simp
      exact hb _ _ h
    · simp only [List.mem_cons,List.mem_append] at h
      rcases h with rfl | h | rfl | h
      · simp
      · exact hb _ _ h
      · simp
      exact he _ _ h
    cases h
theorem zoV:∀ (l:List DStmt) (a:Nat),∀ y∈emL G L P (quL l) a,y.op≠5
  | [],a,y,h=>by rw [quL,emL] at h;cases h
  | x :: l,a,y,h=>by
    rw [quL,emL] at h
    rcases List.mem_append.1 h with h | h
    · exact zvC x a y h
    exact zoV l _ y h
end
end
def quP (p:DProg):DProg:=⟨p.globals,p.locks,p.procs.map fun x=>⟨x.name,quL x.body⟩⟩
theorem zjh (p:DProg):(quP p).procs.map DProc.name=p.procs.map DProc.name:=by simp [quP,Function.comp_def]
theorem zvD {p:DProg} (h:ProgR p):ProgR (quP p):=by
 refine ⟨h.g,h.l,by rw [zjh];exact h.n,fun x hx=>?_⟩
 rw [zjh]
 have hx:x∈p.procs.map fun x=>(⟨x.name,quL x.body⟩:DProc):=hx
 obtain ⟨y,hy,rfl⟩:=List.mem_map.1 hx
 have hb:=h.b y hy
 refine ⟨fun z hz=>?_,Nat.le_trans (zoU _) hb.2⟩
 obtain ⟨u,hu,rfl⟩:=znL hz
 exact zwI 2 u (hb.1 u hu)
theorem ztK {G L P:List ByteArray}:∀ (l:List DProc) (a:Nat),∀ y∈emP G L P (l.map fun x=>(⟨x.name,quL x.body⟩:DProc)) a,y.op≠5
 | [],a,y,h=>by rw [List.map_nil,emP] at h;cases h
 | x :: l,a,y,h=>by
   rw [List.map_cons,emP] at h
   rcases List.mem_append.1 h with h | h
   · exact zoV G L P _ _ y h
   rcases List.mem_cons.1 h with rfl | h
   · decide
   exact ztK l _ y h
structure QuC (c:DCode):Prop where
 r:CodeR c
 no:∀ i,(zap c i).op≠5
 mn:zcZ c=0
theorem zwf {p:DProg} (h:ProgR p):QuC (zbB (quP p)):=by
 refine ⟨(zhE (zvD h)).1,fun i=>?_,?_⟩
 · have hins:(zbB (quP p)).ins=emP p.globals p.locks ((quP p).procs.map DProc.name) (p.procs.map fun x=>(⟨x.name,quL x.body⟩:DProc)) 0:=rfl
   rcases Nat.lt_or_ge i (zbB (quP p)).ins.length with hi | hi
   · rw [←zaP hi]
     exact ztK _ _ _ (by rw [←hins];exact List.getElem_mem hi)
   have:zap (zbB (quP p)) i=zwq:=by unfold zap;rw [List.getD_eq_getElem?_getD,List.getElem?_eq_none hi];rfl
   rw [this];decide
 obtain ⟨k,hk,hn⟩:=h.n
 have:(zbB (quP p)).procs=prc4.take (1+k):=by rw [←hn,←zjh];rfl
 unfold zcZ
 rw [this]
 match k,hk with
 | 0,_=>rfl
 | 1,_=>rfl
 | 2,_=>rfl
 | 3,_=>rfl
section
variable {c:DCode}
theorem QuC.root (h:QuC c) {r:Nat} (k:RootP c r):r=zcZ c:=by
 cases k with
 | main=>rfl
 | spawn _ _ h2 _=>obtain ⟨i,_,_,ho,_⟩:=h2;exact absurd ho (h.no i)
theorem QuC.start (h:QuC c) (r:Nat):zeD c r=[]:=by
 unfold zeD
 rw [List.flatMap_eq_nil_iff]
 intro p _
 unfold zcr
 rw [List.filter_eq_nil_iff]
 intro i _ hd
 have:StP c r p i:=by simpa using hd
 exact h.no i this.2.1
theorem QuC.sing (h:QuC c):zfZ c (zcZ c):=.inl ⟨rfl,h.start _⟩
theorem QuC.races (h:QuC c):zl7 c=[]:=by
 refine List.eq_nil_iff_forall_not_mem.2 fun x hx=>?_
 unfold zl7 at hx
 rw [if_pos h.r,zl1] at hx
 obtain ⟨i,hi,hx⟩:=List.mem_flatMap.1 hx
 rw [zkX (List.mem_range.1 hi)] at hx
 obtain ⟨b,_,hx⟩:=List.mem_flatMap.1 hx
 unfold rc1 at hx
 split at hx
 · rename_i hcl
   obtain ⟨r,s,hr,hs,_,_,k⟩:=hcl.2
   rw [h.root hr,h.root hs] at k
   rcases k with k | k
   · exact k rfl
   exact k h.sing
 cases hx
theorem QuC.roots (h:QuC c):zb7 (zbK c)=[0]:=by
 have h8:=h.r.1.procs8
 have:zbK c=1:=by
   refine Nat.eq_of_testBit_eq fun i=>?_
   rw [show (1:Nat)=2^0 from rfl,Nat.testBit_two_pow]
   by_cases e:i=0
   · subst e
     rw [zfQ.2 ⟨by omega,h.mn▸RootP.main⟩];rfl
   rw [decide_eq_false (fun e'=>e e'.symm)]
   cases hb:(zbK c).testBit i with
   | false=>rfl
   | true=>exact absurd ((h.root (zfQ.1 hb).2).trans h.mn) e
 rw [this];decide +kernel
theorem QuC.step (h:QuC c) {s:DState} {t:Int}:(zec c s t).stacks.length=s.stacks.length:=by
 have h5:(atI c s t).op≠5:=h.no _
 unfold zec
 repeat' split
 · simp
 · simp
 rw [List.length_set]
 unfold zaV
 rw [if_neg h5]
 repeat' split
 all_goals rfl
theorem zrP {s:DState} (h1:s.stacks.length=1) (hn:¬(zcW c s).length=0):zcW c s=[0]:=by
 unfold zcW at *
 rw [h1] at hn ⊢
 rw [zco] at hn ⊢
 split
 · rw [zco];rfl
 rename_i hg
 rw [if_neg hg,zco] at hn
 exact absurd rfl hn
theorem zoW {s:DState} {p:Int} (h1:s.stacks.length=1) (hn:¬(zcW c s).length=0):zeK c s p=0:=by
 unfold zeK
 rw [zrP h1 hn]
 show List.getD [0] ((max p 0).tmod 1).toNat 0=0
 rw [Int.tmod_one];rfl
theorem QuC.run (h:QuC c):∀ (l l':List Int) (s:DState) (w:List Int),l.length=l'.length→s.stacks.length=1→zmE c l s w=zmE c l' s w∧(zmE c l s w).1.stacks.length=1
 | [],[],s,w,_,h1=>⟨rfl,h1⟩
 | [],_ :: _,_,_,hl,_=>by simp at hl
 | _ :: _,[],_,_,hl,_=>by simp at hl
 | p :: l,p' :: l',s,w,hl,h1=>by
   rw [zmE,zmE]
   by_cases hn:(zcW c s).length=0
   · rw [if_pos hn,if_pos hn];exact ⟨rfl,h1⟩
   rw [if_neg hn,if_neg hn,zoW h1 hn,zoW h1 hn]
   exact h.run l l' _ _ (by simpa using hl) (by rw [h.step];exact h1)
theorem QuC.runOf (h:QuC c) {l l':List Int} (hl:l.length=l'.length):Go.Proofs.YtcnglfeoglgebaaGreat.runOf c l=Go.Proofs.YtcnglfeoglgebaaGreat.runOf c l'∧(Go.Proofs.YtcnglfeoglgebaaGreat.runOf c l).1.stacks.length=1:=by
 unfold Go.Proofs.YtcnglfeoglgebaaGreat.runOf
 rw [if_pos h.r,if_pos h.r]
 exact h.run _ _ _ _ (by rw [List.length_take,List.length_take,hl]) rfl
end
def F177 (a0 a1 a2:Value) (w:World) (R:VW):Prop:=
 rN 29 3 a0 w fun x10=>
 LOOPI [11] [(iV 0)] w fun u2 w next2=>
 rC (u2 11) x10 w fun x12=>
 BR x12
 (rX 29 a0 (u2 11) w fun x13=>
 rL 56 x13 w fun x14=>
 oP (Instr.alloc 56 true (.tuple #[])) w fun x8 w=>
 oS 56 x8 x14 w fun w=>
 NIL a2 <|
 rL 3 a2 w fun x17=>
 rB .sub 3 T0 U0 x17 (iV 1) w fun x18=>
 NIL a2 <|
 oS 3 a2 x18 w fun w=>
 NIL a2 <|
 rL 3 a2 w fun x22=>
 rB .lss 3 T0 U0 x22 (iV 0) w fun x23=>
 BR x23
 (R (Value.bool false) w)
 (rL 56 x8 w fun x25=>
 cL 242 [x25] w fun x26 w=>
 rD (Op.unary .not x26) w fun x27=>
 BR x27
 (R (Value.bool false) w)
 (JOIN [] (fun J8=>
 rF 56 x8 0 w fun x29=>
 rL 3 x29 w fun x30=>
 rB .neq 3 T0 U0 x30 (iV 2) w fun x31=>
 BR x31
 (rF 56 x8 0 w fun x33=>
 rL 3 x33 w fun x34=>
 rB .neq 3 T0 U0 x34 (iV 3) w fun x35=>
 BR x35
 (rA (u2 11) (iV 1) w fun x57=>
 next2 [x57] w)
 (J8 [] w))
 (J8 [] w)) (fun u8 w=>
 rB .eql 3 T0 U0 a1 (iV 0) w fun x38=>
 BR x38
 (R (Value.bool false) w)
 (rF 56 x8 3 w fun x40=>
 rL 29 x40 w fun x41=>
 rB .sub 3 T0 U0 a1 (iV 1) w fun x43=>
 cL 177 [x41,x43,a2] w fun x45 w=>
 rD (Op.unary .not x45) w fun x46=>
 BR x46
 (R (Value.bool false) w)
 (rF 56 x8 4 w fun x49=>
 rL 29 x49 w fun x50=>
 rB .sub 3 T0 U0 a1 (iV 1) w fun x52=>
 cL 177 [x50,x52,a2] w fun x54 w=>
 rD (Op.unary .not x54) w fun x55=>
 BR x55
 (R (Value.bool false) w)
 (rA (u2 11) (iV 1) w fun x57=>
 next2 [x57] w)))))))
 (R (Value.bool true) w)
def cfg177:Cfg:=⟨extL,[(8,136902082560,[])],[(2,288230376151710016,[11])],[],[],[],[]⟩
theorem F177_call {a0 a1 a2:Value} {w:World} {R:VW} (h:F177 a0 a1 a2 w R):cL 177 [a0,a1,a2] w R:=co (g:=cfg177) Tryz.func177 (by kernel_rfl) (by kernel_rfl) (by kernel_rfl) h
def F242 (a0:Value) (w:World) (R:VW):Prop:=
 oP (Instr.box 56 a0) w fun x1 w=>
 rF 56 x1 0 w fun x3=>
 rL 3 x3 w fun x4=>
 rB .eql 3 T0 U0 x4 (iV 1) w fun x6=>
 BR x6
 (rF 56 x1 1 w fun x7=>
 rL 9 x7 w fun x8=>
 cL 176 [x8] w fun x9 w=>
 BR x9
 (rF 56 x1 2 w fun x11=>
 rL 53 x11 w fun x12=>
 cL 189 [x12] w fun x13 w=>
 BR x13
 (rF 56 x1 3 w fun x16=>
 rL 29 x16 w fun x17=>
 rN 29 3 x17 w fun x18=>
 rB .eql 3 T0 U0 x18 (iV 0) w fun x19=>
 BR x19
 (rF 56 x1 4 w fun x22=>
 rL 29 x22 w fun x23=>
 rN 29 3 x23 w fun x24=>
 rB .eql 3 T0 U0 x24 (iV 0) w fun x25=>
 R x25 w)
 (R (Value.bool false) w))
 (R (Value.bool false) w))
 (R (Value.bool false) w))
 (rB .eql 3 T0 U0 x4 (iV 2) w fun x28=>
 BR x28
 (rF 56 x1 1 w fun x29=>
 rL 9 x29 w fun x30=>
 rB .eql 9 T0 U0 x30 (Value.string (ByteArray.mk #[])) w fun x31=>
 BR x31
 (rF 56 x1 2 w fun x33=>
 rL 53 x33 w fun x34=>
 cL 189 [x34] w fun x35 w=>
 R x35 w)
 (R (Value.bool false) w))
 (rB .eql 3 T0 U0 x4 (iV 3) w fun x38=>
 BR x38
 (rF 56 x1 1 w fun x39=>
 rL 9 x39 w fun x40=>
 rB .eql 9 T0 U0 x40 (Value.string (ByteArray.mk #[])) w fun x41=>
 BR x41
 (rF 56 x1 2 w fun x43=>
 rL 53 x43 w fun x44=>
 cL 189 [x44] w fun x45 w=>
 BR x45
 (rF 56 x1 4 w fun x48=>
 rL 29 x48 w fun x49=>
 rN 29 3 x49 w fun x50=>
 rB .eql 3 T0 U0 x50 (iV 0) w fun x51=>
 R x51 w)
 (R (Value.bool false) w))
 (R (Value.bool false) w))
 (rB .eql 3 T0 U0 x4 (iV 4) w fun x54=>
 BR x54
 (rF 56 x1 1 w fun x58=>
 rL 9 x58 w fun x59=>
 cL 176 [x59] w fun x60 w=>
 BR x60
 (rF 56 x1 2 w fun x62=>
 rL 53 x62 w fun x63=>
 cL 190 [x63] w fun x64 w=>
 BR x64
 (rF 56 x1 3 w fun x67=>
 rL 29 x67 w fun x68=>
 rN 29 3 x68 w fun x69=>
 rB .eql 3 T0 U0 x69 (iV 0) w fun x70=>
 BR x70
 (rF 56 x1 4 w fun x73=>
 rL 29 x73 w fun x74=>
 rN 29 3 x74 w fun x75=>
 rB .eql 3 T0 U0 x75 (iV 0) w fun x76=>
 R x76 w)
 (R (Value.bool false) w))
 (R (Value.bool false) w))
 (R (Value.bool false) w))
 (rB .eql 3 T0 U0 x4 (iV 5) w fun x55=>
 BR x55
 (rF 56 x1 1 w fun x58=>
 rL 9 x58 w fun x59=>
 cL 176 [x59] w fun x60 w=>
 BR x60
 (rF 56 x1 2 w fun x62=>
 rL 53 x62 w fun x63=>
 cL 190 [x63] w fun x64 w=>
 BR x64
 (rF 56 x1 3 w fun x67=>
 rL 29 x67 w fun x68=>
 rN 29 3 x68 w fun x69=>
 rB .eql 3 T0 U0 x69 (iV 0) w fun x70=>
 BR x70
 (rF 56 x1 4 w fun x73=>
 rL 29 x73 w fun x74=>
 rN 29 3 x74 w fun x75=>
 rB .eql 3 T0 U0 x75 (iV 0) w fun x76=>
 R x76 w)
 (R (Value.bool false) w))
 (R (Value.bool false) w))
 (R (Value.bool false) w))
 (rB .eql 3 T0 U0 x4 (iV 6) w fun x56=>
 BR x56
 (rF 56 x1 1 w fun x58=>
 rL 9 x58 w fun x59=>
 cL 176 [x59] w fun x60 w=>
 BR x60
 (rF 56 x1 2 w fun x62=>
 rL 53 x62 w fun x63=>
 cL 190 [x63] w fun x64 w=>
 BR x64
 (rF 56 x1 3 w fun x67=>
 rL 29 x67 w fun x68=>
 rN 29 3 x68 w fun x69=>
 rB .eql 3 T0 U0 x69 (iV 0) w fun x70=>
 BR x70
 (rF 56 x1 4 w fun x73=>
 rL 29 x73 w fun x74=>
 rN 29 3 x74 w fun x75=>
 rB .eql 3 T0 U0 x75 (iV 0) w fun x76=>
 R x76 w)
 (R (Value.bool false) w))
 (R (Value.bool false) w))
 (R (Value.bool false) w))
 (rB .eql 3 T0 U0 x4 (iV 7) w fun x57=>
 BR x57
 (rF 56 x1 1 w fun x58=>
 rL 9 x58 w fun x59=>
 cL 176 [x59] w fun x60 w=>
 BR x60
 (rF 56 x1 2 w fun x62=>
 rL 53 x62 w fun x63=>
 cL 190 [x63] w fun x64 w=>
 BR x64
 (rF 56 x1 3 w fun x67=>
 rL 29 x67 w fun x68=>
 rN 29 3 x68 w fun x69=>
 rB .eql 3 T0 U0 x69 (iV 0) w fun x70=>
 BR x70
 (rF 56 x1 4 w fun x73=>
 rL 29 x73 w fun x74=>
 rN 29 3 x74 w fun x75=>
 rB .eql 3 T0 U0 x75 (iV 0) w fun x76=>
 R x76 w)
 (R (Value.bool false) w))
 (R (Value.bool false) w))
 (R (Value.bool false) w))
 (rB .eql 3 T0 U0 x4 (iV 8) w fun x79=>
 BR x79
 (rF 56 x1 1 w fun x80=>
 rL 9 x80 w fun x81=>
 rB .eql 9 T0 U0 x81 (Value.string (ByteArray.mk #[])) w fun x82=>
 BR x82
 (rF 56 x1 2 w fun x84=>
 rL 53 x84 w fun x85=>
 cL 190 [x85] w fun x86 w=>
 BR x86
 (rF 56 x1 3 w fun x89=>
 rL 29 x89 w fun x90=>
 rN 29 3 x90 w fun x91=>
 rB .eql 3 T0 U0 x91 (iV 0) w fun x92=>
 BR x92
 (rF 56 x1 4 w fun x95=>
 rL 29 x95 w fun x96=>
 rN 29 3 x96 w fun x97=>
 rB .eql 3 T0 U0 x97 (iV 0) w fun x98=>
 R x98 w)
 (R (Value.bool false) w))
 (R (Value.bool false) w))
 (R (Value.bool false) w))
 (R (Value.bool false) w))))))))
def cfg242:Cfg:=⟨extL,[],[],[],[],[],[]⟩
theorem F242_call {a0:Value} {w:World} {R:VW} (h:F242 a0 w R):cL 242 [a0] w R:=co (g:=cfg242) Tryz.func242 (by kernel_rfl) (by kernel_rfl) (by kernel_rfl) h
theorem zmt {w:World} {v0:Value} {W0:World} {t:DStmt}  (h0:Is W0 v0 t) (e0:Ext W0 w) (hr:zwd t) :
   CALL Tryz.prog 242 [v0] w fun r w'=>Ext w w'∧(r=.bool true):=by
 refine F242_call ?_
 unfold F242
 have hbe:t.kind≠2→t.kind≠3→t.body=[]∧t.els=[]:=fun n2 n3=>by
   rcases hr with ⟨k1,k2,k3,k4,k5⟩ | ⟨k1,k2,k3,k4,k5⟩ | ⟨k1,k2,k3,k4,k5⟩ | ⟨k1,k2,k3⟩ | ⟨k1,k2,k3,k4⟩
   · exact ⟨k4,k5⟩
   · exact ⟨k4,k5⟩
   · exact ⟨k4,k5⟩
   · omega
   omega
 refine zaz zc2 rfl h0 e0 fun w1_ hx1_ hA1 hV1=>?_
 refine zaa zhJ ?_
 refine zac ty3 (zcM hA1) (Ext.refl w1_) fun hI4=>?_
 refine zaf ?_
 refine br (fun c1=>?_) (fun c1=>?_)
 · refine zaa zef ?_
   refine zas ty9 (zbY hA1) (Ext.refl w1_) fun hS8=>?_
   refine (zbJ ).mono ?_
   rintro _ w2_ ⟨hx2_,rfl⟩
   refine zb4 (fun c2=>?_) (fun c2=>?_)
   · refine zaa zfd ?_
     refine zab zcd (zcx hA1) hx2_ fun v12 h12=>?_
     refine (zcv h12 hx2_).mono ?_
     rintro _ w3_ ⟨hx3_,rfl⟩
     refine zb4 (fun c3=>?_) (fun c3=>?_)
     · refine zaa zeg ?_
       refine zab zfc (zcN hA1) (hx2_.trans hx3_) fun v17 h17=>?_
       have hln18:=zah h17
       refine zae u29 h17 ?_
       refine zaf ?_
       refine br (fun c4=>?_) (fun c4=>?_)
       · refine zaa zdF ?_
         refine zab zfc (zcy hA1) (hx2_.trans hx3_) fun v23 h23=>?_
         have hln24:=zah h23
         refine zae u29 h23 ?_
         refine zaf ?_
         refine ⟨(hx1_.trans (hx2_.trans hx3_)),?_⟩
         rcases hr with ⟨k1,k2,k3,k4,k5⟩ | ⟨k1,k2,k3,k4,k5⟩ | ⟨k1,k2,k3,k4,k5⟩ | ⟨k1,k2,k3⟩ | ⟨k1,k2,k3,k4⟩<;>first | (exfalso;omega) | simp_all
       refine ⟨(hx1_.trans (hx2_.trans hx3_)),?_⟩
       rcases hr with ⟨k1,k2,k3,k4,k5⟩ | ⟨k1,k2,k3,k4,k5⟩ | ⟨k1,k2,k3,k4,k5⟩ | ⟨k1,k2,k3⟩ | ⟨k1,k2,k3,k4⟩<;>first | (exfalso;omega) | simp_all
     refine ⟨(hx1_.trans (hx2_.trans hx3_)),?_⟩
     rcases hr with ⟨k1,k2,k3,k4,k5⟩ | ⟨k1,k2,k3,k4,k5⟩ | ⟨k1,k2,k3,k4,k5⟩ | ⟨k1,k2,k3⟩ | ⟨k1,k2,k3,k4⟩<;>first | (exfalso;omega) | simp_all
   refine ⟨(hx1_.trans hx2_),?_⟩
   rcases hr with ⟨k1,k2,k3,k4,k5⟩ | ⟨k1,k2,k3,k4,k5⟩ | ⟨k1,k2,k3,k4,k5⟩ | ⟨k1,k2,k3⟩ | ⟨k1,k2,k3,k4⟩<;>first | (exfalso;omega) | simp_all
 refine zaf ?_
 refine br (fun c5=>?_) (fun c5=>?_)
 · refine zaa zef ?_
   refine zas ty9 (zbY hA1) (Ext.refl w1_) fun hS30=>?_
   refine zaM ?_
   refine br (fun c6=>?_) (fun c6=>?_)
   · refine zaa zfd ?_
     refine zab zcd (zcx hA1) (Ext.refl w1_) fun v34 h34=>?_
     refine (zcv h34 (Ext.refl w1_)).mono ?_
     rintro _ w4_ ⟨hx4_,rfl⟩
     refine ⟨(hx1_.trans hx4_),?_⟩
     rcases hr with ⟨k1,k2,k3,k4,k5⟩ | ⟨k1,k2,k3,k4,k5⟩ | ⟨k1,k2,k3,k4,k5⟩ | ⟨k1,k2,k3⟩ | ⟨k1,k2,k3,k4⟩<;>first | (exfalso;omega) | simp_all
   refine ⟨hx1_,?_⟩
   rcases hr with ⟨k1,k2,k3,k4,k5⟩ | ⟨k1,k2,k3,k4,k5⟩ | ⟨k1,k2,k3,k4,k5⟩ | ⟨k1,k2,k3⟩ | ⟨k1,k2,k3,k4⟩<;>first | (exfalso;omega) | simp_all
 refine zaf ?_
 refine br (fun c7=>?_) (fun c7=>?_)
 · refine zaa zef ?_
   refine zas ty9 (zbY hA1) (Ext.refl w1_) fun hS40=>?_
   refine zaM ?_
   refine br (fun c8=>?_) (fun c8=>?_)
   · refine zaa zfd ?_
     refine zab zcd (zcx hA1) (Ext.refl w1_) fun v44 h44=>?_
     refine (zcv h44 (Ext.refl w1_)).mono ?_
     rintro _ w5_ ⟨hx5_,rfl⟩
     refine zb4 (fun c9=>?_) (fun c9=>?_)
     · refine zaa zdF ?_
       refine zab zfc (zcy hA1) hx5_ fun v49 h49=>?_
       have hln50:=zah h49
       refine zae u29 h49 ?_
       refine zaf ?_
       refine ⟨(hx1_.trans hx5_),?_⟩
       rcases hr with ⟨k1,k2,k3,k4,k5⟩ | ⟨k1,k2,k3,k4,k5⟩ | ⟨k1,k2,k3,k4,k5⟩ | ⟨k1,k2,k3⟩ | ⟨k1,k2,k3,k4⟩<;>first | (exfalso;omega) | simp_all
     refine ⟨(hx1_.trans hx5_),?_⟩
     rcases hr with ⟨k1,k2,k3,k4,k5⟩ | ⟨k1,k2,k3,k4,k5⟩ | ⟨k1,k2,k3,k4,k5⟩ | ⟨k1,k2,k3⟩ | ⟨k1,k2,k3,k4⟩<;>first | (exfalso;omega) | simp_all
   refine ⟨hx1_,?_⟩
   rcases hr with ⟨k1,k2,k3,k4,k5⟩ | ⟨k1,k2,k3,k4,k5⟩ | ⟨k1,k2,k3,k4,k5⟩ | ⟨k1,k2,k3⟩ | ⟨k1,k2,k3,k4⟩<;>first | (exfalso;omega) | simp_all
 refine zaf ?_
 refine br (fun c10=>?_) (fun c10=>?_)
 · refine zaa zef ?_
   refine zas ty9 (zbY hA1) (Ext.refl w1_) fun hS59=>?_
   refine (zbJ ).mono ?_
   rintro _ w6_ ⟨hx6_,rfl⟩
   refine zb4 (fun c11=>?_) (fun c11=>?_)
   · refine zaa zfd ?_
     refine zab zcd (zcx hA1) hx6_ fun v63 h63=>?_
     refine (zcw h63 hx6_).mono ?_
     rintro _ w7_ ⟨hx7_,rfl⟩
     refine br (fun c12=>?_) (fun c12=>?_)
     · refine zaa zeg ?_
       refine zab zfc (zcN hA1) (hx6_.trans hx7_) fun v68 h68=>?_
       have hln69:=zah h68
       refine zae u29 h68 ?_
       refine zaf ?_
       refine br (fun c13=>?_) (fun c13=>?_)
       · refine zaa zdF ?_
         refine zab zfc (zcy hA1) (hx6_.trans hx7_) fun v74 h74=>?_
         have hln75:=zah h74
         refine zae u29 h74 ?_
         refine zaf ?_
         refine ⟨(hx1_.trans (hx6_.trans hx7_)),?_⟩
         rcases hr with ⟨k1,k2,k3,k4,k5⟩ | ⟨k1,k2,k3,k4,k5⟩ | ⟨k1,k2,k3,k4,k5⟩ | ⟨k1,k2,k3⟩ | ⟨k1,k2,k3,k4⟩<;>first | (exfalso;omega) | simp_all
       refine ⟨(hx1_.trans (hx6_.trans hx7_)),?_⟩
       rcases hr with ⟨k1,k2,k3,k4,k5⟩ | ⟨k1,k2,k3,k4,k5⟩ | ⟨k1,k2,k3,k4,k5⟩ | ⟨k1,k2,k3⟩ | ⟨k1,k2,k3,k4⟩<;>first | (exfalso;omega) | simp_all
     refine ⟨(hx1_.trans (hx6_.trans hx7_)),?_⟩
     rcases hr with ⟨k1,k2,k3,k4,k5⟩ | ⟨k1,k2,k3,k4,k5⟩ | ⟨k1,k2,k3,k4,k5⟩ | ⟨k1,k2,k3⟩ | ⟨k1,k2,k3,k4⟩<;>first | (exfalso;omega) | simp_all
   refine ⟨(hx1_.trans hx6_),?_⟩
   rcases hr with ⟨k1,k2,k3,k4,k5⟩ | ⟨k1,k2,k3,k4,k5⟩ | ⟨k1,k2,k3,k4,k5⟩ | ⟨k1,k2,k3⟩ | ⟨k1,k2,k3,k4⟩<;>first | (exfalso;omega) | simp_all
 refine zaf ?_
 refine br (fun c14=>?_) (fun c14=>?_)
 · refine zaa zef ?_
   refine zas ty9 (zbY hA1) (Ext.refl w1_) fun hS59=>?_
   refine (zbJ ).mono ?_
   rintro _ w8_ ⟨hx8_,rfl⟩
   refine zb4 (fun c15=>?_) (fun c15=>?_)
   · refine zaa zfd ?_
     refine zab zcd (zcx hA1) hx8_ fun v63 h63=>?_
     refine (zcw h63 hx8_).mono ?_
     rintro _ w9_ ⟨hx9_,rfl⟩
     refine br (fun c16=>?_) (fun c16=>?_)
     · refine zaa zeg ?_
       refine zab zfc (zcN hA1) (hx8_.trans hx9_) fun v68 h68=>?_
       have hln69:=zah h68
       refine zae u29 h68 ?_
       refine zaf ?_
       refine br (fun c17=>?_) (fun c17=>?_)
       · refine zaa zdF ?_
         refine zab zfc (zcy hA1) (hx8_.trans hx9_) fun v74 h74=>?_
         have hln75:=zah h74
         refine zae u29 h74 ?_
         refine zaf ?_
         refine ⟨(hx1_.trans (hx8_.trans hx9_)),?_⟩
         rcases hr with ⟨k1,k2,k3,k4,k5⟩ | ⟨k1,k2,k3,k4,k5⟩ | ⟨k1,k2,k3,k4,k5⟩ | ⟨k1,k2,k3⟩ | ⟨k1,k2,k3,k4⟩<;>first | (exfalso;omega) | simp_all
       refine ⟨(hx1_.trans (hx8_.trans hx9_)),?_⟩
       rcases hr with ⟨k1,k2,k3,k4,k5⟩ | ⟨k1,k2,k3,k4,k5⟩ | ⟨k1,k2,k3,k4,k5⟩ | ⟨k1,k2,k3⟩ | ⟨k1,k2,k3,k4⟩<;>first | (exfalso;omega) | simp_all
     refine ⟨(hx1_.trans (hx8_.trans hx9_)),?_⟩
     rcases hr with ⟨k1,k2,k3,k4,k5⟩ | ⟨k1,k2,k3,k4,k5⟩ | ⟨k1,k2,k3,k4,k5⟩ | ⟨k1,k2,k3⟩ | ⟨k1,k2,k3,k4⟩<;>first | (exfalso;omega) | simp_all
   refine ⟨(hx1_.trans hx8_),?_⟩
   rcases hr with ⟨k1,k2,k3,k4,k5⟩ | ⟨k1,k2,k3,k4,k5⟩ | ⟨k1,k2,k3,k4,k5⟩ | ⟨k1,k2,k3⟩ | ⟨k1,k2,k3,k4⟩<;>first | (exfalso;omega) | simp_all
 refine zaf ?_
 refine br (fun c18=>?_) (fun c18=>?_)
 · refine zaa zef ?_
   refine zas ty9 (zbY hA1) (Ext.refl w1_) fun hS59=>?_
   refine (zbJ ).mono ?_
   rintro _ w10_ ⟨hx10_,rfl⟩
   refine zb4 (fun c19=>?_) (fun c19=>?_)
   · refine zaa zfd ?_
     refine zab zcd (zcx hA1) hx10_ fun v63 h63=>?_
     refine (zcw h63 hx10_).mono ?_
     rintro _ w11_ ⟨hx11_,rfl⟩
     refine br (fun c20=>?_) (fun c20=>?_)
     · refine zaa zeg ?_
       refine zab zfc (zcN hA1) (hx10_.trans hx11_) fun v68 h68=>?_
       have hln69:=zah h68
       refine zae u29 h68 ?_
       refine zaf ?_
       refine br (fun c21=>?_) (fun c21=>?_)
       · refine zaa zdF ?_
         refine zab zfc (zcy hA1) (hx10_.trans hx11_) fun v74 h74=>?_
         have hln75:=zah h74
         refine zae u29 h74 ?_
         refine zaf ?_
         refine ⟨(hx1_.trans (hx10_.trans hx11_)),?_⟩
         rcases hr with ⟨k1,k2,k3,k4,k5⟩ | ⟨k1,k2,k3,k4,k5⟩ | ⟨k1,k2,k3,k4,k5⟩ | ⟨k1,k2,k3⟩ | ⟨k1,k2,k3,k4⟩<;>first | (exfalso;omega) | simp_all
       refine ⟨(hx1_.trans (hx10_.trans hx11_)),?_⟩
       rcases hr with ⟨k1,k2,k3,k4,k5⟩ | ⟨k1,k2,k3,k4,k5⟩ | ⟨k1,k2,k3,k4,k5⟩ | ⟨k1,k2,k3⟩ | ⟨k1,k2,k3,k4⟩<;>first | (exfalso;omega) | simp_all
     refine ⟨(hx1_.trans (hx10_.trans hx11_)),?_⟩
     rcases hr with ⟨k1,k2,k3,k4,k5⟩ | ⟨k1,k2,k3,k4,k5⟩ | ⟨k1,k2,k3,k4,k5⟩ | ⟨k1,k2,k3⟩ | ⟨k1,k2,k3,k4⟩<;>first | (exfalso;omega) | simp_all
   refine ⟨(hx1_.trans hx10_),?_⟩
   rcases hr with ⟨k1,k2,k3,k4,k5⟩ | ⟨k1,k2,k3,k4,k5⟩ | ⟨k1,k2,k3,k4,k5⟩ | ⟨k1,k2,k3⟩ | ⟨k1,k2,k3,k4⟩<;>first | (exfalso;omega) | simp_all
 refine zaf ?_
 refine br (fun c22=>?_) (fun c22=>?_)
 · refine zaa zef ?_
   refine zas ty9 (zbY hA1) (Ext.refl w1_) fun hS59=>?_
   refine (zbJ ).mono ?_
   rintro _ w12_ ⟨hx12_,rfl⟩
   refine zb4 (fun c23=>?_) (fun c23=>?_)
   · refine zaa zfd ?_
     refine zab zcd (zcx hA1) hx12_ fun v63 h63=>?_
     refine (zcw h63 hx12_).mono ?_
     rintro _ w13_ ⟨hx13_,rfl⟩
     refine br (fun c24=>?_) (fun c24=>?_)
     · refine zaa zeg ?_
       refine zab zfc (zcN hA1) (hx12_.trans hx13_) fun v68 h68=>?_
       have hln69:=zah h68
       refine zae u29 h68 ?_
       refine zaf ?_
       refine br (fun c25=>?_) (fun c25=>?_)
       · refine zaa zdF ?_
         refine zab zfc (zcy hA1) (hx12_.trans hx13_) fun v74 h74=>?_
         have hln75:=zah h74
         refine zae u29 h74 ?_
         refine zaf ?_
         refine ⟨(hx1_.trans (hx12_.trans hx13_)),?_⟩
         rcases hr with ⟨k1,k2,k3,k4,k5⟩ | ⟨k1,k2,k3,k4,k5⟩ | ⟨k1,k2,k3,k4,k5⟩ | ⟨k1,k2,k3⟩ | ⟨k1,k2,k3,k4⟩<;>first | (exfalso;omega) | simp_all
       refine ⟨(hx1_.trans (hx12_.trans hx13_)),?_⟩
       rcases hr with ⟨k1,k2,k3,k4,k5⟩ | ⟨k1,k2,k3,k4,k5⟩ | ⟨k1,k2,k3,k4,k5⟩ | ⟨k1,k2,k3⟩ | ⟨k1,k2,k3,k4⟩<;>first | (exfalso;omega) | simp_all
     refine ⟨(hx1_.trans (hx12_.trans hx13_)),?_⟩
     rcases hr with ⟨k1,k2,k3,k4,k5⟩ | ⟨k1,k2,k3,k4,k5⟩ | ⟨k1,k2,k3,k4,k5⟩ | ⟨k1,k2,k3⟩ | ⟨k1,k2,k3,k4⟩<;>first | (exfalso;omega) | simp_all
   refine ⟨(hx1_.trans hx12_),?_⟩
   rcases hr with ⟨k1,k2,k3,k4,k5⟩ | ⟨k1,k2,k3,k4,k5⟩ | ⟨k1,k2,k3,k4,k5⟩ | ⟨k1,k2,k3⟩ | ⟨k1,k2,k3,k4⟩<;>first | (exfalso;omega) | simp_all
 refine zaf ?_
 refine br (fun c26=>?_) (fun c26=>?_)
 · refine zaa zef ?_
   refine zas ty9 (zbY hA1) (Ext.refl w1_) fun hS81=>?_
   refine zaM ?_
   refine br (fun c27=>?_) (fun c27=>?_)
   · refine zaa zfd ?_
     refine zab zcd (zcx hA1) (Ext.refl w1_) fun v85 h85=>?_
     refine (zcw h85 (Ext.refl w1_)).mono ?_
     rintro _ w14_ ⟨hx14_,rfl⟩
     refine br (fun c28=>?_) (fun c28=>?_)
     · refine zaa zeg ?_
       refine zab zfc (zcN hA1) hx14_ fun v90 h90=>?_
       have hln91:=zah h90
       refine zae u29 h90 ?_
       refine zaf ?_
       refine br (fun c29=>?_) (fun c29=>?_)
       · refine zaa zdF ?_
         refine zab zfc (zcy hA1) hx14_ fun v96 h96=>?_
         have hln97:=zah h96
         refine zae u29 h96 ?_
         refine zaf ?_
         refine ⟨(hx1_.trans hx14_),?_⟩
         rcases hr with ⟨k1,k2,k3,k4,k5⟩ | ⟨k1,k2,k3,k4,k5⟩ | ⟨k1,k2,k3,k4,k5⟩ | ⟨k1,k2,k3⟩ | ⟨k1,k2,k3,k4⟩<;>first | (exfalso;omega) | simp_all
       refine ⟨(hx1_.trans hx14_),?_⟩
       rcases hr with ⟨k1,k2,k3,k4,k5⟩ | ⟨k1,k2,k3,k4,k5⟩ | ⟨k1,k2,k3,k4,k5⟩ | ⟨k1,k2,k3⟩ | ⟨k1,k2,k3,k4⟩<;>first | (exfalso;omega) | simp_all
     refine ⟨(hx1_.trans hx14_),?_⟩
     rcases hr with ⟨k1,k2,k3,k4,k5⟩ | ⟨k1,k2,k3,k4,k5⟩ | ⟨k1,k2,k3,k4,k5⟩ | ⟨k1,k2,k3⟩ | ⟨k1,k2,k3,k4⟩<;>first | (exfalso;omega) | simp_all
   refine ⟨hx1_,?_⟩
   rcases hr with ⟨k1,k2,k3,k4,k5⟩ | ⟨k1,k2,k3,k4,k5⟩ | ⟨k1,k2,k3,k4,k5⟩ | ⟨k1,k2,k3⟩ | ⟨k1,k2,k3,k4⟩<;>first | (exfalso;omega) | simp_all
 refine ⟨hx1_,?_⟩
 rcases hr with ⟨k1,k2,k3,k4,k5⟩ | ⟨k1,k2,k3,k4,k5⟩ | ⟨k1,k2,k3,k4,k5⟩ | ⟨k1,k2,k3⟩ | ⟨k1,k2,k3,k4⟩<;>first | (exfalso;omega) | simp_all
theorem zuF {l:List DStmt} {k:Nat} (hk:k<l.length):szL (l.drop k)=szS l[k]+szL (l.drop (k+1)):=by rw [List.drop_eq_getElem_cons hk,szL]
theorem zrQ (l:List DStmt) (k:Nat):szL (l.drop k)≤szL l:=by
 have:=zfU (l.take k) (l.drop k)
 rw [List.take_append_drop] at this;omega
def zwg (c:Scp) (n:Nat) (l:List DStmt):Prop:=∀ {w W:World} {v:Value} {d:Int} {g r:Nat},Is W v l→Ext W w→(∀ x∈l,StR c n x)→(n:Int)≤d→d≤6→Blk g 3 w [.int .i64 (r:Int)]→W.heap.size≤g→szL l≤r→r≤1000 →
 CALL Tryz.prog 177 [v,.int .i64 d,.pointer (some ⟨g,0,none⟩)] w fun res w'=>ChgI g (g+1) w w'∧res=.bool true∧Blk g 3 w' [.int .i64 ((r-szL l:Nat):Int)]
theorem zg6 {c:Scp} {n:Nat} {l:List DStmt} (hp:zwe c) (ih:∀ m l,m+1=n→zwg c m l):zwg c n l:=by
 intro w W v d g r h e hs hd0 hd1 hB hg hsz hr
 have hln:=zah h
 have hgl:=hB.lt
 refine F177_call ?_
 unfold F177
 refine zae u29 h ?_
 refine zaB l.length (fun k us w'=>us=[.int .i64 (k:Int)]∧ChgI g (g+1) w w'∧k≤l.length∧∃ q,q+szL l=r+szL (l.drop k)∧Blk g 3 w' [.int .i64 (q:Int)]) 0 (Nat.zero_le _) ⟨rfl,ChgI.refl _,Nat.zero_le _,r,rfl,hB⟩ ?_
 rintro k m u w1 hkm ⟨hu,hc1,hkl,q,hq,hB1⟩
 simp only [List.map_cons,List.map_nil,List.cons.injEq,and_true] at hu
 rw [hu]
 have hx1:Ext W w1:=e.chgI hc1 hg
 have hs1:=hc1.size
 refine zai ?_
 refine br (fun hlt=>?_) (fun hge=>?_)
 rotate_left
 · have hk:k=l.length:=by omega
   subst hk
   rw [List.drop_length,szL] at hq
   refine ⟨hc1,rfl,?_⟩
   rw [show r-szL l=q by omega];exact hB1
 have hk:k<l.length:=by omega
 have hdl:=zrQ l k
 rw [zuF hk] at hq hdl
 obtain ⟨x,hx⟩:∃ x,x=l[k]:=⟨_,rfl⟩
 have hxs:StR c n x:=by rw [hx];exact hs _ (List.getElem_mem hk)
 rw [←hx] at hq hdl
 have hsx:=zk7 x
 refine zad u29 zc2 h hk fun b13 o13 hA13=>?_
 rw [←hx] at hA13
 refine zab zc2 hA13 hx1 fun v14 h14=>?_
 refine zcA zuV rfl zc2 rfl h14 hx1 fun w2 hx2 hA8 hV8=>?_
 have hs2:=hx2.size
 have hB2:=hB1.ext hx2
 have hg1:=hB1.lt
 have hb8:=zfe h14 hV8 rfl
 have hg8:=hV8.lt
 refine NIL.mk rfl ?_
 refine zaA ty3 hB2 rfl ?_
 refine za3 (by unfold I64;omega) ?_
 refine NIL.mk rfl ?_
 rw [show (q:Int)-1=((q-1:Nat):Int) by omega]
 refine zb0 (α:=Int) (x:=((q-1:Nat):Int)) (lo:=0) (hi:=0) ty3 rfl rfl hB2 (by simp) (Go.Sh.ownI_int (by unfold I64;omega)) fun w3 hc3 hB3=>?_
 have hs3:=hc3.size
 have hB3:Blk g 3 w3 [.int .i64 ((q-1:Nat):Int)]:=hB3
 have hc13:ChgI g (g+1) w w3:=(hc1.trans hx2.toI).trans hc3
 have hx3:Ext W w3:=e.chgI hc13 hg
 have hb83:=hb8.keep (hc3.block _ (by omega) (by omega))
 have hA83:=hb83.at hx3
 refine NIL.mk rfl ?_
 refine zaA ty3 hB3 rfl ?_
 refine zai ?_
 refine br (fun hh=>absurd hh (by omega)) (fun _=>?_)
 refine zab zc2 hA83 (Ext.refl _) fun v25 h25=>?_
 refine (zmt h25 (Ext.refl _) (hxs.one hp)).mono ?_
 rintro _ w4 ⟨hx4,rfl⟩
 have hs4:=hx4.size
 have hA84:=hb83.ext hx4 |>.at (hx3.trans hx4)
 have hB4:=hB3.ext hx4
 refine zaU ?_
 refine zb4 (fun hc=>by simp at hc) (fun _=>?_)
 have hkid0:¬(x.kind=2∨x.kind=3)→szS x=1:=fun hn=>by
   have h0:St0 c x→szS x=1:=fun hq=>by
     have:x.body=[]∧x.els=[]:=by rcases hq with q | q | q | q<;>exact ⟨q.2.2.2.1,q.2.2.2.2⟩
     rw [zk7,this.1,this.2];simp [szL]
   cases n with
   | zero=>exact h0 hxs.zero
   | succ n=>
     rcases hxs.succ with q | ⟨h1,_⟩
     · exact h0 q
     exact absurd (h1.imp id fun e=>e.1) hn
 have hnext:∀ {w5:World} {q5:Nat},ChgI g (g+1) w w5→q5+szL l=r+szL (l.drop (k+1))→Blk g 3 w5 [.int .i64 (q5:Int)] →
     ∃ m',m'<m∧∃ k',k'+m'=l.length∧([Value.int .i64 ((k+1:Nat):Int)]=[.int .i64 (k':Int)]∧ChgI g (g+1) w w5∧k'≤l.length∧∃ q,q+szL l=r+szL (l.drop k')∧Blk g 3 w5 [.int .i64 (q:Int)]):=
   fun {w5 q5} a1 a2 a3=>⟨m-1,by omega,k+1,by omega,rfl,a1,by omega,q5,a2,a3⟩
 refine JOIN.mk (fun us w'=>(x.kind=2∨x.kind=3)∧w'=w4) ?_ ?_
 · refine zaa zhJ ?_
   refine zac ty3 (zcM hA84) (Ext.refl _) fun hI=>?_
   refine zaO ?_
   refine br (fun h2=>?_) (fun h2=>⟨.inl (Decidable.not_not.1 h2),rfl⟩)
   refine zaa zhJ ?_
   refine zac ty3 (zcM hA84) (Ext.refl _) fun hI=>?_
   refine zaO ?_
   refine br (fun h3=>?_) (fun h3=>⟨.inr (Decidable.not_not.1 h3),rfl⟩)
   have:=hkid0 (by omega)
   refine zag (by omega) ?_
   exact hnext (hc13.trans hx4.toI) (q5:=q-1) (by omega) hB4
 rintro u8 w5 ⟨h23,rfl⟩
 have hn0:0<n:=by
   rcases Nat.eq_zero_or_pos n with h0 | h0
   · subst h0
     rcases hxs.zero with q | q | q | q<;>(have:=q.1;omega)
   exact h0
 have hkid:(∀ y∈x.body,StR c (n-1) y)∧∀ y∈x.els,StR c (n-1) y:=by
   obtain ⟨q,rfl⟩:∃ q,n=q+1:=⟨n-1,by omega⟩
   rcases hxs.succ with h | ⟨_,_,_,h4,h5⟩
   · exfalso
     rcases h with q | q | q | q<;>(have:=q.1;omega)
   exact ⟨h4,h5⟩
 refine zaf ?_
 refine br (fun hc=>by omega) (fun _=>?_)
 refine zaa zeg ?_
 have hx5:Ext W w5:=hx3.trans hx4
 have hb85:=hb83.ext hx4
 refine zcU zfc (zuB hb85) hx5 (Ext.refl _) fun v41 h41=>?_
 refine za3 (by unfold I64;omega) ?_
 refine (ih (n-1) _ (by omega) h41 hx5 hkid.1 (by omega) (by omega) hB4 hg (by omega) (by omega)).mono ?_
 rintro _ w6 ⟨hc6,rfl,hB6⟩
 have hs6:=hc6.size
 have hx6:Ext W w6:=hx5.chgI hc6 hg
 have hb86:=hb85.keep (hc6.block _ (by omega) (by omega))
 have hA86:=hb86.at hx6
 refine zaU ?_
 refine zb4 (fun hc=>by simp at hc) (fun _=>?_)
 refine zaa zdF ?_
 refine zcU zfc (zuC hb86) hx6 (Ext.refl _) fun v50 h50=>?_
 refine za3 (by unfold I64;omega) ?_
 refine (ih (n-1) _ (by omega) h50 hx6 hkid.2 (by omega) (by omega) hB6 hg (by omega) (by omega)).mono ?_
 rintro _ w7 ⟨hc7,rfl,hB7⟩
 refine zaU ?_
 refine zb4 (fun hc=>by simp at hc) (fun _=>?_)
 refine zag (by omega) ?_
 refine hnext (((hc13.trans hx4.toI).trans hc6).trans hc7) ?_ hB7
 omega
end Go.Proofs.YtcnglfeoglgebaaGreat
