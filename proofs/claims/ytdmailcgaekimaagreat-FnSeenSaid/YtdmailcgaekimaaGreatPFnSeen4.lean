/-
  Parts of the proof, put together by program.
-/
import Derived.Test.YtdmailcgaekimaaGreatPFnSeen3
set_option linter.unusedVariables false
set_option linter.unusedSimpArgs false
set_option linter.unusedSectionVars false
namespace Go.Proofs.YtdmailcgaekimaaGreat
open Go Go.Sh Go.Proofs
open Rep (rep)
section
variable {bs:List UInt8} {n:Nat} {s:Cur}
theorem zdu (h:zea bs n s<11):zbr bs n s=ze1 bs (zea bs n s) (zak bs 14 s):=by
 cases n with
 | zero=>rw [zbr]
 | succ n=>rw [zbr,if_pos h]
theorem ze4 (h:¬zea bs n s<11):0<n:=by
 cases n with
 | zero=>have:=zr8 bs s;omega
 | succ n=>omega
theorem zg4 (h:¬zea bs n s<11):zbr bs n s=zjg bs (zbr bs (n-1)) (zea bs n s) (zak bs 14 s):=by
 have:=ze4 h
 obtain ⟨m,rfl⟩:∃ m,n=m+1:=⟨n-1,by omega⟩
 rw [zbr,if_neg h];rfl
theorem zqM {f:Cur→DStmt×Cur} {bs:List UInt8} {k:Nat} {s:Cur} (hk:k≤3) (h:(k:Int)<zaI bs 4 s) :
   zc1 f bs (4-k) k s=((f (zak bs 4 s)).1 :: (zc1 f bs (4-(k+1)) (k+1) (f (zak bs 4 s)).2).1,(zc1 f bs (4-(k+1)) (k+1) (f (zak bs 4 s)).2).2):=by
 rw [show 4-k=(4-(k+1))+1 by omega,zc1,if_pos h]
theorem zoa {f:Cur→DStmt×Cur} {bs:List UInt8} {k:Nat} {s:Cur} (hk:k≤3) (h:¬(k:Int)<zaI bs 4 s):zc1 f bs (4-k) k s=([],zak bs 4 s):=by
 rw [show 4-k=(4-(k+1))+1 by omega,zc1,if_neg h]
end
def znj (n:Nat):Prop:=∀ {W w:World} {g:Nat} {bs:List UInt8} {s:Cur} {d:Int},CurAt W g bs s w→d=(n:Int) →
 CALL Tryz.prog 240 [.pointer (some ⟨g,0,none⟩),.int .i64 d] w fun r w'=>ChgI g (g+1) w w'∧CurAt W g bs (zbr bs n s).2 w'∧OwnI w.heap.size w'.heap.size w' r (zbr bs n s).1
def zpn (n:Nat):Prop:=∀ {W w:World} {g:Nat} {bs:List UInt8} {s:Cur} {d:Int},CurAt W g bs s w→d=(n:Int) →
 CALL Tryz.prog 167 [.pointer (some ⟨g,0,none⟩),.int .i64 d] w fun r w'=>ChgI g (g+1) w w'∧CurAt W g bs (zaU bs n s).2 w'∧RowI w.heap.size w'.heap.size 81 w' r (zaU bs n s).1
def F167 (a0 a1:Value) (w:World) (R:VW):Prop:=
 oP (Instr.buildSlice 66 0 #[]) w fun x7 w=>
 LOOPI [5,6] [x7,(iV 0)] w fun u3 w next3=>
 cL 59 [a0,(iV 4)] w fun x10 w=>
 rC (u3 6) x10 w fun x11=>
 BR x11
 (cL 240 [a0,a1] w fun x17 w=>
 oP (Instr.buildSlice 66 1 #[(0,x17)]) w fun x18 w=>
 oP (Builtin.append_ #[66,66] 66 [(u3 5),x18].toArray) w fun x19 w=>
 rA (u3 6) (iV 1) w fun x13=>
 next3 [x19,x13] w)
 (R (u3 5) w)
def cfg167:Cfg:=⟨extL,[],[(3,1048416,[5,6])],[],[],[],[]⟩
theorem F167_call {a0 a1:Value} {w:World} {R:VW} (h:F167 a0 a1 w R):cL 167 [a0,a1] w R:=co (g:=cfg167) Tryz.func167 (by kernel_rfl) (by kernel_rfl) (by kernel_rfl) h
theorem zhu {w:World} {W:World} {g:Nat} {bs:List UInt8} {s:Cur} {d:Int} {n:Nat} (hC:CurAt W g bs s w) (hd:d=(n:Int)) (ih:znj n) :
   CALL Tryz.prog 167 [.pointer (some ⟨g,0,none⟩),.int .i64 d] w fun r w'=>ChgI g (g+1) w w'∧(CurAt W g bs (zaU bs n s).2 w'∧RowI w.heap.size w'.heap.size 81 w' r (zaU bs n s).1):=by
 refine F167_call ?_
 unfold F167
 have hgl:=hC.lt
 refine zaK (α:=DStmt) u66 zc6 fun v7 w1_ hx1_ o7=>?_
 have hs_hx1_:=hx1_.size
 refine zaE (4) (fun k us w'=>∃ (v:Value) (s1:Cur) (l1:List DStmt),us=[v,.int .i64 (k:Int)]∧ChgI g (g+1) w1_ w'∧(CurAt W g bs s1 w'∧RowI w1_.heap.size w'.heap.size 81 w' v l1∧zaU bs n s=(l1++(zc1 (zbr bs n) bs (4-k) k s1).1,(zc1 (zbr bs n) bs (4-k) k s1).2)∧l1.length≤k∧k≤3)) (0) (by omega) ⟨_,s,[],rfl,(ChgI.refl w1_),⟨hC.ext hx1_,zcg _ _ _ _ _,by unfold zaU;simp,by simp,by omega⟩⟩ ?_
 rintro k m3 uu3 w2_ hk3 ⟨v5,s1,l1,hu,hx2_,hC1,hrow,hdr,hll,hkk⟩
 have hs_hx2_:=hx2_.size
 obtain ⟨hu0,hu1⟩:=zfZ hu
 try rw [hu0]
 try rw [hu1]
 try clear hu0 hu1
 have hb4:=zbp bs (n:=4) (by omega) s1
 refine (zbm hC1 (by omega)).mono ?_
 rintro _ w3_ ⟨hc3_,hC3_,rfl⟩
 have hs_hc3_:=hc3_.size
 have hs_hc3_:=hc3_.size
 have hrow_c3:=(hrow.ext (Ext.refl w2_)).chg hc3_ (by omega)
 refine zai ?_
 refine br (fun c1=>?_) (fun c1=>?_)
 · refine (ih hC3_ hd).mono ?_
   rintro r17 w4_ ⟨hc4_,hC4_,o17⟩
   have hs_hc4_:=hc4_.size
   have hs_hc4_:=hc4_.size
   have hrow_c4:=(hrow_c3.ext (Ext.refl w3_)).chg hc4_ (by omega)
   refine zch (α:=DStmt) u66 zc6 z81 zr0 (by decide) (hrow_c4.ext (Ext.refl w4_)) (by omega) (o17.ext (Ext.refl w4_)) (by omega) (by omega) (by rw [zam];omega) (by omega) fun v19 w5_ hc5_ o19=>?_
   have hs_hc5_:=hc5_.size
   have o17_c5:=(o17.ext (Ext.refl w4_)).chg hc5_ (by omega)
   refine zah (by omega) ?_
   refine ⟨m3-1,by omega,k+1,by omega,_,(zbr bs n (zak bs 4 s1)).2,l1++[(zbr bs n (zak bs 4 s1)).1],rfl,(ChgI.out (ChgI.trans (ChgI.trans hx2_ hc3_) hc4_) hc5_ (by omega)),?_⟩
   rw [zqM hkk (by omega)] at hdr
   exact ⟨(CurAt.chg hC4_ hc5_ (by omega) (by omega)),o19,by rw [hdr];simp,by simp;omega,by omega⟩
 refine ⟨(ChgI.trans (ChgI.trans (Ext.toI hx1_) hx2_) hc3_),?_⟩
 rw [zoa hkk (by omega)] at hdr
 rw [hdr]
 simp only [List.append_nil]
 exact ⟨hC3_,(hrow.chg hc3_ (by omega)).mono (by omega) (by omega)⟩
def F240 (a0 a1:Value) (w:World) (R:VW):Prop:=
 oP (Instr.alloc 81 true (.tuple #[])) w fun x4 w=>
 cL 59 [a0,(iV 14)] w fun x8 w=>
 JOIN [5] (fun J4=>
 rB .leq 3 T0 U0 a1 (iV 0) w fun x10=>
 BR x10
 (rB .geq 3 T0 U0 x8 (iV 11) w fun x13=>
 BR x13
 (rB .sub 3 T0 U0 x8 (iV 6) w fun x16=>
 J4 [x16] w)
 (J4 [x8] w))
 (J4 [x8] w)) (fun u4 w=>
 rB .lss 3 T0 U0 (u4 5) (iV 4) w fun x19=>
 BR x19
 (oP (Instr.buildSlice 24 3 #[(0,(Value.string (ByteArray.mk #[120]))),(1,(Value.string (ByteArray.mk #[121]))),(2,(Value.string (ByteArray.mk #[122])))]) w fun x21 w=>
 cL 54 [a0,x21] w fun x22 w=>
 cL 104 [a0,(iV 2)] w fun x24 w=>
 rD (Instr.build 81 #[(0,(iV 1)),(1,x22),(2,x24)]) w fun x25=>
 oS 81 x4 x25 w fun w=>
 rD (zar 81 x4) w fun r4=>R r4 w)
 (rB .lss 3 T0 U0 (u4 5) (iV 6) w fun x28=>
 BR x28
 (oP (Instr.buildSlice 24 3 #[(0,(Value.string (ByteArray.mk #[97]))),(1,(Value.string (ByteArray.mk #[98]))),(2,(Value.string (ByteArray.mk #[109])))]) w fun x30 w=>
 cL 54 [a0,x30] w fun x31 w=>
 rD (Instr.build 81 #[(0,(iV 6)),(1,x31)]) w fun x32=>
 oS 81 x4 x32 w fun w=>
 rD (zar 81 x4) w fun r4=>R r4 w)
 (rB .lss 3 T0 U0 (u4 5) (iV 8) w fun x35=>
 BR x35
 (oP (Instr.buildSlice 24 3 #[(0,(Value.string (ByteArray.mk #[97]))),(1,(Value.string (ByteArray.mk #[98]))),(2,(Value.string (ByteArray.mk #[109])))]) w fun x37 w=>
 cL 54 [a0,x37] w fun x38 w=>
 rD (Instr.build 81 #[(0,(iV 7)),(1,x38)]) w fun x39=>
 oS 81 x4 x39 w fun w=>
 rD (zar 81 x4) w fun r4=>R r4 w)
 (rB .eql 3 T0 U0 (u4 5) (iV 8) w fun x42=>
 BR x42
 (oP (Instr.buildSlice 24 3 #[(0,(Value.string (ByteArray.mk #[112]))),(1,(Value.string (ByteArray.mk #[113]))),(2,(Value.string (ByteArray.mk #[114])))]) w fun x44 w=>
 cL 54 [a0,x44] w fun x45 w=>
 rD (Instr.build 81 #[(0,(iV 4)),(1,x45)]) w fun x46=>
 oS 81 x4 x46 w fun w=>
 rD (zar 81 x4) w fun r4=>R r4 w)
 (rB .eql 3 T0 U0 (u4 5) (iV 9) w fun x49=>
 BR x49
 (oP (Instr.buildSlice 24 3 #[(0,(Value.string (ByteArray.mk #[112]))),(1,(Value.string (ByteArray.mk #[113]))),(2,(Value.string (ByteArray.mk #[114])))]) w fun x51 w=>
 cL 54 [a0,x51] w fun x52 w=>
 rD (Instr.build 81 #[(0,(iV 5)),(1,x52)]) w fun x53=>
 oS 81 x4 x53 w fun w=>
 rD (zar 81 x4) w fun r4=>R r4 w)
 (rB .eql 3 T0 U0 (u4 5) (iV 10) w fun x56=>
 BR x56
 (rD (Instr.build 81 #[(0,(iV 8))]) w fun x57=>
 oS 81 x4 x57 w fun w=>
 rD (zar 81 x4) w fun r4=>R r4 w)
 (rB .eql 3 T0 U0 (u4 5) (iV 11) w fun x60=>
 BR x60
 (cL 104 [a0,(iV 1)] w fun x62 w=>
 rB .sub 3 T0 U0 a1 (iV 1) w fun x65=>
 cL 167 [a0,x65] w fun x66 w=>
 rD (Instr.build 81 #[(0,(iV 3)),(2,x62),(3,x66)]) w fun x67=>
 oS 81 x4 x67 w fun w=>
 rD (zar 81 x4) w fun r4=>R r4 w)
 (cL 104 [a0,(iV 1)] w fun x69 w=>
 rB .sub 3 T0 U0 a1 (iV 1) w fun x72=>
 cL 167 [a0,x72] w fun x73 w=>
 rD (Instr.build 81 #[(0,(iV 2)),(2,x69),(3,x73)]) w fun x74=>
 oP (Instr.alloc 81 true (.tuple #[])) w fun x6 w=>
 oS 81 x6 x74 w fun w=>
 cL 51 [a0,(iV 2)] w fun x76 w=>
 BR x76
 (rB .sub 3 T0 U0 a1 (iV 1) w fun x79=>
 cL 167 [a0,x79] w fun x80 w=>
 rF 81 x6 4 w fun x81=>
 oS 66 x81 x80 w fun w=>
 rL 81 x6 w fun x82=>
 oS 81 x4 x82 w fun w=>
 rD (zar 81 x4) w fun r4=>R r4 w)
 (rL 81 x6 w fun x82=>
 oS 81 x4 x82 w fun w=>
 rD (zar 81 x4) w fun r4=>R r4 w)))))))))
def cfg240:Cfg:=⟨extL,[(4,130592,[5])],[],[],[],[],[]⟩
theorem F240_call {a0 a1:Value} {w:World} {R:VW} (h:F240 a0 a1 w R):cL 240 [a0,a1] w R:=co (g:=cfg240) Tryz.func240 (by kernel_rfl) (by kernel_rfl) (by kernel_rfl) h
theorem zhv {w:World} {W:World} {g:Nat} {bs:List UInt8} {s:Cur} {d:Int} {n:Nat} (hC:CurAt W g bs s w) (hd:d=(n:Int)) (ih:∀ m,m+1=n→zpn m) (hn:n≤10) :
   CALL Tryz.prog 240 [.pointer (some ⟨g,0,none⟩),.int .i64 d] w fun r w'=>ChgI g (g+1) w w'∧(CurAt W g bs (zbr bs n s).2 w'∧OwnI w.heap.size w'.heap.size w' r (zbr bs n s).1):=by
 refine F240_call ?_
 unfold F240
 have hgl:=hC.lt
 have hb14:=zbp bs (n:=14) (by omega) s
 refine zdz (α:=DStmt) zsY fun w1_ hx1_ hv4=>?_
 have hg4:=hv4.lt
 have hs_hx1_:=hx1_.size
 refine (zbm (CurAt.ext hC hx1_) (by omega)).mono ?_
 rintro _ w2_ ⟨hc2_,hC2_,rfl⟩
 have hs_hc2_:=hc2_.size
 have hs_hc2_:=hc2_.size
 have hv4_c2:=(hv4.ext (Ext.refl w1_)).chg hc2_ (by omega) (by omega)
 refine JOIN.mk (fun us w'=>us=[.int .i64 (zea bs n s)]∧Ext w2_ w'∧(True)) ?_ ?_
 · refine zcO ?_
   refine br (fun c1=>?_) (fun c1=>?_)
   · refine zb1 ?_
     refine br (fun c2=>?_) (fun c2=>?_)
     · refine za2 (by unfold I64;omega) ?_
       refine ⟨by unfold zea;rw [if_pos (by omega)],Ext.refl w2_,?_⟩
       trivial
     refine ⟨by unfold zea;rw [if_neg (by omega)],Ext.refl w2_,?_⟩
     trivial
   refine ⟨by unfold zea;rw [if_neg (by omega)],Ext.refl w2_,?_⟩
   trivial
 rintro uj4 w3_ ⟨hu,hx3_,_⟩
 have hs_hx3_:=hx3_.size
 simp only [List.map_cons,List.map_nil,List.cons.injEq,and_true] at hu
 try rw [hu]
 try clear hu
 refine zai ?_
 refine br (fun c3=>?_) (fun c3=>?_)
 · refine zdR (vs:=([ByteArray.mk #[120],ByteArray.mk #[121],ByteArray.mk #[122]]:List ByteArray).map Value.string) u24 ty9 zby (by decide) (by kernel_rfl) rfl (fun w=>zbF (by decide)) fun v21 w4_ hx4_ o21=>?_
   have hs_hx4_:=hx4_.size
   refine (zcn (CurAt.ext (CurAt.ext hC2_ hx3_) hx4_) (o21.ext (Ext.refl w4_)) (by omega) (by omega) (by omega) (by decide) (by decide)).mono ?_
   rintro _ w5_ ⟨hc5_,hC5_,rfl,hS22⟩
   have hs_hc5_:=hc5_.size
   have hs_hc5_:=hc5_.size
   have hv4_c5:=(hv4_c2.ext (hx3_.trans hx4_)).chg hc5_ (by omega) (by omega)
   have o21_c5:=(o21.ext (Ext.refl w4_)).chg hc5_ (by omega)
   refine ((zfq 2 (by omega)) hC5_ rfl).mono ?_
   rintro r24 w6_ ⟨hc6_,hC6_,o24⟩
   have hs_hc6_:=hc6_.size
   have hs_hc6_:=hc6_.size
   have hv4_c6:=(hv4_c5.ext (Ext.refl w5_)).chg hc6_ (by omega) (by omega)
   have o21_c6:=(o21_c5.ext (Ext.refl w5_)).chg hc6_ (by omega)
   refine zk8 (lo:=w5_.heap.size) (hi:=w6_.heap.size) (by omega) (by first | assumption | (unfold I64;omega)) (by first | assumption | decide) (o24.ext (Ext.refl w6_)) fun v25 o25=>?_
   refine za9 zc6 (hv4_c6.ext (Ext.refl w6_)) (o25.ext (Ext.refl w6_)) (by omega) fun w7_ hc7_ hv4_s7=>?_
   have hs_hc7_:=hc7_.size
   have o21_c7:=(o21_c6.ext (Ext.refl w6_)).chg hc7_ (by omega)
   have o24_c7:=(o24.ext (Ext.refl w6_)).chg hc7_ (by omega)
   have o25_c7:=(o25.ext (Ext.refl w6_)).chg hc7_ (by omega)
   refine zbX zc6 hv4_s7 (Ext.refl w7_) fun r4 hr4=>?_
   replace hr4:=hr4.ext (Ext.refl w7_)
   refine ⟨(ChgI.out (ChgI.trans (ChgI.trans (ChgI.trans (ChgI.trans (ChgI.trans (Ext.toI hx1_) hc2_) (Ext.toI hx3_)) (Ext.toI hx4_)) hc5_) hc6_) hc7_ (by omega)),?_⟩
   rw [zdu (by omega),ze1,if_pos (by omega)]
   exact ⟨(CurAt.chg hC6_ hc7_ (by omega) (by omega)),hr4.mono (by omega) (by omega)⟩
 refine zai ?_
 refine br (fun c4=>?_) (fun c4=>?_)
 · refine zdR (vs:=([ByteArray.mk #[97],ByteArray.mk #[98],ByteArray.mk #[109]]:List ByteArray).map Value.string) u24 ty9 zby (by decide) (by kernel_rfl) rfl (fun w=>zbF (by decide)) fun v30 w8_ hx8_ o30=>?_
   have hs_hx8_:=hx8_.size
   refine (zcn (CurAt.ext (CurAt.ext hC2_ hx3_) hx8_) (o30.ext (Ext.refl w8_)) (by omega) (by omega) (by omega) (by decide) (by decide)).mono ?_
   rintro _ w9_ ⟨hc9_,hC9_,rfl,hS31⟩
   have hs_hc9_:=hc9_.size
   have hs_hc9_:=hc9_.size
   have hv4_c9:=(hv4_c2.ext (hx3_.trans hx8_)).chg hc9_ (by omega) (by omega)
   have o30_c9:=(o30.ext (Ext.refl w8_)).chg hc9_ (by omega)
   refine zci (lo:=w9_.heap.size) (hi:=w9_.heap.size) (by omega) (by first | assumption | (unfold I64;omega)) (by first | assumption | decide) fun v32 o32=>?_
   refine za9 zc6 (hv4_c9.ext (Ext.refl w9_)) (o32.ext (Ext.refl w9_)) (by omega) fun w10_ hc10_ hv4_s10=>?_
   have hs_hc10_:=hc10_.size
   have o30_c10:=(o30_c9.ext (Ext.refl w9_)).chg hc10_ (by omega)
   have o32_c10:=(o32.ext (Ext.refl w9_)).chg hc10_ (by omega)
   refine zbX zc6 hv4_s10 (Ext.refl w10_) fun r4 hr4=>?_
   replace hr4:=hr4.ext (Ext.refl w10_)
   refine ⟨(ChgI.out (ChgI.trans (ChgI.trans (ChgI.trans (ChgI.trans (Ext.toI hx1_) hc2_) (Ext.toI hx3_)) (Ext.toI hx8_)) hc9_) hc10_ (by omega)),?_⟩
   rw [zdu (by omega),ze1,if_neg (by omega),if_pos (by omega)]
   exact ⟨(CurAt.chg hC9_ hc10_ (by omega) (by omega)),hr4.mono (by omega) (by omega)⟩
 refine zai ?_
 refine br (fun c5=>?_) (fun c5=>?_)
 · refine zdR (vs:=([ByteArray.mk #[97],ByteArray.mk #[98],ByteArray.mk #[109]]:List ByteArray).map Value.string) u24 ty9 zby (by decide) (by kernel_rfl) rfl (fun w=>zbF (by decide)) fun v37 w11_ hx11_ o37=>?_
   have hs_hx11_:=hx11_.size
   refine (zcn (CurAt.ext (CurAt.ext hC2_ hx3_) hx11_) (o37.ext (Ext.refl w11_)) (by omega) (by omega) (by omega) (by decide) (by decide)).mono ?_
   rintro _ w12_ ⟨hc12_,hC12_,rfl,hS38⟩
   have hs_hc12_:=hc12_.size
   have hs_hc12_:=hc12_.size
   have hv4_c12:=(hv4_c2.ext (hx3_.trans hx11_)).chg hc12_ (by omega) (by omega)
   have o37_c12:=(o37.ext (Ext.refl w11_)).chg hc12_ (by omega)
   refine zci (lo:=w12_.heap.size) (hi:=w12_.heap.size) (by omega) (by first | assumption | (unfold I64;omega)) (by first | assumption | decide) fun v39 o39=>?_
   refine za9 zc6 (hv4_c12.ext (Ext.refl w12_)) (o39.ext (Ext.refl w12_)) (by omega) fun w13_ hc13_ hv4_s13=>?_
   have hs_hc13_:=hc13_.size
   have o37_c13:=(o37_c12.ext (Ext.refl w12_)).chg hc13_ (by omega)
   have o39_c13:=(o39.ext (Ext.refl w12_)).chg hc13_ (by omega)
   refine zbX zc6 hv4_s13 (Ext.refl w13_) fun r4 hr4=>?_
   replace hr4:=hr4.ext (Ext.refl w13_)
   refine ⟨(ChgI.out (ChgI.trans (ChgI.trans (ChgI.trans (ChgI.trans (Ext.toI hx1_) hc2_) (Ext.toI hx3_)) (Ext.toI hx11_)) hc12_) hc13_ (by omega)),?_⟩
   rw [zdu (by omega),ze1,if_neg (by omega),if_neg (by omega),if_pos (by omega)]
   exact ⟨(CurAt.chg hC12_ hc13_ (by omega) (by omega)),hr4.mono (by omega) (by omega)⟩
 refine zag ?_
 refine br (fun c6=>?_) (fun c6=>?_)
 · refine zdR (vs:=([ByteArray.mk #[112],ByteArray.mk #[113],ByteArray.mk #[114]]:List ByteArray).map Value.string) u24 ty9 zby (by decide) (by kernel_rfl) rfl (fun w=>zbF (by decide)) fun v44 w14_ hx14_ o44=>?_
   have hs_hx14_:=hx14_.size
   refine (zcn (CurAt.ext (CurAt.ext hC2_ hx3_) hx14_) (o44.ext (Ext.refl w14_)) (by omega) (by omega) (by omega) (by decide) (by decide)).mono ?_
   rintro _ w15_ ⟨hc15_,hC15_,rfl,hS45⟩
   have hs_hc15_:=hc15_.size
   have hs_hc15_:=hc15_.size
   have hv4_c15:=(hv4_c2.ext (hx3_.trans hx14_)).chg hc15_ (by omega) (by omega)
   have o44_c15:=(o44.ext (Ext.refl w14_)).chg hc15_ (by omega)
   refine zci (lo:=w15_.heap.size) (hi:=w15_.heap.size) (by omega) (by first | assumption | (unfold I64;omega)) (by first | assumption | decide) fun v46 o46=>?_
   refine za9 zc6 (hv4_c15.ext (Ext.refl w15_)) (o46.ext (Ext.refl w15_)) (by omega) fun w16_ hc16_ hv4_s16=>?_
   have hs_hc16_:=hc16_.size
   have o44_c16:=(o44_c15.ext (Ext.refl w15_)).chg hc16_ (by omega)
   have o46_c16:=(o46.ext (Ext.refl w15_)).chg hc16_ (by omega)
   refine zbX zc6 hv4_s16 (Ext.refl w16_) fun r4 hr4=>?_
   replace hr4:=hr4.ext (Ext.refl w16_)
   refine ⟨(ChgI.out (ChgI.trans (ChgI.trans (ChgI.trans (ChgI.trans (Ext.toI hx1_) hc2_) (Ext.toI hx3_)) (Ext.toI hx14_)) hc15_) hc16_ (by omega)),?_⟩
   rw [zdu (by omega),ze1,if_neg (by omega),if_neg (by omega),if_neg (by omega),if_pos (by omega)]
   exact ⟨(CurAt.chg hC15_ hc16_ (by omega) (by omega)),hr4.mono (by omega) (by omega)⟩
 refine zag ?_
 refine br (fun c7=>?_) (fun c7=>?_)
 · refine zdR (vs:=([ByteArray.mk #[112],ByteArray.mk #[113],ByteArray.mk #[114]]:List ByteArray).map Value.string) u24 ty9 zby (by decide) (by kernel_rfl) rfl (fun w=>zbF (by decide)) fun v51 w17_ hx17_ o51=>?_
   have hs_hx17_:=hx17_.size
   refine (zcn (CurAt.ext (CurAt.ext hC2_ hx3_) hx17_) (o51.ext (Ext.refl w17_)) (by omega) (by omega) (by omega) (by decide) (by decide)).mono ?_
   rintro _ w18_ ⟨hc18_,hC18_,rfl,hS52⟩
   have hs_hc18_:=hc18_.size
   have hs_hc18_:=hc18_.size
   have hv4_c18:=(hv4_c2.ext (hx3_.trans hx17_)).chg hc18_ (by omega) (by omega)
   have o51_c18:=(o51.ext (Ext.refl w17_)).chg hc18_ (by omega)
   refine zci (lo:=w18_.heap.size) (hi:=w18_.heap.size) (by omega) (by first | assumption | (unfold I64;omega)) (by first | assumption | decide) fun v53 o53=>?_
   refine za9 zc6 (hv4_c18.ext (Ext.refl w18_)) (o53.ext (Ext.refl w18_)) (by omega) fun w19_ hc19_ hv4_s19=>?_
   have hs_hc19_:=hc19_.size
   have o51_c19:=(o51_c18.ext (Ext.refl w18_)).chg hc19_ (by omega)
   have o53_c19:=(o53.ext (Ext.refl w18_)).chg hc19_ (by omega)
   refine zbX zc6 hv4_s19 (Ext.refl w19_) fun r4 hr4=>?_
   replace hr4:=hr4.ext (Ext.refl w19_)
   refine ⟨(ChgI.out (ChgI.trans (ChgI.trans (ChgI.trans (ChgI.trans (Ext.toI hx1_) hc2_) (Ext.toI hx3_)) (Ext.toI hx17_)) hc18_) hc19_ (by omega)),?_⟩
   rw [zdu (by omega),ze1,if_neg (by omega),if_neg (by omega),if_neg (by omega),if_neg (by omega),if_pos (by omega)]
   exact ⟨(CurAt.chg hC18_ hc19_ (by omega) (by omega)),hr4.mono (by omega) (by omega)⟩
 refine zag ?_
 refine br (fun c8=>?_) (fun c8=>?_)
 · refine zjj (lo:=w3_.heap.size) (hi:=w3_.heap.size) (by omega) (by first | assumption | (unfold I64;omega)) fun v57 o57=>?_
   refine za9 zc6 (hv4_c2.ext hx3_) (o57.ext (Ext.refl w3_)) (by omega) fun w20_ hc20_ hv4_s20=>?_
   have hs_hc20_:=hc20_.size
   have o57_c20:=(o57.ext (Ext.refl w3_)).chg hc20_ (by omega)
   refine zbX zc6 hv4_s20 (Ext.refl w20_) fun r4 hr4=>?_
   replace hr4:=hr4.ext (Ext.refl w20_)
   refine ⟨(ChgI.out (ChgI.trans (ChgI.trans (Ext.toI hx1_) hc2_) (Ext.toI hx3_)) hc20_ (by omega)),?_⟩
   rw [zdu (by omega),ze1,if_neg (by omega),if_neg (by omega),if_neg (by omega),if_neg (by omega),if_neg (by omega)]
   exact ⟨(CurAt.chg (CurAt.ext hC2_ hx3_) hc20_ (by omega) (by omega)),hr4.mono (by omega) (by omega)⟩
 refine zag ?_
 refine br (fun c9=>?_) (fun c9=>?_)
 · have hK:¬zea bs n s<11:=by unfold zea at *;split at*<;> omega
   have hnp:=ze4 hK
   refine ((zfq 1 (by omega)) (CurAt.ext hC2_ hx3_) rfl).mono ?_
   rintro r62 w21_ ⟨hc21_,hC21_,o62⟩
   have hs_hc21_:=hc21_.size
   have hs_hc21_:=hc21_.size
   have hv4_c21:=(hv4_c2.ext hx3_).chg hc21_ (by omega) (by omega)
   refine za2 (by unfold I64;omega) ?_
   refine (ih (n-1) (by omega) hC21_ (by omega)).mono ?_
   rintro r66 w22_ ⟨hc22_,hC22_,o66⟩
   have hs_hc22_:=hc22_.size
   have hs_hc22_:=hc22_.size
   have hv4_c22:=(hv4_c21.ext (Ext.refl w21_)).chg hc22_ (by omega) (by omega)
   have o62_c22:=(o62.ext (Ext.refl w21_)).chg hc22_ (by omega)
   refine zht (lo:=w3_.heap.size) (hi:=w22_.heap.size) (by first | assumption | (unfold I64;omega)) (o62_c22.ext (Ext.refl w22_)) (o66.own.ext (Ext.refl w22_)) (by omega) (by omega) (by omega) (by omega) fun v67 o67=>?_
   refine za9 zc6 (hv4_c22.ext (Ext.refl w22_)) (o67.ext (Ext.refl w22_)) (by omega) fun w23_ hc23_ hv4_s23=>?_
   have hs_hc23_:=hc23_.size
   have o62_c23:=(o62_c22.ext (Ext.refl w22_)).chg hc23_ (by omega)
   have o66_c23:=(o66.ext (Ext.refl w22_)).chg hc23_ (by omega)
   have o67_c23:=(o67.ext (Ext.refl w22_)).chg hc23_ (by omega)
   refine zbX zc6 hv4_s23 (Ext.refl w23_) fun r4 hr4=>?_
   replace hr4:=hr4.ext (Ext.refl w23_)
   refine ⟨(ChgI.out (ChgI.trans (ChgI.trans (ChgI.trans (ChgI.trans (Ext.toI hx1_) hc2_) (Ext.toI hx3_)) hc21_) hc22_) hc23_ (by omega)),?_⟩
   rw [zg4 hK,zjg,if_pos (by omega)]
   exact ⟨(CurAt.chg hC22_ hc23_ (by omega) (by omega)),hr4.mono (by omega) (by omega)⟩
 have hK:¬zea bs n s<11:=by unfold zea at *;split at*<;> omega
 have hnp:=ze4 hK
 refine ((zfq 1 (by omega)) (CurAt.ext hC2_ hx3_) rfl).mono ?_
 rintro r69 w24_ ⟨hc24_,hC24_,o69⟩
 have hs_hc24_:=hc24_.size
 have hs_hc24_:=hc24_.size
 have hv4_c24:=(hv4_c2.ext hx3_).chg hc24_ (by omega) (by omega)
 refine za2 (by unfold I64;omega) ?_
 refine (ih (n-1) (by omega) hC24_ (by omega)).mono ?_
 rintro r73 w25_ ⟨hc25_,hC25_,o73⟩
 have hs_hc25_:=hc25_.size
 have hs_hc25_:=hc25_.size
 have hv4_c25:=(hv4_c24.ext (Ext.refl w24_)).chg hc25_ (by omega) (by omega)
 have o69_c25:=(o69.ext (Ext.refl w24_)).chg hc25_ (by omega)
 refine zht (lo:=w3_.heap.size) (hi:=w25_.heap.size) (by first | assumption | (unfold I64;omega)) (o69_c25.ext (Ext.refl w25_)) (o73.own.ext (Ext.refl w25_)) (by omega) (by omega) (by omega) (by omega) fun v74 o74=>?_
 refine zdz (α:=DStmt) zsY fun w26_ hx26_ hv6=>?_
 have hg6:=hv6.lt
 have hs_hx26_:=hx26_.size
 refine za9 zc6 (hv6.ext (Ext.refl w26_)) (o74.ext hx26_) (by omega) fun w27_ hc27_ hv6_s27=>?_
 have hs_hc27_:=hc27_.size
 have hv4_c27:=(hv4_c25.ext hx26_).chg hc27_ (by omega) (by omega)
 have o69_c27:=(o69_c25.ext hx26_).chg hc27_ (by omega)
 have o73_c27:=(o73.ext hx26_).chg hc27_ (by omega)
 have o74_c27:=(o74.ext hx26_).chg hc27_ (by omega)
 refine (zee (CurAt.chg (CurAt.ext hC25_ hx26_) hc27_ (by omega) (by omega)) (by omega)).mono ?_
 rintro _ w28_ ⟨hc28_,hC28_,rfl⟩
 have hs_hc28_:=hc28_.size
 have hs_hc28_:=hc28_.size
 have hv4_c28:=(hv4_c27.ext (Ext.refl w27_)).chg hc28_ (by omega) (by omega)
 have o69_c28:=(o69_c27.ext (Ext.refl w27_)).chg hc28_ (by omega)
 have o73_c28:=(o73_c27.ext (Ext.refl w27_)).chg hc28_ (by omega)
 have o74_c28:=(o74_c27.ext (Ext.refl w27_)).chg hc28_ (by omega)
 have hv6_s27_c28:=(hv6_s27.ext (Ext.refl w27_)).chg hc28_ (by omega) (by omega)
 refine br (fun c10=>?_) (fun c10=>?_)
 · refine za2 (by unfold I64;omega) ?_
   refine (ih (n-1) (by omega) hC28_ (by omega)).mono ?_
   rintro r80 w29_ ⟨hc29_,hC29_,o80⟩
   have hs_hc29_:=hc29_.size
   have hs_hc29_:=hc29_.size
   have hv4_c29:=(hv4_c28.ext (Ext.refl w28_)).chg hc29_ (by omega) (by omega)
   have o69_c29:=(o69_c28.ext (Ext.refl w28_)).chg hc29_ (by omega)
   have o73_c29:=(o73_c28.ext (Ext.refl w28_)).chg hc29_ (by omega)
   have o74_c29:=(o74_c28.ext (Ext.refl w28_)).chg hc29_ (by omega)
   have hv6_s27_c29:=(hv6_s27_c28.ext (Ext.refl w28_)).chg hc29_ (by omega) (by omega)
   refine zaa zdP ?_
   obtain ⟨Fv30,hO30,hF30⟩:=(hv6_s27_c29.ext (Ext.refl w29_))
   obtain ⟨Gv30,hL30⟩:=zhp (Lens.var hO30)
   refine zqw zfY hL30 hF30 (o80.own.ext (Ext.refl w29_)) (by omega) (by omega) fun w30_ hc30_ hv30_=>?_
   have hv6_s30:=hv30_ (w3_.heap.size) (by omega) (by omega) (w29_.heap.size) (by omega) (by omega)
   clear hv30_ hL30 hO30 hF30
   have hs_hc30_:=hc30_.size
   have hv4_c30:=(hv4_c29.ext (Ext.refl w29_)).chg hc30_ (by omega) (by omega)
   have o69_c30:=(o69_c29.ext (Ext.refl w29_)).chg hc30_ (by omega)
   have o73_c30:=(o73_c29.ext (Ext.refl w29_)).chg hc30_ (by omega)
   have o74_c30:=(o74_c29.ext (Ext.refl w29_)).chg hc30_ (by omega)
   have o80_c30:=(o80.ext (Ext.refl w29_)).chg hc30_ (by omega)
   refine zes zc6 hv6_s30 (Ext.refl w30_) fun v82 o82=>?_
   refine za9 zc6 (hv4_c30.ext (Ext.refl w30_)) (o82.ext (Ext.refl w30_)) (by omega) fun w31_ hc31_ hv4_s31=>?_
   have hs_hc31_:=hc31_.size
   have o69_c31:=(o69_c30.ext (Ext.refl w30_)).chg hc31_ (by omega)
   have o73_c31:=(o73_c30.ext (Ext.refl w30_)).chg hc31_ (by omega)
   have o74_c31:=(o74_c30.ext (Ext.refl w30_)).chg hc31_ (by omega)
   have hv6_s30_c31:=(hv6_s30.ext (Ext.refl w30_)).chg hc31_ (by omega) (by omega)
   have o80_c31:=(o80_c30.ext (Ext.refl w30_)).chg hc31_ (by omega)
   have o82_c31:=(o82.ext (Ext.refl w30_)).chg hc31_ (by omega)
   refine zbX zc6 hv4_s31 (Ext.refl w31_) fun r4 hr4=>?_
   replace hr4:=hr4.ext (Ext.refl w31_)
   refine ⟨(ChgI.out (ChgI.out (ChgI.trans (ChgI.trans (ChgI.out (ChgI.trans (ChgI.trans (ChgI.trans (ChgI.trans (ChgI.trans (Ext.toI hx1_) hc2_) (Ext.toI hx3_)) hc24_) hc25_) (Ext.toI hx26_)) hc27_ (by omega)) hc28_) hc29_) hc30_ (by omega)) hc31_ (by omega)),?_⟩
   rw [zg4 hK,zjg,if_neg (by omega),if_pos (by first | assumption | (unfold zaU at *;assumption))]
   exact ⟨(CurAt.chg (CurAt.chg hC29_ hc30_ (by omega) (by omega)) hc31_ (by omega) (by omega)),hr4.mono (by omega) (by omega)⟩
 refine zes zc6 hv6_s27_c28 (Ext.refl w28_) fun v82 o82=>?_
 refine za9 zc6 (hv4_c28.ext (Ext.refl w28_)) (o82.ext (Ext.refl w28_)) (by omega) fun w32_ hc32_ hv4_s32=>?_
 have hs_hc32_:=hc32_.size
 have o69_c32:=(o69_c28.ext (Ext.refl w28_)).chg hc32_ (by omega)
 have o73_c32:=(o73_c28.ext (Ext.refl w28_)).chg hc32_ (by omega)
 have o74_c32:=(o74_c28.ext (Ext.refl w28_)).chg hc32_ (by omega)
 have hv6_s27_c32:=(hv6_s27_c28.ext (Ext.refl w28_)).chg hc32_ (by omega) (by omega)
 have o82_c32:=(o82.ext (Ext.refl w28_)).chg hc32_ (by omega)
 refine zbX zc6 hv4_s32 (Ext.refl w32_) fun r4 hr4=>?_
 replace hr4:=hr4.ext (Ext.refl w32_)
 refine ⟨(ChgI.out (ChgI.trans (ChgI.out (ChgI.trans (ChgI.trans (ChgI.trans (ChgI.trans (ChgI.trans (Ext.toI hx1_) hc2_) (Ext.toI hx3_)) hc24_) hc25_) (Ext.toI hx26_)) hc27_ (by omega)) hc28_) hc32_ (by omega)),?_⟩
 rw [zg4 hK,zjg,if_neg (by omega),if_neg (by first | assumption | (unfold zaU at *;assumption))]
 exact ⟨(CurAt.chg hC28_ hc32_ (by omega) (by omega)),hr4.mono (by omega) (by omega)⟩
theorem zmk:∀ (n:Nat),n≤10→znj n∧zpn n
 | 0,hn=>by
   have h1:znj 0:=fun {_ _ _ _ _ _} h hd=>zhv h hd (fun m hm=>absurd hm (by omega)) hn
   exact ⟨h1,fun {_ _ _ _ _ _} h hd=>zhu h hd h1⟩
 | n+1,hn=>by
   have ih:=zmk n (by omega)
   have hm:∀ m,m+1=n+1→zpn m:=fun m hm=>by
     obtain rfl:m=n:=by omega
     exact ih.2
   have h1:znj (n+1):=fun {_ _ _ _ _ _} h hd=>zhv h hd hm hn
   exact ⟨h1,fun {_ _ _ _ _ _} h hd=>zhu h hd h1⟩
end Go.Proofs.YtdmailcgaekimaaGreat
namespace Go.Sh
open Rep (rep)
def RowG {α:Type} [Rep α] (F:List Nat) (e:TypeId) (w:World) (v:Value) (l:List α):Prop:=(∃ a,v=.slice a 0 0∧l=[]∧F=[])∨RowF F e w v l
section
variable {P:Program} {w w0 w':World} {α β γ:Type} [Rep α] [Rep β] {e lo hi:Nat} {v:Value} {l:List α} {F:List Nat}
theorem RowG.lt (h:RowG F e w v l):∀ b∈F,b<w.heap.size:=by
 rcases h with ⟨a,_,_,rfl⟩ | h
 · simp
 exact h.lt
theorem RowG.keep (h:RowG F e w v l) (hk:∀ b∈F,w'.heap[b]?=w.heap[b]?):RowG F e w' v l:=by
 rcases h with h | h
 · exact .inl h
 exact .inr (h.keep hk)
theorem RowG.own (h:RowG F e w v l):OwnF F w v l:=by
 rcases h with ⟨a,rfl,rfl,rfl⟩ | h
 · exact ⟨_,⟨a,0,[],[],rfl,Nat.le_refl _,Nat.zero_le _,⟨rfl,rfl⟩,.inl ⟨rfl,rfl⟩⟩,rfl⟩
 exact h.own
theorem RowG.wr (h:RowG F e w v l):Wr F w:=by
 rcases h with ⟨a,_,_,rfl⟩ | h
 · exact Wr.nil w
 exact h.wr
theorem RowG.one (h:RowG F e w v l):v.oneCell'=true:=by
 obtain ⟨cs,⟨a,cap,Fi,xs,rfl,_⟩,rfl⟩:=h.own
 rfl
theorem zeA:RowI lo hi e w v l↔∃ F,RowG F e w v l∧F.Nodup∧∀ b∈F,lo≤b∧b<hi:=by
 constructor
 · rintro (⟨a,h1,h2⟩ | ⟨F,h1,h2,h3⟩)
   · exact ⟨[],.inl ⟨a,h1,h2,rfl⟩,List.nodup_nil,by simp⟩
   exact ⟨F,.inr h1,h2,h3⟩
 rintro ⟨F,(⟨a,h1,h2,_⟩ | h1),h2',h3⟩
 · exact .inl ⟨a,h1,h2⟩
 exact .inr ⟨F,h1,h2',h3⟩
end
structure RV (α:Type) (e:TypeId) where
 v:Value
 l:List α
instance {α:Type} [Rep α] {e:TypeId}:Rep (RV α e) where
 size:=1
 agg:=false
 rep F w cs x:=cs=[x.v]∧RowG F e w x.v x.l
 pos:=by decide
 sz _:=rfl
 len:=by rintro _ _ _ _ ⟨rfl,_⟩;rfl
 one:=by rintro _ _ _ _ ⟨rfl,h⟩ v hv;simp at hv;subst hv;exact h.one
 keep:=by rintro _ _ _ _ _ ⟨rfl,h⟩ hk;exact ⟨rfl,h.keep hk⟩
 lt:=by rintro _ _ _ _ ⟨rfl,h⟩;exact h.lt
section
variable {P:Program} {w w0 w':World} {α β γ:Type} [Rep α] [Rep β] {e lo hi:Nat} {v:Value} {l:List α} {F:List Nat}
theorem zml (h:RowI lo hi e w v l):OwnI lo hi w v (⟨v,l⟩:RV α e):=by
 obtain ⟨F,h1,h2,h3⟩:=zeA.1 h
 exact ⟨F,⟨⟨[v],⟨rfl,h1⟩,rfl⟩,h2,h1.wr⟩,h3⟩
theorem zmm {x:RV α e} (h:Is w v x):v=x.v∧Is w x.v x.l:=by
 obtain ⟨F,cs,⟨rfl,h1⟩,hv⟩:=h
 obtain ⟨cs,hr,hv'⟩:=h1.own
 exact ⟨hv,F,cs,hr,hv'⟩
theorem zj8 {t by_ b o:Nat} {x:RV α e} {K:Value→Prop} (ht:tyI P t=some (1,by_,false)) (h:At w0 b o x) (hx:Ext w0 w) (k:K x.v):RD P (Instr.loadAt t (.pointer (some ⟨b,o,none⟩))) w K:=
 zab (α:=RV α e) ht h hx fun v hv=>by rw [(zmm hv).1];exact k
theorem ztn {k:Nat} (hm:RowG F e w v l) (hn:F.Nodup) (hk:k<l.length) :
   ∃ b a cap G,v=.slice (some ⟨b,a,none⟩) l.length cap∧Lens (fun F w l=>RowG F e w v l∧F.Nodup) F w b (a+k*Rep.size α) G l[k] (fun y=>l.set k y):=by
 rcases hm with ⟨a,_,rfl,_⟩ | hm
 · simp at hk
 have hwF:=hm.wr
 obtain ⟨xs,Fi,ho,hc,rfl,hwi⟩:=hm
 rcases ho.2 with ⟨_,h0⟩ | ⟨g,cap,cur,rfl,hb0,hg,h1,h2,h3,h4⟩
 · omega
 simp only [Value.ownBlock,Option.toList_some,List.cons_append,List.nil_append] at hn hwF ⊢
 have hlx:=ho.1
 have e0:l=l.take k++(l[k] :: l.drop (k+1)):=by simp
 have hc':=hc
 rw [e0] at hc'
 obtain ⟨F1,F2',x1,x2',hFi,hxs,c1,c2'⟩:=Cells.split hc'
 obtain ⟨G,F2,cg,x2,rfl,rfl,hgr,c2⟩:=c2'
 subst hFi hxs
 have hl1:x1.length=k*Rep.size α:=by rw [Cells.len c1,List.length_take];congr 1;omega
 have hlg:=Rep.len hgr
 have hn':=hn
 rw [List.nodup_cons] at hn
 obtain ⟨hbn,hn⟩:=hn
 rw [List.nodup_append] at hn
 obtain ⟨hn1,hn2,hn3⟩:=hn
 rw [List.nodup_append] at hn2
 obtain ⟨hnG,hnF2,hn4⟩:=hn2
 have hrange:w.rangeAt g 0 (x1++(cg++x2)):=by
   intro j u hu
   rw [←h4,List.getElem?_take] at hu
   split at hu
   · simpa [World.cell?,hg] using hu
   cases hu
 obtain ⟨r1,r2⟩:=zaB hrange
 obtain ⟨rg,r3⟩:=zaB r2
 rw [hl1] at rg r3
 refine ⟨g,0,cap,G,rfl,⟨cg,hgr,rg,hnG,hwi.sub (by simp +contextual),fun h=>hbn (by simp [h]),cur,e,hg⟩,by simp +contextual,fun w' G' y' hch hO hs=>?_⟩
 obtain ⟨cg',hg',rg',hnG',hwG',hbG',hwb'⟩:=hO
 have hlg':=Rep.len hg'
 obtain ⟨cur',hcur',hsame⟩:=hch.cell cur e hg
 have keep1:∀ c∈F1,w'.heap[c]?=w.heap[c]?:=fun c hc1=>by
   refine hch.chg.block c (Cells.lt c1 c hc1) fun hm=>?_
   rcases List.mem_cons.1 hm with rfl | hm
   · exact hbn (by simp [hc1])
   exact hn3 c hc1 c (by simp [hm]) rfl
 have keep2:∀ c∈F2,w'.heap[c]?=w.heap[c]?:=fun c hc1=>by
   refine hch.chg.block c (Cells.lt c2 c hc1) fun hm=>?_
   rcases List.mem_cons.1 hm with rfl | hm
   · exact hbn (by simp [hc1])
   exact hn4 c hm c hc1 rfl
 have hfit:k*Rep.size α+Rep.size α≤cur.size:=by
   rw [h3]
   have:=Nat.mul_le_mul_right (Rep.size α) (show k+1≤cap by omega)
   rw [Nat.add_mul,Nat.one_mul] at this
   exact this
 have hcell':∀ j,j<cg'.length→cur'[0+k*Rep.size α+j]?=cg'[j]?:=by
   intro j hj
   have:=rg' j cg'[j] (by simp [hj])
   simpa [World.cell?,hcur',hj] using this
 have hpos:=Rep.pos (α:=α)
 have hsz':cur'.size=cur.size:=by
   rcases Nat.lt_trichotomy cur'.size cur.size with h | h | h
   · exfalso
     rcases Nat.lt_or_ge cur'.size (k*Rep.size α+Rep.size α) with h' | h'
     · have:=hcell' (Rep.size α-1) (by omega)
       rw [List.getElem?_eq_getElem (by omega)] at this
       have:=(Array.getElem?_eq_some_iff.1 this).1
       omega
     have:=hsame cur'.size (.inr (by omega))
     rw [Array.getElem?_eq_none (Nat.le_refl _),Array.getElem?_eq_getElem h] at this
     cases this
   · exact h
   exfalso
   have:=hsame cur.size (.inr (by omega))
   rw [Array.getElem?_eq_none (Nat.le_refl _),Array.getElem?_eq_getElem h] at this
   cases this
 have hlset:(l.set k y').length=l.length:=by simp
 refine ⟨g :: (F1++(G'++F2)),⟨.inr ⟨x1++(cg'++x2),F1++(G'++F2),⟨?_,.inr ⟨g,cap,cur',by rw [hlset],hb0,hcur',by rw [hlset];exact h1,h2,by rw [hsz'];exact h3,?_⟩⟩,?_,rfl,?_⟩,zkN hn' hnG' hs⟩,?_⟩
 · rw [hlset]
   simp only [List.length_append] at hlx ⊢
   omega
 · rw [hlset]
   apply List.ext_getElem?
   intro j
   have hjx:(cur.toList.take (l.length*Rep.size α))[j]?=(x1++(cg++x2))[j]?:=by rw [h4]
   rcases Nat.lt_or_ge j (l.length*Rep.size α) with hj | hj
   · rw [List.getElem?_take,if_pos hj] at hjx ⊢
     rcases Nat.lt_or_ge j (k*Rep.size α) with h' | h'
     · rw [Array.getElem?_toList,hsame j (.inl (by omega)),←Array.getElem?_toList,hjx,List.getElem?_append_left (by omega),List.getElem?_append_left (by omega)]
     rcases Nat.lt_or_ge j (k*Rep.size α+Rep.size α) with h'' | h''
     · rw [Array.getElem?_toList,List.getElem?_append_right (by omega),List.getElem?_append_left (by omega),hl1,←hcell' (j-k*Rep.size α) (by omega)]
       congr 1
       omega
     rw [Array.getElem?_toList,hsame j (.inr (by omega)),←Array.getElem?_toList,hjx,List.getElem?_append_right (by omega),List.getElem?_append_right (by omega),List.getElem?_append_right (by omega),List.getElem?_append_right (by omega),hlg,hlg']
   rw [List.getElem?_take,if_neg (by omega),List.getElem?_eq_none]
   simp only [List.length_append] at hlx ⊢
   omega
 · have:l.set k y'=l.take k++(y' :: l.drop (k+1)):=by rw [List.set_eq_take_append_cons_drop];simp [hk]
   rw [this]
   exact Cells.append (Cells.keep c1 keep1) ⟨G',F2,cg',x2,rfl,rfl,hg',Cells.keep c2 keep2⟩
 · exact ((hwi.sub (by simp +contextual)).keep keep1).append (hwG'.append ((hwi.sub (by simp +contextual)).keep keep2))
 intro c hcm
 rcases List.mem_cons.1 hcm with rfl | hcm
 · exact .inl (by simp)
 rcases List.mem_append.1 hcm with hcm | hcm
 · exact .inl (by simp [hcm])
 rcases List.mem_append.1 hcm with hcm | hcm
 · exact .inr hcm
 exact .inl (by simp [hcm])
theorem Lens.elemV {H:List Nat→World→γ→Prop} {S:List Nat} {b o:Nat} {G:List Nat} {x:RV β e} {upd:RV β e→γ} (h:Lens H S w b o G x upd) {k:Nat} (hk:k<x.l.length) :
   ∃ b2 a cap G2,x.v=.slice (some ⟨b2,a,none⟩) x.l.length cap∧(∀ c∈b2 :: G2,c∈G)∧Lens H S w b2 (a+k*Rep.size β) G2 x.l[k] (fun y=>upd ⟨x.v,x.l.set k y⟩):=by
 obtain ⟨⟨cs,⟨rfl,hrow⟩,hr,hn,hw,hb,hwb⟩,hsub,hback⟩:=h
 obtain ⟨b2,a,cap,G2,hu,hL⟩:=ztn hrow hn hk
 have hG:∀ c∈G,c∈S:=fun c hc=>hsub c (by simp [hc])
 refine ⟨b2,a,cap,G2,hu,hL.sub,hL.here,fun c hc=>hG c (hL.sub c hc),fun w' G' y' hch hO hs=>?_⟩
 obtain ⟨F1,⟨hR1,hN1⟩,hF1⟩:=hL.back w' G' y' hch hO fun c hc=>by
   rcases hs c hc with h | h
   · exact .inl h
   exact .inr fun e=>h (hG c e)
 have hchG:Chg G w w':=hch.chg.mono hL.sub
 have hbl:b<w.heap.size:=by obtain ⟨c,e,h⟩:=hwb;exact (Array.getElem?_eq_some_iff.1 h).1
 have hbk:w'.heap[b]?=w.heap[b]?:=hchG.block b hbl hb
 have hs1:∀ c∈F1,c∈G∨c∉S:=fun c hc=>by
   rcases hF1 c hc with h | h
   · exact .inl h
   rcases hs c h with h | h
   · exact .inl (hL.sub c (by simp [h]))
   exact .inr h
 have hbF1:b∉F1:=fun hm=>by
   rcases hs1 b hm with h | h
   · exact hb h
   exact h (hsub b (by simp))
 obtain ⟨F',hM',hF'⟩:=hback w' F1 ⟨x.v,x.l.set k y'⟩ ⟨hchG.mono (by simp +contextual),fun c e hc=>⟨c,by rw [hbk];exact hc,fun _ _=>rfl⟩⟩
   ⟨[x.v],⟨rfl,hR1⟩,zaY hr hbk,hN1,hR1.wr,hbF1,by obtain ⟨c,e,h⟩:=hwb;exact ⟨c,e,by rw [hbk];exact h⟩⟩ hs1
 refine ⟨F',hM',fun c hc=>?_⟩
 rcases hF' c hc with h | h
 · exact .inl h
 rcases hF1 c h with h | h
 · exact .inl (hG c h)
 exact .inr h
theorem zqN {t te:TypeId} {by_:Nat} {H:List Nat→World→γ→Prop} {S:List Nat} {b o:Nat} {G:List Nat} {x:RV β e} {upd:RV β e→γ} {k:Nat} {K:Value→Prop} (ht:P.underlying t=some (.slice te)) (he:tyI P te=some (Rep.size β,by_,Rep.agg β)) (h:Lens H S w b o G x upd) (hk:k<x.l.length)
   (kk:∀ b2 o2 G2,Lens H S w b2 o2 G2 x.l[k] (fun y=>upd ⟨x.v,x.l.set k y⟩)→K (.pointer (some ⟨b2,o2,none⟩))):RD P (Instr.indexAt t x.v (.int .i64 (k:Int))) w K:=by
 obtain ⟨b2,a,cap,G2,hv,_,hL⟩:=h.elemV hk
 refine zaV (v:=.pointer (some ⟨b2,a+k*Rep.size β,none⟩)) (fun w' _=>?_) (kk _ _ _ hL)
 rw [hv,zbg ht he (by omega) (by omega)];simp
instance:RepZ (RV α e):=⟨⟨.slice none 0 0,[]⟩,[.slice none 0 0],fun _=>⟨rfl,.inl ⟨none,rfl,rfl,rfl⟩⟩⟩
end
end Go.Sh
namespace Go.Sh
open Rep (rep)
structure Raw where
 v:Value
instance:Rep Raw where
 size:=1
 agg:=false
 rep F _ cs x:=F=[]∧cs=[x.v]∧x.v.oneCell'=true
 pos:=by decide
 sz _:=rfl
 len:=by rintro _ _ _ _ ⟨_,rfl,_⟩;rfl
 one:=by rintro _ _ _ _ ⟨_,rfl,h⟩ v hv;simp at hv;subst hv;exact h
 keep:=by rintro _ _ _ _ _ h _;exact h
 lt:=by rintro _ _ _ _ ⟨rfl,_⟩ b hb;cases hb
section
variable {P:Program} {w w0 w' w1:World} {α β γ:Type} [Rep α] [Rep β] {e lo hi:Nat} {v:Value} {F G S:List Nat} {b o g:Nat}
theorem ChgAt.ext_left {n:Nat} (hx:Ext w w1) (h:ChgAt b o n G w1 w'):ChgAt b o n G w w':=
 ⟨(hx.chg _).trans h.chg,fun c e hc=>h.cell c e (by rw [hx.heap (Array.getElem?_eq_some_iff.1 hc).1];exact hc)⟩
theorem OAt.ext {x:α} (h:OAt G w b o x) (hx:Ext w w1):OAt G w1 b o x:=h.keep fun c hc=>hx.heap (h.lts c hc)
theorem Lens.ext {H:List Nat→World→γ→Prop} {y:β} {upd:β→γ} (h:Lens H S w b o G y upd) (hx:Ext w w1):Lens H S w1 b o G y upd:=
 ⟨h.here.ext hx,h.sub,fun w' G' y' hch hO hs=>h.back w' G' y' (hch.ext_left hx) hO hs⟩
theorem zcr {ft by_:Nat} {u:Value} {K:Value→Prop} (hft:tyI P ft=some (1,by_,false)) (hr:w.rangeAt b o [u]) (k:K u):RD P (Instr.loadAt ft (.pointer (some ⟨b,o,none⟩))) w K:=by
 refine zaV (fun w' hx'=>?_) k
 have h0:w'.cell? ⟨b,o,none⟩=some u:=by simpa using (zbW hr hx') 0 u rfl
 have hA:=zb2 hft w'
 simp [Instr.loadAt,Instr.sureAddr,loadVar,hA,h0]
theorem zj9 {t by_:Nat} {u old:Value} {K:World→Prop} (ht:tyI P t=some (1,by_,false)) (hw:∃ c e,w.heap[b]?=some (.cells c e (0,0))) (hr:w.rangeAt b o [old]) (ho:old.oneCell'=true) (hu:u.oneCell'=true)
   (k:∀ w',ChgAt b o 1 [] w w'→w'.rangeAt b o [u]→K w'):OPU P (Instr.storeAt t (.pointer (some ⟨b,o,none⟩)) u) w K:=by
 refine zmZ (β:=Raw) (G:=[]) (y:=⟨old⟩) (y':=⟨u⟩) (G':=[]) ht ⟨[old],⟨rfl,rfl,ho⟩,hr,List.nodup_nil,Wr.nil w,by simp,hw⟩ ⟨[u],⟨rfl,rfl,hu⟩,rfl⟩ List.nodup_nil (Wr.nil w) (by simp) fun w' hc hO=>k w' hc ?_
 obtain ⟨cs,⟨_,rfl,_⟩,hr',_⟩:=hO
 exact hr'
theorem znk {t by_:Nat} {y y':β} {upd:β→α} {u:Value} {K:World→Prop} (ht:tyI P t=some (Rep.size β,by_,Rep.agg β)) (hL:Lens (VH g) (g :: F) w b o G y upd) (hF:∀ b∈F,lo≤b∧b<hi) (hg:hi≤g) (hlo:lo≤g) (hu:Mine [] w u y')
   (k:∀ w',ChgI lo (g+1) w w'→VarI lo hi w' g (upd y')→K w'):OPU P (Instr.storeAt t (.pointer (some ⟨b,o,none⟩)) u) w K:=by
 refine zf9 ht hL hu (by simp) fun w' hc ⟨F',h1,h2⟩=>k w' (hc.toI fun c hcm=>?_) ⟨F',h1,fun c hcm=>?_⟩
 · rcases List.mem_cons.1 hcm with rfl | hcm
   · omega
   have:=hF c hcm;omega
 rcases h2 c hcm with h | h
 · rcases List.mem_cons.1 h with rfl | h
   · obtain ⟨_,_,_,_,_,hn,_⟩:=h1;exact absurd hcm hn
   exact hF c h
 simp at h
theorem zhK {t by_:Nat} {y y':β} {upd:β→α} {u:Value} {K:World→Prop} (ht:tyI P t=some (Rep.size β,by_,Rep.agg β)) (hL:Lens (VH g) (g :: F) w b o G y upd) (hF:∀ b∈F,lo≤b∧b<hi) (hg:lo≤g∧g<hi) (hu:Mine [] w u y')
   (k:∀ w',ChgI lo hi w w'→VarI lo hi w' g (upd y')→K w'):OPU P (Instr.storeAt t (.pointer (some ⟨b,o,none⟩)) u) w K:=by
 refine zf9 ht hL hu (by simp) fun w' hc ⟨F',h1,h2⟩=>k w' (hc.toI fun c hcm=>?_) ⟨F',h1,fun c hcm=>?_⟩
 · rcases List.mem_cons.1 hcm with rfl | hcm
   · exact hg
   exact hF c hcm
 rcases h2 c hcm with h | h
 · rcases List.mem_cons.1 h with rfl | h
   · obtain ⟨_,_,_,_,_,hn,_⟩:=h1;exact absurd hcm hn
   exact hF c h
 simp at h
theorem VarI.mono {lo' hi':Nat} {x:α} (h:VarI lo hi w g x) (h1:lo'≤lo) (h2:hi≤hi'):VarI lo' hi' w g x:=by
 obtain ⟨F,h,hF⟩:=h;exact ⟨F,h,fun b hb=>by have:=hF b hb;omega⟩
theorem znl:∀ {l:List (RV α e)} {F:List Nat} {xs:List Value},Cells F w xs l→Cells F w xs (l.map RV.l)
 | [],_,_,h=>h
 | x :: l,_,_,⟨F1,F2,c1,c2,hF,h,⟨hc,h1⟩,h2⟩=>by
   obtain ⟨cs,hr,hv⟩:=h1.own
   have:cs=[x.v]:=by
     obtain ⟨a,cap,Fi,xs,rfl,_⟩:=hr
     rw [hv];rfl
   subst this
   exact ⟨F1,F2,c1,c2,hF,h,by rw [hc];exact hr,znl h2⟩
theorem zto {e2:TypeId} {cs:List Value} {x:RV (RV α e) e2} (h:rep F w cs x):rep F w cs (x.l.map RV.l):=by
 obtain ⟨rfl,h⟩:=h
 obtain ⟨cs,⟨a,cap,Fi,xs,rfl,h1,h2,hc,h4⟩,hv⟩:=h.own
 have hvv:x.v=.slice a x.l.length cap:=hv
 rw [hvv]
 refine ⟨a,cap,Fi,xs,by simp,by simpa using h1,h2,znl hc,?_⟩
 rcases h4 with ⟨h4,h5⟩ | h4
 · exact .inl ⟨by simp [h4],h5⟩
 exact .inr h4
theorem zfr {t ty:TypeId} {by_:Nat} {u:Value} {x:β} {l:List β} {GX:List Nat} {K:World→Value→World→Prop} {C:Value→World→Prop} (ht:P.underlying t=some (.slice e)) (he:tyI P e=some (Rep.size β,by_,Rep.agg β)) (hz:zbB P e=true)
   (hzc:(P.info? e).map (fun i=>(i.zero.map (·.cells.size)))=some (some (Rep.size β))) (hsz:Rep.size β≤1000) (hv:RowG G e w v l) (hn:G.Nodup) (hx:Mine GX w u x) (hd:∀ c∈GX,c∉G) (hm:l.length+1≤maxLen) (hb:(l.length+1)*by_≤140737488355328)
   (k:∀ w1 v' w' G',Ext w w1→Chg G w1 w'→RowG G' e w' v' (l++[x])→G'.Nodup→(∀ c∈G',c∈G∨c∈GX∨w.heap.size≤c)→K w1 v' w')
   (hC:∀ s w1,Ext w w1→OP P (Builtin.append_ #[t,t] ty [v,s].toArray) w1 (K w1)→C s w1):OP P (Instr.buildSlice t 1 #[(0,u)]) w C:=by
 refine zgh ht he hz hsz hx fun w1 hx1 hm1=>?_
 obtain ⟨⟨cs,⟨a,cap,Fi,xs,rfl,h1,h2,hc,h4⟩,hveq⟩,hn1,hw1⟩:=hm1
 simp only [mkv,Rep.agg,cond_false,List.headD_cons,Value.slice.injEq,List.length_cons,List.length_nil] at hveq
 obtain ⟨rfl,_,rfl⟩:=hveq
 rcases h4 with ⟨h4,_⟩ | ⟨b,o,hab,hFe,hra,hbl⟩
 · simp at h4
 simp only [List.cons.injEq] at hFe
 obtain ⟨_,rfl⟩:=hFe
 refine hC _ w1 hx1 ?_
 have key:∀ (v:Value) (F:List Nat),RowF F e w v l→F.Nodup→(∀ c∈F,c∈G)→OP P (Builtin.append_ #[t,t] ty [v,.slice (some ⟨w.heap.size,0,none⟩) 1 1].toArray) w1 (K w1):=by
   intro v F hF hFn hFG
   have hF1:=hF.ext hx1
   have hdd:(GX++F).Nodup:=by
     rw [List.nodup_append]
     exact ⟨hx.nodup,hFn,fun p hp q hq e=>hd p hp (hFG _ (e▸hq))⟩
   refine zeZ (m:=[x]) ht he hzc hF1 hFn rfl hc (.inr ⟨b,o,hab,hra⟩) (hw1.sub (by simp +contextual)) hdd (by simpa using hm) (by simpa using hb) fun v' w' F' hch hfull hr' hn' hs'=>?_
   have hown:∀ c∈v.ownBlock.toList,c∈G:=fun c hc=>by
     obtain ⟨xs,Fi,_,_,rfl,_⟩:=hF
     exact hFG c (by simp only [List.mem_append];exact .inl hc)
   refine k w1 v' w' F' hx1 (hch.mono hown) (.inr hr') hn' fun c hc=>?_
   rcases hs' c hc with h | h | h
   · exact .inl (hFG c h)
   · exact .inr (.inl h)
   exact .inr (.inr (Nat.le_trans hx1.size h))
 rcases hv with ⟨a0,rfl,rfl,rfl⟩ | hF
 · have kn:=key (.slice none 0 0) [] (zgg e w) List.nodup_nil (by simp)
   cases a0 with
   | none=>exact kn
   | some x0=>
     simp only [Option.some.injEq,Addr.mk.injEq] at hab
     obtain ⟨rfl,rfl,_⟩:=hab
     exact zhE (zex (α:=β) (n:=1) ht he hzc (by simpa using Cells.len hc) hra (by omega) (by rw [zam];omega) (by simpa using hb)) kn
 exact key v G hF hn (fun _ h=>h)
theorem zjk {t by_:Nat} {x:RV β e} {upd:RV β e→α} {w2:World} {v':Value} {l':List β} {G':List Nat} {K:World→Prop} (ht:tyI P t=some (1,by_,false)) (hL:Lens (VH g) (g :: F) w b o G x upd) (hlt:∀ c∈g :: F,c<w.heap.size) (hc:Chg G w w2)
   (hR:RowG G' e w2 v' l') (hN:G'.Nodup) (hs:∀ c∈G',c∈G∨w.heap.size≤c)
   (k:∀ w3,Chg (b :: G) w w3→(∃ F',OAt F' w3 g 0 (upd ⟨v',l'⟩)∧∀ c∈F',c∈g :: F∨w.heap.size≤c)→K w3):OPU P (Instr.storeAt t (.pointer (some ⟨b,o,none⟩)) v') w2 K:=by
 obtain ⟨cs,⟨rfl,hrow⟩,hr,hn,hw,hb,hwb⟩:=hL.here
 have hbl:b<w.heap.size:=hlt b (hL.sub b (by simp))
 have hbk:w2.heap[b]?=w.heap[b]?:=hc.block b hbl hb
 have hwb2:∃ c e,w2.heap[b]?=some (.cells c e (0,0)):=by obtain ⟨c,e,h⟩:=hwb;exact ⟨c,e,by rw [hbk];exact h⟩
 have hbG':b∉G':=fun hm=>by
   rcases hs b hm with h | h
   · exact hb h
   omega
 refine zj9 ht hwb2 (zaY hr hbk) hrow.one hR.one fun w3 hc3 hr3=>?_
 have hcat:ChgAt b o 1 G w w3:=by
   refine ⟨(hc.mono (by simp +contextual)).trans (hc3.chg.mono (by simp +contextual)),fun c e hcc=>?_⟩
   obtain ⟨c',h1,h2⟩:=hc3.cell c e (by rw [hbk];exact hcc)
   exact ⟨c',h1,h2⟩
 have hkeep:∀ c∈G',w3.heap[c]?=w2.heap[c]?:=fun c hcm=>hc3.chg.block c (hR.lt c hcm) (by simp;exact fun e=>hbG' (e▸hcm))
 obtain ⟨c',e',hc'⟩:=hwb2
 obtain ⟨c'',hc'',_⟩:=hc3.cell c' e' hc'
 obtain ⟨F',h1,h2⟩:=hL.back w3 G' ⟨v',l'⟩ hcat ⟨[v'],⟨rfl,hR.keep hkeep⟩,hr3,hN,(hR.keep hkeep).wr,hbG',c'',e',hc''⟩ fun c hcm=>by
   rcases hs c hcm with h | h
   · exact .inl h
   exact .inr fun hm=>by have:=hlt c hm;omega
 refine k w3 hcat.chg ⟨F',h1,fun c hcm=>?_⟩
 rcases h2 c hcm with h | h
 · exact .inl h
 rcases hs c h with h | h
 · exact .inl (hL.sub c (by simp [h]))
 exact .inr h
theorem zg5 {t:TypeId} {by_:Nat} {u:Value} {x:β} {K:Value→World→Prop} (ht:P.underlying t=some (.slice e)) (he:tyI P e=some (Rep.size β,by_,Rep.agg β)) (hz:zbB P e=true) (hsz:Rep.size β≤1000) (hx:Mine [] w u x)
   (k:∀ v w',Ext w w'→RowI w.heap.size w'.heap.size e w' v [x]→K v w'):OP P (Instr.buildSlice t 1 #[(0,u)]) w K:=by
 obtain ⟨⟨cs,hr,rfl⟩,hn,hw⟩:=hx
 have hcl:=zdy hr
 have hlen:=Rep.len hr
 have hvs:(mkv β cs).cells.size=Rep.size β:=by rw [←Array.length_toList,hcl,hlen]
 obtain ⟨i,d,hi,hd,hs,hby,hg⟩:=zcv he
 unfold zbB at hz
 rw [hi] at hz
 obtain ⟨z,hz⟩:=Option.isSome_iff_exists.1 hz
 have hpos:=Rep.pos (α:=β)
 refine ⟨_,w.alloc (.cells (mkv β cs).cells e),?_,k (.slice (some ⟨w.heap.size,0,none⟩) 1 1) _ (zaN w _) (.inr ⟨[w.heap.size],⟨cs,[],⟨by simp [hlen],.inr ⟨w.heap.size,1,(mkv β cs).cells,rfl,Nat.zero_le _,heap_alloc_new w _,Nat.le_refl _,by rw [zam];omega,by rw [hvs,Nat.one_mul],?_⟩⟩,Cells.single (zbV hr (zaN w _)),rfl,Wr.nil _⟩,by simp,?_⟩)⟩
 · have hne:¬Rep.size β=0:=by omega
   have h24:¬2^24<Rep.size β:=by omega
   simp only [Instr.buildSlice,Sem.run_bind,run_underlying ht,Result.andThen_ok,zaD he,Nat.one_mul]
   simp [h24,hne,zeroValue,typeInfo,hi,hz,zm8 _ _ _ hvs,newRow]
 · rw [hcl,List.length_singleton,Nat.one_mul,List.take_of_length_le (by omega)]
 intro b hb
 simp only [List.mem_cons,List.not_mem_nil,or_false] at hb
 subst hb
 exact ⟨Nat.le_refl _,(Array.getElem?_eq_some_iff.1 (heap_alloc_new w _)).1⟩
theorem Ext.toX {X:Nat→Prop} (h:Ext w w'):ExtX X w w':=⟨h.os,h.tape,h.output,h.size,fun b hb _=>h.block b hb⟩
theorem Chg.toX {X:Nat→Prop} (h:Chg G w w') (hX:∀ c∈G,X c):ExtX X w w':=⟨h.os,h.tape,h.output,h.size,fun b hb hn=>h.block b hb fun hm=>hn (hX b hm)⟩
theorem ze5 {X:Nat→Prop} {m:Sem Value} {K:Value→Prop} (hX:∀ b,X b→w0.heap.size≤b) (hx:Ext w0 w) (h:RD P m w0 K):RDX P X m w K:=by
 obtain ⟨v,h1,h2⟩:=h
 exact ⟨v,fun w' hw=>h1 w' ⟨hw.os.trans hx.os,hw.tape.trans hx.tape,hw.output.trans hx.output,Nat.le_trans hx.size hw.size,fun b hb=>(hw.block b (Nat.lt_of_lt_of_le hb hx.size) fun hXb=>by have:=hX b hXb;omega).trans (hx.block b hb)⟩,h2⟩
theorem zeB {X:Nat→Prop} {t i off:Nat} {K:Value→Prop} (hf:zdn P t i=some off) (k:K (.pointer (some ⟨b,o+off,none⟩))):RDX P X (Instr.fieldAt t (.pointer (some ⟨b,o,none⟩)) i) w K:=by
 obtain ⟨v,h1,h2⟩:=zaa (P:=P) (w:=w) (K:=fun v=>∀ w':World,(Instr.fieldAt t (.pointer (some ⟨b,o,none⟩)) i).run P w'=.ok v w'∧v=.pointer (some ⟨b,o+off,none⟩)) hf (fun w'=>by
   obtain ⟨v,h1,h2⟩:=zaa (P:=P) (w:=w') (b:=b) (o:=o) (K:=fun v=>v=.pointer (some ⟨b,o+off,none⟩)) hf rfl
   subst h2
   exact ⟨h1 w' (Ext.refl w'),rfl⟩)
 refine ⟨v,fun w' _=>(h2 w').1,?_⟩
 rw [(h2 w).2];exact k
theorem zeC {X:Nat→Prop} {ft by_:Nat} {u:Value} {K:Value→Prop} (hft:tyI P ft=some (1,by_,false)) (hr:w.rangeAt b o [u]) (hX:¬X b) (k:K u):RDX P X (Instr.loadAt ft (.pointer (some ⟨b,o,none⟩))) w K:=by
 refine ⟨u,fun w' hx'=>?_,k⟩
 have hb:=zgK hr (by simp)
 have h0:w'.cell? ⟨b,o,none⟩=some u:=by simpa using (zaY hr (hx'.block b hb hX)) 0 u rfl
 have hA:=zb2 hft w'
 simp [Instr.loadAt,Instr.sureAddr,loadVar,hA,h0]
theorem zse {x:Int} (h:At w b o x):w.rangeAt b o [.int .i64 x]:=by
 obtain ⟨F,cs,⟨_,rfl,_⟩,hr⟩:=h
 exact hr
end
end Go.Sh
namespace Go.Proofs.YtdmailcgaekimaaGreat
open Go Go.Sh Go.Proofs
open Rep (rep)
def F255 (a0:Value) (w:World) (R:VW):Prop:=
 oP (Instr.buildSlice 24 9 #[(0,(Value.string (ByteArray.mk #[]))),(1,(Value.string (ByteArray.mk #[]))),(2,(Value.string (ByteArray.mk #[105,102]))),(3,(Value.string (ByteArray.mk #[119,104,105,108,101]))),(4,(Value.string (ByteArray.mk #[99,97,108,108]))),(5,(Value.string (ByteArray.mk #[115,112,97,119,110]))),(6,(Value.string (ByteArray.mk #[108,111,99,107]))),(7,(Value.string (ByteArray.mk #[117,110,108,111,99,107]))),(8,(Value.string (ByteArray.mk #[115,107,105,112])))]) w fun x3 w=>
 rX 24 x3 a0 w fun x5=>
 rL 9 x5 w fun x6=>
 R x6 w
def cfg255:Cfg:=⟨extL,[],[],[],[],[],[]⟩
theorem F255_call {a0:Value} {w:World} {R:VW} (h:F255 a0 w R):cL 255 [a0] w R:=co (g:=cfg255) Tryz.func255 (by kernel_rfl) (by kernel_rfl) (by kernel_rfl) h
def F185 (a0:Value) (w:World) (R:VW):Prop:=
 cL 184 [a0] w fun x4 w=>
 BR x4
 (R (Value.bool true) w)
 (cL 107 [a0,(Value.string (ByteArray.mk #[99,97,108,108]))] w fun x7 w=>
 BR x7
 (R (Value.bool true) w)
 (cL 107 [a0,(Value.string (ByteArray.mk #[115,112,97,119,110]))] w fun x11 w=>
 BR x11
 (R (Value.bool true) w)
 (cL 107 [a0,(Value.string (ByteArray.mk #[108,111,99,107]))] w fun x15 w=>
 BR x15
 (R (Value.bool true) w)
 (cL 107 [a0,(Value.string (ByteArray.mk #[117,110,108,111,99,107]))] w fun x19 w=>
 BR x19
 (R (Value.bool true) w)
 (cL 107 [a0,(Value.string (ByteArray.mk #[115,107,105,112]))] w fun x23 w=>
 BR x23
 (R (Value.bool true) w)
 (cL 107 [a0,(Value.string (ByteArray.mk #[119,104,105,108,101]))] w fun x27 w=>
 BR x27
 (R (Value.bool true) w)
 (cL 107 [a0,(Value.string (ByteArray.mk #[105,102]))] w fun x31 w=>
 R x31 w)))))))
def cfg185:Cfg:=⟨extL,[],[],[],[],[],[]⟩
theorem F185_call {a0:Value} {w:World} {R:VW} (h:F185 a0 w R):cL 185 [a0] w R:=co (g:=cfg185) Tryz.func185 (by kernel_rfl) (by kernel_rfl) (by kernel_rfl) h
def F186 (a0 a1:Value) (w:World) (R:VW):Prop:=
 oP (Instr.alloc 81 true (.tuple #[])) w fun x4 w=>
 rD (Instr.build 81 #[]) w fun x8=>
 oP (Instr.alloc 81 true (.tuple #[])) w fun x5 w=>
 oS 81 x5 x8 w fun w=>
 JOIN [6] (fun J3=>
 cL 107 [a0,(Value.string (ByteArray.mk #[105,102]))] w fun x10 w=>
 BR x10
 (J3 [(Value.bool true)] w)
 (cL 107 [a0,(Value.string (ByteArray.mk #[119,104,105,108,101]))] w fun x13 w=>
 J3 [x13] w)) (fun u3 w=>
 JOIN [] (fun J6=>
 BR (u3 6)
 (rB .eql 3 T0 U0 a1 (iV 0) w fun x18=>
 BR x18
 (cL 108 [a0,(iV 4)] w fun x21 w=>
 rL 81 x5 w fun x22=>
 oS 81 x4 x22 w fun w=>
 rD (zar 81 x4) w fun r4=>R r4 w)
 (J6 [] w))
 (J6 [] w)) (fun u6 w=>
 NIL a0 <|
 rF 129 a0 4 w fun x25=>
 rL 3 x25 w fun x26=>
 rB .eql 3 T0 U0 x26 (iV 0) w fun x27=>
 BR x27
 (cL 108 [a0,(iV 5)] w fun x29 w=>
 rL 81 x5 w fun x30=>
 oS 81 x4 x30 w fun w=>
 rD (zar 81 x4) w fun r4=>R r4 w)
 (NIL a0 <|
 rF 129 a0 4 w fun x33=>
 rL 3 x33 w fun x34=>
 rB .sub 3 T0 U0 x34 (iV 1) w fun x35=>
 NIL a0 <|
 rF 129 a0 4 w fun x37=>
 oS 3 x37 x35 w fun w=>
 cL 184 [a0] w fun x39 w=>
 BR x39
 (rF 81 x5 0 w fun x40=>
 oS 3 x40 (iV 1) w fun w=>
 cL 110 [a0] w fun x42 w=>
 rF 81 x5 1 w fun x43=>
 oS 9 x43 x42 w fun w=>
 cL 109 [a0,(Value.string (ByteArray.mk #[61]))] w fun x45 w=>
 cL 254 [a0,(iV 6)] w fun x47 w=>
 rF 81 x5 2 w fun x48=>
 oS 78 x48 x47 w fun w=>
 cL 109 [a0,(Value.string (ByteArray.mk #[59]))] w fun x50 w=>
 rL 81 x5 w fun x51=>
 oS 81 x4 x51 w fun w=>
 rD (zar 81 x4) w fun r4=>R r4 w)
 (LOOPI [7] [(iV 2)] w fun u18 w next18=>
 rB .leq 3 T0 U0 (u18 7) (iV 8) w fun x53=>
 BR x53
 (cL 255 [(u18 7)] w fun x58 w=>
 cL 107 [a0,x58] w fun x59 w=>
 BR x59
 (rF 81 x5 0 w fun x61=>
 oS 3 x61 (u18 7) w fun w=>
 rA (u18 7) (iV 1) w fun x55=>
 next18 [x55] w)
 (rA (u18 7) (iV 1) w fun x55=>
 next18 [x55] w))
 (NIL a0 <|
 rF 129 a0 1 w fun x64=>
 rL 3 x64 w fun x65=>
 rA x65 (iV 1) w fun x66=>
 NIL a0 <|
 rF 129 a0 1 w fun x68=>
 oS 3 x68 x66 w fun w=>
 BR (u3 6)
 (cL 254 [a0,(iV 6)] w fun x72 w=>
 rF 81 x5 2 w fun x73=>
 oS 78 x73 x72 w fun w=>
 cL 109 [a0,(Value.string (ByteArray.mk #[123]))] w fun x75 w=>
 rB .sub 3 T0 U0 a1 (iV 1) w fun x78=>
 cL 111 [a0,x78] w fun x79 w=>
 rF 81 x5 3 w fun x80=>
 oS 66 x80 x79 w fun w=>
 cL 109 [a0,(Value.string (ByteArray.mk #[125]))] w fun x82 w=>
 rF 81 x5 0 w fun x83=>
 rL 3 x83 w fun x84=>
 rB .eql 3 T0 U0 x84 (iV 2) w fun x85=>
 BR x85
 (cL 107 [a0,(Value.string (ByteArray.mk #[101,108,115,101]))] w fun x88 w=>
 BR x88
 (NIL a0 <|
 rF 129 a0 1 w fun x92=>
 rL 3 x92 w fun x93=>
 rA x93 (iV 1) w fun x94=>
 NIL a0 <|
 rF 129 a0 1 w fun x96=>
 oS 3 x96 x94 w fun w=>
 cL 109 [a0,(Value.string (ByteArray.mk #[123]))] w fun x98 w=>
 JOIN [] (fun J33=>
 NIL a0 <|
 rF 129 a0 3 w fun x101=>
 rF 86 x101 0 w fun x102=>
 rL 3 x102 w fun x103=>
 rB .eql 3 T0 U0 x103 (iV 0) w fun x104=>
 BR x104
 (cL 185 [a0] w fun x107 w=>
 rD (Op.unary .not x107) w fun x108=>
 BR x108
 (cL 108 [a0,(iV 3)] w fun x111 w=>
 J33 [] w)
 (J33 [] w))
 (J33 [] w)) (fun u33 w=>
 rB .sub 3 T0 U0 a1 (iV 1) w fun x114=>
 cL 111 [a0,x114] w fun x115 w=>
 rF 81 x5 4 w fun x116=>
 oS 66 x116 x115 w fun w=>
 cL 109 [a0,(Value.string (ByteArray.mk #[125]))] w fun x118 w=>
 rL 81 x5 w fun x119=>
 oS 81 x4 x119 w fun w=>
 rD (zar 81 x4) w fun r4=>R r4 w))
 (rL 81 x5 w fun x119=>
 oS 81 x4 x119 w fun w=>
 rD (zar 81 x4) w fun r4=>R r4 w))
 (rL 81 x5 w fun x119=>
 oS 81 x4 x119 w fun w=>
 rD (zar 81 x4) w fun r4=>R r4 w))
 (rF 81 x5 0 w fun x121=>
 rL 3 x121 w fun x122=>
 rB .neq 3 T0 U0 x122 (iV 8) w fun x123=>
 BR x123
 (cL 110 [a0] w fun x125 w=>
 rF 81 x5 1 w fun x126=>
 oS 9 x126 x125 w fun w=>
 cL 109 [a0,(Value.string (ByteArray.mk #[59]))] w fun x128 w=>
 rL 81 x5 w fun x129=>
 oS 81 x4 x129 w fun w=>
 rD (zar 81 x4) w fun r4=>R r4 w)
 (cL 109 [a0,(Value.string (ByteArray.mk #[59]))] w fun x128 w=>
 rL 81 x5 w fun x129=>
 oS 81 x4 x129 w fun w=>
 rD (zar 81 x4) w fun r4=>R r4 w)))))))
def cfg186:Cfg:=⟨extL,[(3,32320,[6]),(6,8355840,[]),(33,5191663033234713513829747977617408,[])],[(18,4607182418800017536,[7])],[],[],[],[]⟩
theorem F186_call {a0 a1:Value} {w:World} {R:VW} (h:F186 a0 a1 w R):cL 186 [a0,a1] w R:=co (g:=cfg186) Tryz.func186 (by kernel_rfl) (by kernel_rfl) (by kernel_rfl) h
open Rep (rep)
theorem RdS.chg {W w w':World} {g a b:Nat} {L:List DSign} {v:Value} {e:Int} {i left:Nat} (h:RdS W g L v e i left w) (hc:ChgI a b w w') (hg:g<a):RdS W g L v e i left w':=
 ⟨h.is_,h.ext.chgI hc (by have:=h.lo;omega),h.lo,h.blk.keep (hc.block g h.blk.lt (.inl hg)),h.many⟩
def atT (L:List DSign) (i:Nat) (t:ByteArray):Prop:=i<L.length∧sgT L i=t
instance (L:List DSign) (i:Nat) (t:ByteArray):Decidable (atT L i t):=inferInstanceAs (Decidable (i<L.length∧sgT L i=t))
def wordsS:List ByteArray:=[ByteArray.mk #[],ByteArray.mk #[],ByteArray.mk #[105,102],ByteArray.mk #[119,104,105,108,101],ByteArray.mk #[99,97,108,108],ByteArray.mk #[115,112,97,119,110],ByteArray.mk #[108,111,99,107],ByteArray.mk #[117,110,108,111,99,107],ByteArray.mk #[115,107,105,112]]
theorem zob {w:World} {k:Nat} (hk:k<9):CALL Tryz.prog 255 [.int .i64 (k:Int)] w fun r w'=>Ext w w'∧r=.string (wordsS[k]'(by simpa [wordsS] using hk)):=by
 refine F255_call ?_
 unfold F255
 refine zdR (l:=wordsS) (vs:=wordsS.map Value.string) u24 ty9 zby (by decide) (by kernel_rfl) rfl (fun w=>zbF (by decide)) fun v21 w1 hx1 o21=>?_
 refine zad (i:=k) u24 ty9 o21.is (by simpa [wordsS] using hk) fun b o hA=>?_
 refine zao ty9 hA (Ext.refl _) fun _=>?_
 exact ⟨hx1,rfl⟩
def zjl (L:List DSign) (i:Nat):Bool:=named L i || decide (atT L i (ByteArray.mk #[99,97,108,108])) || decide (atT L i (ByteArray.mk #[115,112,97,119,110])) || decide (atT L i (ByteArray.mk #[108,111,99,107])) || decide (atT L i (ByteArray.mk #[117,110,108,111,99,107])) || decide (atT L i (ByteArray.mk #[115,107,105,112])) || decide (atT L i (ByteArray.mk #[119,104,105,108,101])) || decide (atT L i (ByteArray.mk #[105,102]))
section
variable {W w:World} {g:Nat} {L:List DSign} {v:Value} {e:Int} {i left:Nat}
theorem zle (h:RdS W g L v e i left w) :
   CALL Tryz.prog 185 [.pointer (some ⟨g,0,none⟩)] w fun r w'=>Ext w w'∧r=.bool (zjl L i):=by
 refine F185_call ?_
 unfold F185
 unfold zjl
 refine (zfQ h).mono ?_
 rintro _ w1 ⟨hx1,rfl⟩
 refine zcM (fun hb=>⟨hx1,by rw [hb];rfl⟩) (fun hb=>?_)
 rw [hb]
 refine (zco (h.step hx1)).mono ?_
 rintro _ w2 ⟨hx2,rfl⟩
 have h2:=hx1.trans hx2
 refine br (fun hc=>⟨h2,by rw [decide_eq_true (show atT L i _ from hc)];rfl⟩) (fun c1=>?_)
 rw [decide_eq_false (show ¬atT L i _ from c1)]
 refine (zco (h.step h2)).mono ?_
 rintro _ w3 ⟨hx3,rfl⟩
 have h3:=h2.trans hx3
 refine br (fun hc=>⟨h3,by rw [decide_eq_true (show atT L i _ from hc)];rfl⟩) (fun c2=>?_)
 rw [decide_eq_false (show ¬atT L i _ from c2)]
 refine (zco (h.step h3)).mono ?_
 rintro _ w4 ⟨hx4,rfl⟩
 have h4:=h3.trans hx4
 refine br (fun hc=>⟨h4,by rw [decide_eq_true (show atT L i _ from hc)];rfl⟩) (fun c3=>?_)
 rw [decide_eq_false (show ¬atT L i _ from c3)]
 refine (zco (h.step h4)).mono ?_
 rintro _ w5 ⟨hx5,rfl⟩
 have h5:=h4.trans hx5
 refine br (fun hc=>⟨h5,by rw [decide_eq_true (show atT L i _ from hc)];rfl⟩) (fun c4=>?_)
 rw [decide_eq_false (show ¬atT L i _ from c4)]
 refine (zco (h.step h5)).mono ?_
 rintro _ w6 ⟨hx6,rfl⟩
 have h6:=h5.trans hx6
 refine br (fun hc=>⟨h6,by rw [decide_eq_true (show atT L i _ from hc)];rfl⟩) (fun c5=>?_)
 rw [decide_eq_false (show ¬atT L i _ from c5)]
 refine (zco (h.step h6)).mono ?_
 rintro _ w7 ⟨hx7,rfl⟩
 have h7:=h6.trans hx7
 refine br (fun hc=>⟨h7,by rw [decide_eq_true (show atT L i _ from hc)];rfl⟩) (fun c6=>?_)
 rw [decide_eq_false (show ¬atT L i _ from c6)]
 refine (zco (h.step h7)).mono ?_
 rintro _ w8 ⟨hx8,rfl⟩
 exact ⟨h7.trans hx8,rfl⟩
theorem zt2:zb9 Tryz.prog 81=some [.int .i64 0,.string nO,.int .i64 0,.int .i64 0,.string nO,.slice none 0 0,.slice none 0 0,.slice none 0 0]:=by kernel_rfl
def stC (k:Int) (s:ByteArray):List Value:=[.int .i64 k,.string s,.int .i64 0,.int .i64 0,.string nO,.slice none 0 0,.slice none 0 0,.slice none 0 0]
theorem zpo {lo hi:Nat} {k:Int} {s:ByteArray} (hl:lo≤hi) (hk:I64 k) (hs:s.size≤maxLen):OwnI lo hi w (.agg (stC k s).toArray) (DStmt.mk k s term0 [] []):=
 mkS (l0:=lo) (h0:=lo) (l1:=lo) (h1:=lo) (l2:=lo) (h2:=lo) hk hs zdt zbc zbc (by omega) (by omega) (by omega) (by omega) (by omega) (by omega)
structure OneS (L:List DSign) (i k:Nat):Prop where
 k4:4≤k
 k7:k≤7
 lt:i+2<L.length
 word:some (sgT L i)=wordsS[k]?
 name:named L (i+1)=true
 semi:sgT L (i+2)=ByteArray.mk #[59]
 size:(sgT L (i+1)).size≤maxLen
theorem OneS.only {k:Nat} (h:OneS L i k) {j:Nat} (hj:j<9):sgT L i=(wordsS[j]'(by simpa [wordsS] using hj))→j=k:=fun e=>by
 have hk:=h.k7
 have h4:=h.k4
 have hw:=h.word
 rw [e,List.getElem?_eq_getElem (by simp [wordsS];omega)] at hw
 have hw:=Option.some.inj hw
 have key:∀ a b:Fin 9,4≤b.1→b.1≤7→(wordsS[a.1]'(by simp [wordsS]))=(wordsS[b.1]'(by simp [wordsS]))→a=b:=by decide +kernel
 have:=key ⟨j,hj⟩ ⟨k,by omega⟩ h4 hk hw
 exact congrArg Fin.val this
theorem zoc {k room:Nat} (h:RdS W g L v e i left w) (hO:OneS L i k) (hl:1≤left) (hl2:left≤60) (hnm:named L i=false) (hg:g<w.heap.size) :
   CALL Tryz.prog 186 [.pointer (some ⟨g,0,none⟩),.int .i64 (room:Int)] w fun r w'=>ChgI g (g+1) w w'∧RdS W g L v e (i+3) (left-1) w'∧OwnI w.heap.size w'.heap.size w' r (DStmt.mk (k:Int) (sgT L (i+1)) term0 [] []):=by
 have hk4:=hO.k4
 have hk7:=hO.k7
 have hlt:=hO.lt
 have hm:=h.many
 refine F186_call ?_
 unfold F186
 refine zdz (α:=DStmt) zsY fun w1 hx1 hv4=>?_
 have hs1:=hx1.size
 have hg4:=hv4.lt
 refine zaH (cells:=(stC 0 nO).toArray) (by kernel_rfl) ?_
 refine zaF zt2 fun w2 hx2 hB2=>?_
 have hs2:=hx2.size
 have hg5:=hB2.lt
 refine zaw (α:=DStmt) (lo:=0) (hi:=0) zc6 rfl hB2 rfl (zpo (Nat.le_refl _) zgn ze3) fun w3 hc3 hB3=>?_
 have hs3:=hc3.size
 have hx13:Ext w1 w3:=hx2.chgI hc3 (Nat.le_refl _)
 have hx03:=hx1.trans hx13
 have h3:=h.step hx03
 refine JOIN.mk (fun us w'=>us=[.bool false]∧Ext w3 w') ?_ ?_
 · refine (zco h3).mono ?_
   rintro _ wa ⟨hxa,rfl⟩
   refine br (fun hc=>absurd (hO.only (j:=2) (by omega) hc.2) (by omega)) (fun _=>?_)
   refine (zco (h3.step hxa)).mono ?_
   rintro _ wb ⟨hxb,rfl⟩
   refine ⟨?_,hxa.trans hxb⟩
   rw [decide_eq_false (fun hc=>absurd (hO.only (j:=3) (by omega) hc.2) (by omega))]
 rintro u3 w4 ⟨hu3,hx4⟩
 have hs4:=hx4.size
 simp only [List.map_cons,List.map_nil,List.cons.injEq,and_true] at hu3
 rw [hu3]
 refine JOIN.mk (fun us w'=>us=[]∧Ext w4 w') (zcM (fun h=>by cases h) (fun _=>⟨rfl,Ext.refl _⟩)) ?_
 rintro u6 w5 ⟨-,hx5⟩
 have hs5:=hx5.size
 have h5:=h3.step (hx4.trans hx5)
 have hB5:=hB3.ext (hx4.trans hx5)
 refine NIL.mk rfl ?_
 refine zaa zjL ?_
 refine zaA ty3 h5.blk rfl ?_
 refine zag ?_
 refine br (fun h=>absurd h (by omega)) (fun _=>?_)
 refine NIL.mk rfl ?_
 refine zaa zjL ?_
 refine zaA ty3 h5.blk rfl ?_
 refine za2 (by unfold I64;omega) ?_
 refine NIL.mk rfl ?_
 refine zaa zjL ?_
 refine za6 (α:=Int) (lo:=0) (hi:=0) ty3 rfl rfl h5.blk (by simp [zd1]) (zcc (by unfold I64;omega)) fun w6 hc6 hB6=>?_
 have hs6:=hc6.size
 have h6:RdS W g L v e i (left-1) w6:=⟨h.is_,h5.ext.chgI hc6 h.lo,h.lo,by
   have e1:((left:Int)-1)=((left-1:Nat):Int):=by omega
   rw [e1] at hB6;exact hB6,h.many⟩
 have hB6':=hB5.keep (hc6.block _ hB5.lt (.inr (by omega)))
 refine (zfQ h6).mono ?_
 rintro _ w7 ⟨hx7,rfl⟩
 have hs7:=hx7.size
 rw [hnm]
 refine zcM (fun h=>by cases h) (fun _=>?_)
 have h7:=h6.step hx7
 have hB7:=hB6'.ext hx7
 have hc07:ChgI g (g+1) w w7:=((hx03.trans (hx4.trans hx5)).toI.trans hc6).trans hx7.toI
 refine zaE 9 (fun j us w'=>us=[.int .i64 (j:Int)]∧2≤j∧ChgI w1.heap.size (w1.heap.size+1) w7 w'∧Blk w1.heap.size 81 w' (stC (if k<j then k else 0) nO)) 2 (by omega) ⟨rfl,Nat.le_refl _,ChgI.refl _,by rw [if_neg (by omega)];exact hB7⟩ ?_
 rintro j mj u8 w8 hjm ⟨hu8,hj2,hc8,hB8⟩
 simp only [List.map_cons,List.map_nil,List.cons.injEq,and_true] at hu8
 rw [hu8]
 have hs8:=hc8.size
 have h8:=h7.chg hc8 (by omega)
 refine zcO ?_
 refine br (fun hle=>?_) (fun hgt=>?_)
 · have hj9:j<9:=by omega
   refine (zob hj9).mono ?_
   rintro _ w9 ⟨hx9,rfl⟩
   refine (zco (h8.step hx9)).mono ?_
   rintro _ w10 ⟨hx10,rfl⟩
   have hx810:=hx9.trans hx10
   refine br (fun hc=>?_) (fun hc=>?_)
   · have hjk:=hO.only hj9 hc.2
     refine zaa zeR ?_
     refine za6 (α:=Int) (lo:=0) (hi:=0) ty3 rfl rfl (hB8.ext hx810) (by simp [stC]) (zcc (by unfold I64;omega)) fun w11 hc11 hB11=>?_
     refine zah (by omega) ?_
     refine ⟨mj-1,by omega,j+1,by omega,rfl,by omega,(hc8.trans hx810.toI).trans hc11,?_⟩
     rw [if_pos (by omega),←hjk]
     exact hB11
   have hjk:j≠k:=fun e=>hc ⟨by omega,by
     have:=hO.word
     rw [←e,List.getElem?_eq_getElem (by simp [wordsS];omega)] at this
     exact Option.some.inj this⟩
   refine zah (by omega) ?_
   refine ⟨mj-1,by omega,j+1,by omega,rfl,by omega,hc8.trans hx810.toI,?_⟩
   have:(if k<j+1 then (k:Int) else 0)=if k<j then (k:Int) else 0:=by split<;>split<;>omega
   rw [this]
   exact hB8.ext hx810
 rw [if_pos (by omega)] at hB8
 refine NIL.mk rfl ?_
 refine zaa zcY ?_
 refine zaA ty3 h8.blk rfl ?_
 refine zah (by omega) ?_
 refine NIL.mk rfl ?_
 refine zaa zcY ?_
 refine za6 (α:=Int) (lo:=0) (hi:=0) ty3 rfl rfl h8.blk (by simp [zd1]) (zcc (by unfold I64;omega)) fun w9 hc9 hB9=>?_
 have hs9:=hc9.size
 have h9:RdS W g L v e (i+1) (left-1) w9:=⟨h.is_,h8.ext.chgI hc9 h.lo,h.lo,hB9,h.many⟩
 have hS9:=hB8.keep (hc9.block _ hB8.lt (.inr (by omega)))
 refine zcM (fun h=>by cases h) (fun _=>?_)
 refine zaa zeR ?_
 refine zaA ty3 hS9 rfl ?_
 refine zaM ?_
 refine br (fun _=>?_) (fun h=>absurd (show (k:Int)≠8 by omega) h)
 refine (zg3 h9 hO.name).mono ?_
 rintro _ w10 ⟨hc10,h10,rfl⟩
 have hs10:=hc10.size
 have hS10:=hS9.keep (hc10.block _ hS9.lt (.inr (by omega)))
 refine zaa zcS ?_
 refine za6 (α:=ByteArray) (lo:=0) (hi:=0) ty9 rfl rfl hS10 (by simp [stC]) (zhC hO.size) fun w11 hc11 hS11=>?_
 have hs11:=hc11.size
 have h11:=h10.chg hc11 (by omega)
 refine (zc4 h11 (by omega) hO.semi).mono ?_
 rintro _ w12 ⟨hc12,h12⟩
 have hs12:=hc12.size
 have hS12:=hS11.keep (hc12.block _ hS11.lt (.inr (by omega)))
 refine zbP hS12 zc6 ?_
 have hc0:ChgI g (g+1) w w12:=(ChgI.out (((ChgI.out hc07 hc8 (by omega)).trans hc9).trans hc10) hc11 (by omega)).trans hc12
 have hs0:=hc0.size
 have hs07:=hc07.size
 have hv4':VarI w.heap.size w1.heap.size w12 w.heap.size (RepZ.zv:DStmt):=by
   have a1:=(hv4.mono (show w.heap.size≤w1.heap.size by omega) (Nat.le_refl _)).ext hx2
   have a2:=a1.chg hc3 (.inl (by omega)) (.inl (by omega))
   have a3:=(a2.ext (hx4.trans hx5)).chg hc6 (.inr (by omega)) (.inr (by omega))
   have a4:=(a3.ext hx7).chg hc8 (.inl (by omega)) (.inl (by omega))
   have a5:=a4.chg hc9 (.inr (by omega)) (.inr (by omega))
   have a6:=a5.chg hc10 (.inr (by omega)) (.inr (by omega))
   have a7:=a6.chg hc11 (.inl (by omega)) (.inl (by omega))
   exact a7.chg hc12 (.inr (by omega)) (.inr (by omega))
 have hown:OwnI w12.heap.size w12.heap.size w12 (.agg (stC k (sgT L (i+1))).toArray) (DStmt.mk k (sgT L (i+1)) term0 [] []):=zpo (Nat.le_refl _) (by unfold I64;omega) hO.size
 refine za9 zc6 hv4' hown (.inl (by omega)) fun w13 hc13 hv13=>?_
 have hs13:=hc13.size
 refine zbX zc6 hv13 (Ext.refl _) fun r hr=>?_
 exact ⟨ChgI.out hc0 hc13 (by omega),h12.chg hc13 (by omega),hr.mono (by omega) (by omega)⟩
end
def F111 (a0 a1:Value) (w:World) (R:VW):Prop:=
 oP (Instr.buildSlice 66 0 #[]) w fun x6 w=>
 LOOPI [5] [x6] w fun u2 w next2=>
 cL 185 [a0] w fun x8 w=>
 BR x8
 (cL 186 [a0,a1] w fun x12 w=>
 oP (Instr.buildSlice 66 1 #[(0,x12)]) w fun x13 w=>
 oP (Builtin.append_ #[66,66] 66 [(u2 5),x13].toArray) w fun x14 w=>
 next2 [x14] w)
 (R (u2 5) w)
def cfg111:Cfg:=⟨extL,[],[(2,32672,[5])],[],[],[],[]⟩
theorem F111_call {a0 a1:Value} {w:World} {R:VW} (h:F111 a0 a1 w R):cL 111 [a0,a1] w R:=co (g:=cfg111) Tryz.func111 (by kernel_rfl) (by kernel_rfl) (by kernel_rfl) h
def F106 (a0 a1 a2:Value) (w:World) (R:VW):Prop:=
 oP (Instr.buildSlice 24 0 #[]) w fun x8 w=>
 cL 109 [a0,a1] w fun x11 w=>
 LOOPI [7] [x8] w fun u3 w next3=>
 NIL a0 <|
 rF 129 a0 3 w fun x14=>
 rF 86 x14 0 w fun x15=>
 rL 3 x15 w fun x16=>
 rB .eql 3 T0 U0 x16 (iV 0) w fun x17=>
 BR x17
 (cL 107 [a0,(Value.string (ByteArray.mk #[59]))] w fun x20 w=>
 rD (Op.unary .not x20) w fun x21=>
 BR x21
 (JOIN [] (fun J6=>
 rN 24 3 (u3 7) w fun x24=>
 rB .gtr 3 T0 U0 x24 (iV 0) w fun x25=>
 BR x25
 (cL 109 [a0,(Value.string (ByteArray.mk #[44]))] w fun x27 w=>
 J6 [] w)
 (J6 [] w)) (fun u6 w=>
 rN 24 3 (u3 7) w fun x29=>
 rB .eql 3 T0 T0 x29 a2 w fun x31=>
 BR x31
 (cL 184 [a0] w fun x34 w=>
 BR x34
 (cL 108 [a0,(iV 5)] w fun x37 w=>
 cL 110 [a0] w fun x40 w=>
 oP (Instr.buildSlice 24 1 #[(0,x40)]) w fun x41 w=>
 oP (Builtin.append_ #[24,24] 24 [(u3 7),x41].toArray) w fun x42 w=>
 next3 [x42] w)
 (cL 110 [a0] w fun x40 w=>
 oP (Instr.buildSlice 24 1 #[(0,x40)]) w fun x41 w=>
 oP (Builtin.append_ #[24,24] 24 [(u3 7),x41].toArray) w fun x42 w=>
 next3 [x42] w))
 (cL 110 [a0] w fun x40 w=>
 oP (Instr.buildSlice 24 1 #[(0,x40)]) w fun x41 w=>
 oP (Builtin.append_ #[24,24] 24 [(u3 7),x41].toArray) w fun x42 w=>
 next3 [x42] w)))
 (cL 109 [a0,(Value.string (ByteArray.mk #[59]))] w fun x44 w=>
 R (u3 7) w))
 (cL 109 [a0,(Value.string (ByteArray.mk #[59]))] w fun x44 w=>
 R (u3 7) w)
def cfg106:Cfg:=⟨extL,[(6,260046848,[])],[(3,8796093018240,[7])],[],[],[],[]⟩
theorem F106_call {a0 a1 a2:Value} {w:World} {R:VW} (h:F106 a0 a1 a2 w R):cL 106 [a0,a1,a2] w R:=co (g:=cfg106) Tryz.func106 (by kernel_rfl) (by kernel_rfl) (by kernel_rfl) h
open Rep (rep)
def zkE (L:List DSign) (i:Nat):List Nat→List DStmt
 | []=>[]
 | k :: ks=>DStmt.mk k (sgT L (i+1)) term0 [] [] :: zkE L (i+3) ks
theorem zlf (L:List DSign):∀ (ks:List Nat) (i n:Nat) (hn:n<ks.length),zkE L i (ks.take (n+1))=zkE L i (ks.take n)++[DStmt.mk ks[n] (sgT L (i+3*n+1)) term0 [] []]
 | [],_,_,hn=>by simp at hn
 | k :: ks,i,0,_=>by simp [zkE]
 | k :: ks,i,n+1,hn=>by
   have:=zlf L ks (i+3) n (by simpa using hn)
   simp only [List.take_succ_cons,zkE,this,List.cons_append,List.getElem_cons_succ]
   rw [show i+3+3*n+1=i+3*(n+1)+1 by omega]
theorem zka (L:List DSign):∀ (ks:List Nat) (i:Nat),(zkE L i ks).length=ks.length
 | [],_=>rfl
 | k :: ks,i=>by simp [zkE,zka L ks]
structure RowS (L:List DSign) (i:Nat) (ks:List Nat):Prop where
 one:∀ j (hj:j<ks.length),OneS L (i+3*j) ks[j]
 named:∀ j,j<ks.length→named L (i+3*j)=false
 beg:∀ j,j<ks.length→zjl L (i+3*j)=true
 stop:zjl L (i+3*ks.length)=false
 many:ks.length≤60
section
variable {W w:World} {g:Nat} {L:List DSign} {v:Value} {e:Int} {i left:Nat}
theorem zmn {ks:List Nat} {room:Nat} (h:RdS W g L v e i left w) (hR:RowS L i ks) (hl:ks.length≤left) (hl2:left≤60) (hg:g<w.heap.size) :
   CALL Tryz.prog 111 [.pointer (some ⟨g,0,none⟩),.int .i64 (room:Int)] w fun r w'=>ChgI g (g+1) w w'∧RdS W g L v e (i+3*ks.length) (left-ks.length) w'∧RowI w.heap.size w'.heap.size 81 w' r (zkE L i ks):=by
 have hmany:=hR.many
 refine F111_call ?_
 unfold F111
 refine zaK (α:=DStmt) u66 zc6 fun a1 w1 hx1 hr1=>?_
 have hs1:=hx1.size
 refine zaE ks.length (fun n us w'=>∃ out,us=[out]∧n≤ks.length∧ChgI g (g+1) w w'∧w1.heap.size≤w'.heap.size∧RdS W g L v e (i+3*n) (left-n) w'∧RowI w1.heap.size w'.heap.size 81 w' out (zkE L i (ks.take n))) 0 (Nat.zero_le _) ⟨_,rfl,Nat.zero_le _,hx1.toI,Nat.le_refl _,h.step hx1,zcg _ _ _ _ _⟩ ?_
 rintro n m u w2 hnm ⟨out,hu,hnl,hc2,hs12,h2,hr2⟩
 simp only [List.map_cons,List.map_nil,List.cons.injEq,and_true] at hu
 rw [hu]
 refine (zle h2).mono ?_
 rintro _ w3 ⟨hx3,rfl⟩
 have hs3:=hx3.size
 have h3:=h2.step hx3
 refine zcM (fun hb=>?_) (fun hb=>?_)
 · have hn:n<ks.length:=by
     rcases Nat.lt_or_ge n ks.length with hn | hn
     · exact hn
     rw [show n=ks.length by omega,hR.stop] at hb;cases hb
   refine (zoc (room:=room) h3 (hR.one n hn) (by omega) (by omega) (hR.named n hn) (by omega)).mono ?_
   rintro r4 w4 ⟨hc4,h4,o4⟩
   have hs4:=hc4.size
   have hr4:=(((hr2.ext hx3).chg hc4 (.inr (by omega))).mono (Nat.le_refl _) (show w2.heap.size≤w3.heap.size by omega))
   have htl:(ks.take n).length≤60:=by rw [List.length_take];omega
   refine zch (lo2:=w3.heap.size) (hi2:=w4.heap.size) u66 zc6 z81 zr0 (by decide) hr4 (by omega) o4 (Nat.le_refl _) (by omega) (by rw [zam,zka];omega) (by rw [zka];omega) fun v5 w5 hc5 hr5=>?_
   have hs5:=hc5.size
   refine ⟨m-1,by omega,n+1,by omega,v5,rfl,by omega,ChgI.out ((hc2.trans hx3.toI).trans hc4) hc5 (by omega),by omega,?_,?_⟩
   · have:=h4.chg hc5 (by omega)
     rw [show i+3*n+3=i+3*(n+1) by omega,show left-n-1=left-(n+1) by omega] at this
     exact this
   rw [zlf L ks i n hn];exact hr5
 have hn:n=ks.length:=by
   rcases Nat.lt_or_ge n ks.length with hn | hn
   · rw [hR.beg n hn] at hb;cases hb
   omega
 rw [hn,List.take_length] at hr2
 rw [hn] at h3
 exact ⟨hc2.trans hx3.toI,h3,(hr2.ext hx3).mono (by omega) (by omega)⟩
def zip (L:List DSign) (i:Nat):Nat→List ByteArray
 | 0=>[]
 | n+1=>zip L i n++[sgT L (i+1+2*n)]
theorem zgo (L:List DSign) (i:Nat):∀ n,(zip L i n).length=n
 | 0=>rfl
 | n+1=>by rw [zip,List.length_append,zgo L i n];rfl
structure LstS (L:List DSign) (i n:Nat) (t:ByteArray):Prop where
 word:sgT L i=t
 lt:i+2*n<L.length
 pos:1≤n
 most:n≤6
 name:∀ j,j<n→named L (i+1+2*j)=true
 size:∀ j,j<n→(sgT L (i+1+2*j)).size≤maxLen
 first:sgT L (i+1)≠ByteArray.mk #[59]
 comma:∀ j,1≤j→j<n→sgT L (i+2*j)=ByteArray.mk #[44]
 semi:sgT L (i+2*n)=ByteArray.mk #[59]
def zqi (i j:Nat):Nat:=if j=0 then i+1 else i+2*j
theorem zjm {n:Nat} {t:ByteArray} (h:RdS W g L v e i left w) (hS:LstS L i n t) (hg:g<w.heap.size) :
   CALL Tryz.prog 106 [.pointer (some ⟨g,0,none⟩),.string t,.int .i64 6] w fun r w'=>ChgI g (g+1) w w'∧RdS W g L v e (i+2*n+1) left w'∧RowI w.heap.size w'.heap.size 9 w' r (zip L i n):=by
 have hlt:=hS.lt
 have hpos:=hS.pos
 have hmost:=hS.most
 refine F106_call ?_
 unfold F106
 refine zaK (α:=ByteArray) u24 ty9 fun a1 w1 hx1 hr1=>?_
 have hs1:=hx1.size
 refine (zc4 (h.step hx1) (by omega) hS.word).mono ?_
 rintro _ w2 ⟨hc2,h2⟩
 have hs2:=hc2.size
 refine zaE n (fun j us w'=>∃ out,us=[out]∧j≤n∧ChgI g (g+1) w w'∧w1.heap.size≤w'.heap.size∧RdS W g L v e (zqi i j) left w'∧RowI w1.heap.size w'.heap.size 9 w' out (zip L i j)) 0 (Nat.zero_le _) ⟨_,rfl,Nat.zero_le _,hx1.toI.trans hc2,hs2,h2,zcg _ _ _ _ _⟩ ?_
 rintro j m u w3 hjm ⟨out,hu,hjl,hc3,hs13,h3,hr3⟩
 simp only [List.map_cons,List.map_nil,List.cons.injEq,and_true] at hu
 rw [hu]
 refine NIL.mk rfl ?_
 refine zaa zh5 ?_
 refine zaa zkZ ?_
 refine zaA ty3 h3.blk rfl ?_
 refine zag ?_
 refine br (fun _=>?_) (fun hn=>absurd rfl hn)
 refine (zco h3).mono ?_
 rintro _ w4 ⟨hx4,rfl⟩
 have hs4:=hx4.size
 have h4:=h3.step hx4
 have hr4:=(hr3.ext hx4).mono (Nat.le_refl _) hs4
 refine zas ?_
 refine br (fun hns=>?_) (fun his=>?_)
 · have hj:j<n:=by
     rcases Nat.lt_or_ge j n with hj | hj
     · exact hj
     refine absurd ⟨?_,?_⟩ hns
     · unfold zqi;rw [if_neg (by omega),show j=n by omega];exact hlt
     unfold zqi;rw [if_neg (by omega),show j=n by omega];exact hS.semi
   have hout:=zaf hr4.is
   refine JOIN.mk (fun us w'=>us=[]∧ChgI g (g+1) w4 w'∧RdS W g L v e (i+1+2*j) left w') ?_ ?_
   · refine zae u24 hr4.is ?_
     rw [zgo]
     refine zb0 ?_
     refine br (fun hp=>?_) (fun hz=>?_)
     · have hj1:1≤j:=by omega
       have hp4:zqi i j=i+2*j:=by unfold zqi;rw [if_neg (by omega)]
       rw [hp4] at h4
       refine (zc4 h4 (by omega) (hS.comma j hj1 hj)).mono ?_
       rintro _ w5 ⟨hc5,h5⟩
       exact ⟨rfl,hc5,by rw [show i+1+2*j=i+2*j+1 by omega];exact h5⟩
     have hj0:j=0:=by omega
     subst hj0
     exact ⟨rfl,ChgI.refl _,h4⟩
   rintro u6 w5 ⟨-,hc5,h5⟩
   have hs5:=hc5.size
   have hr5:=hr4.chg hc5 (.inr (by omega))
   refine zae u24 hr5.is ?_
   rw [zgo]
   refine zag ?_
   refine br (fun he=>absurd he (by omega)) (fun _=>?_)
   refine (zg3 h5 (hS.name j hj)).mono ?_
   rintro _ w6 ⟨hc6,h6,rfl⟩
   have hs6:=hc6.size
   have hr6:=(hr5.chg hc6 (.inr (by omega))).mono (Nat.le_refl _) (show w4.heap.size≤w6.heap.size by omega)
   refine zch (lo2:=w6.heap.size) (hi2:=w6.heap.size) (x:=sgT L (i+1+2*j)) u24 ty9 z9 zc9 (by decide) hr6 (by omega) (zhC (hS.size j hj)) (Nat.le_refl _) (by omega) (by rw [zam,zgo];omega) (by rw [zgo];omega) fun v7 w7 hc7 hr7=>?_
   have hs7:=hc7.size
   refine ⟨m-1,by omega,j+1,by omega,v7,rfl,by omega,ChgI.out (((hc3.trans hx4.toI).trans hc5).trans hc6) hc7 (by omega),by omega,?_,hr7⟩
   have:=h6.chg hc7 (by omega)
   rw [show zqi i (j+1)=i+1+2*j+1 by unfold zqi;rw [if_neg (by omega)];omega]
   exact this
 have his:=Decidable.not_not.1 his
 have hj:j=n:=by
   rcases Nat.lt_or_ge j n with hj | hj
   · exfalso
     unfold zqi at his
     split at his
     · exact hS.first his.2
     have:=hS.comma j (by omega) hj
     rw [his.2] at this
     exact absurd this (by decide)
   omega
 have hp4:zqi i j=i+2*n:=by unfold zqi;rw [if_neg (by omega),hj]
 rw [hp4] at h4
 refine (zc4 h4 hlt hS.semi).mono ?_
 rintro _ w5 ⟨hc5,h5⟩
 have hs5:=hc5.size
 rw [hj] at hr4
 exact ⟨(hc3.trans hx4.toI).trans hc5,h5,(hr4.chg hc5 (.inr (by omega))).mono (by omega) (by omega)⟩
end
end Go.Proofs.YtdmailcgaekimaaGreat
namespace Go.Sh
open Rep (rep)
theorem ChgI.toC {g:Nat} {w w':World} (h:ChgI g (g+1) w w'):Chg [g] w w':=⟨h.os,h.tape,h.output,h.size,fun i hi hn=>h.block i hi (by simp only [List.mem_singleton] at hn;omega)⟩
theorem Ext.chgL {F:List Nat} {W w w':World} (h:Ext W w) (k:Chg F w w') (hl:∀ c∈F,W.heap.size≤c):Ext W w':=
 ⟨k.os.trans h.os,k.tape.trans h.tape,k.output.trans h.output,Nat.le_trans h.size k.size,fun i hi=>(k.block i (Nat.lt_of_lt_of_le hi h.size) fun e=>by have:=hl i e;omega).trans (h.block i hi)⟩
theorem Mine.chgF {α:Type} [Rep α] {F G:List Nat} {w w':World} {v:Value} {x:α} (h:Mine F w v x) (hc:Chg G w w') (hd:∀ c∈F,c∉G):Mine F w' v x:=h.keep fun c hcm=>hc.block c (h.lt c hcm) (hd c hcm)
def IsK {α:Type} [Rep α] (lo hi:Nat) (w:World) (v:Value) (x:α):Prop:=hi≤w.heap.size∧∀ w':World,(∀ b,lo≤b→b<hi→w'.heap[b]?=w.heap[b]?)→Is w' v x
section
variable {α:Type} [Rep α] {lo hi:Nat} {w w':World} {v:Value} {x:α}
theorem IsK.is (h:IsK lo hi w v x):Is w v x:=h.2 w fun _ _ _=>rfl
theorem IsK.chgF {G:List Nat} (h:IsK lo hi w v x) (hc:Chg G w w') (hd:∀ c∈G,c<lo∨hi≤c):IsK lo hi w' v x:=
 ⟨Nat.le_trans h.1 hc.size,fun w2 h2=>h.2 w2 fun b h3 h4=>(h2 b h3 h4).trans (hc.block b (Nat.lt_of_lt_of_le h4 h.1) fun hm=>by have:=hd b hm;omega)⟩
theorem OwnI.isK (h:OwnI lo hi w v x) (hh:hi≤w.heap.size):IsK lo hi w v x:=by
 obtain ⟨F,hm,hF⟩:=h
 exact ⟨hh,fun w' hw=>⟨F,by
   obtain ⟨cs,hr,hv⟩:=hm.own
   exact ⟨cs,Rep.keep hr fun b hb=>hw b (hF b hb).1 (hF b hb).2,hv⟩⟩⟩
theorem IsK.take {l:List α} {a:Option Addr} {cap k:Nat} (h:IsK lo hi w (.slice a l.length cap) l) (hk:k≤l.length):IsK lo hi w (.slice a k cap) (l.take k):=⟨h.1,fun w' hw=>zjS (h.2 w' hw) k hk⟩
theorem IsK.drop {l:List α} {a:Option Addr} {cap k:Nat} (h:IsK lo hi w (.slice a l.length cap) l) (hk:k≤l.length):IsK lo hi w (.slice (if cap=k then a else a.map (·.add (k*Rep.size α))) (l.length-k) (cap-k)) (l.drop k):=⟨h.1,fun w' hw=>zlY (h.2 w' hw) k hk _ rfl⟩
end
end Go.Sh
namespace Go.Proofs.YtdmailcgaekimaaGreat
open Go Go.Sh Go.Proofs
open Rep (rep)
def F170 (a0 a1 a2:Value) (w:World) (R:VW):Prop:=
 LOOPI [7] [(iV 0)] w fun u2 w next2=>
 rN 66 3 a1 w fun x10=>
 rC (u2 7) x10 w fun x11=>
 BR x11
 (JOIN [] (fun J6=>
 rX 66 a1 (u2 7) w fun x16=>
 rF 81 x16 0 w fun x17=>
 rL 3 x17 w fun x18=>
 rB .eql 3 T0 U0 x18 (iV 4) w fun x19=>
 BR x19
 (rN 24 3 a2 w fun x33=>
 cL 59 [a0,x33] w fun x34 w=>
 rX 24 a2 x34 w fun x35=>
 rL 9 x35 w fun x36=>
 rX 66 a1 (u2 7) w fun x37=>
 rF 81 x37 1 w fun x38=>
 oS 9 x38 x36 w fun w=>
 J6 [] w)
 (rX 66 a1 (u2 7) w fun x23=>
 rF 81 x23 0 w fun x24=>
 rL 3 x24 w fun x25=>
 rB .eql 3 T0 U0 x25 (iV 5) w fun x26=>
 BR x26
 (rN 24 3 a2 w fun x33=>
 cL 59 [a0,x33] w fun x34 w=>
 rX 24 a2 x34 w fun x35=>
 rL 9 x35 w fun x36=>
 rX 66 a1 (u2 7) w fun x37=>
 rF 81 x37 1 w fun x38=>
 oS 9 x38 x36 w fun w=>
 J6 [] w)
 (J6 [] w))) (fun u6 w=>
 rX 66 a1 (u2 7) w fun x44=>
 rF 81 x44 3 w fun x45=>
 rL 66 x45 w fun x46=>
 cL 170 [a0,x46,a2] w fun x48 w=>
 rX 66 a1 (u2 7) w fun x49=>
 rF 81 x49 3 w fun x50=>
 oS 66 x50 x48 w fun w=>
 rX 66 a1 (u2 7) w fun x56=>
 rF 81 x56 4 w fun x57=>
 rL 66 x57 w fun x58=>
 cL 170 [a0,x58,a2] w fun x60 w=>
 rX 66 a1 (u2 7) w fun x61=>
 rF 81 x61 4 w fun x62=>
 oS 66 x62 x60 w fun w=>
 rA (u2 7) (iV 1) w fun x13=>
 next2 [x13] w))
 (R a1 w)
def cfg170:Cfg:=⟨extL,[(6,549755797504,[])],[(2,9223372036854775680,[7])],[],[],[],[]⟩
theorem F170_call {a0 a1 a2:Value} {w:World} {R:VW} (h:F170 a0 a1 a2 w R):cL 170 [a0,a1,a2] w R:=co (g:=cfg170) Tryz.func170 (by kernel_rfl) (by kernel_rfl) (by kernel_rfl) h
theorem CurAt.chgF {W w w':World} {g:Nat} {bs:List UInt8} {s:Cur} {F:List Nat} (h:CurAt W g bs s w) (hc:Chg F w w') (hg:g∉F) (hl:∀ c∈F,W.heap.size≤c):CurAt W g bs s w':=by
 obtain ⟨v,h0,hx,h2,h3,h4⟩:=h
 exact ⟨v,h0,hx.chgL hc hl,h2,h3.chg hc hg,h4⟩
theorem znm {a:Prop} [Decidable a] {Q kt kf:Prop} (hq:a→Q) (key:Q→kt) (rest:(Q→kt)→¬a→kf):BR (.bool (decide a)) kt kf:=br (fun h=>key (hq h)) fun h=>rest key h
theorem zsf {γ β:Type} [Rep γ] [Rep β] {w w2:World} {v u:Value} {F G G2:List Nat} {g:Nat} {m2:List β} {upd:List β→γ}
   (hb:∀ w' G' l',Chg G w w'→Mine G' w' u l'→(∀ c∈G',c∈G∨c∉F)→∃ F',MH v F' w' (upd l')∧∀ c∈F',c∈F∨c∈G') (hGF:∀ c∈G,c∈F) (hc:Chg (g :: G) w w2) (hg:g∉F) (hgl:g<w.heap.size)
   (hM2:Mine G2 w2 u m2) (hs:∀ c∈G2,c∈G):∃ F',Mine F' w2 v (upd m2)∧∀ c∈F',c∈F:=by
 obtain ⟨w3,h3⟩:∃ w3:World,w3={ w2 with heap:=w2.heap.setIfInBounds g w.heap[g] }:=⟨_,rfl⟩
 have hgl2:g<w2.heap.size:=Nat.lt_of_lt_of_le hgl hc.size
 have hne:∀ c,c≠g→w3.heap[c]?=w2.heap[c]?:=fun c hcg=>by
   rw [h3];exact Array.getElem?_setIfInBounds_ne (fun e=>hcg e.symm)
 have heq:w3.heap[g]?=w.heap[g]?:=by
   rw [h3]
   show (w2.heap.setIfInBounds g w.heap[g])[g]?=_
   rw [Array.getElem?_setIfInBounds_self_of_lt hgl2,Array.getElem?_eq_getElem hgl]
 have hsz:w3.heap.size=w2.heap.size:=by rw [h3];simp
 have hc3:Chg G w w3:=⟨by rw [h3];exact hc.os,by rw [h3];exact hc.tape,by rw [h3];exact hc.output,by rw [hsz];exact hc.size,fun c hcl hcG=>by
   by_cases e:c=g
   · rw [e];exact heq
   rw [hne c e];exact hc.block c hcl (by simp [e,hcG])⟩
 have hgG2:∀ c∈G2,c≠g:=fun c hcm e=>hg (by rw [←e];exact hGF c (hs c hcm))
 obtain ⟨F',h1,h2⟩:=hb w3 G2 m2 hc3 (hM2.keep fun c hcm=>hne c (hgG2 c hcm)) fun c hcm=>.inl (hs c hcm)
 have hF':∀ c∈F',c∈F:=fun c hcm=>(h2 c hcm).elim id fun h=>hGF c (hs c h)
 refine ⟨F',Mine.keep h1 fun c hcm=>(hne c fun e=>hg (by rw [←e];exact hF' c hcm)).symm,hF'⟩
theorem zlg {P:Program} {w:World} {α:Type} [Rep α] {t e:TypeId} {by_:Nat} {F:List Nat} {v:Value} {l:List α} {k:Nat} {K:Value→Prop} (ht:P.underlying t=some (.slice e)) (he:tyI P e=some (Rep.size α,by_,Rep.agg α)) (hm:Mine F w v l) (hk:k<l.length)
   (kk:∀ b a cap G,v=.slice (some ⟨b,a,none⟩) l.length cap→Lens (MH v) F w b (a+k*Rep.size α) G l[k] (fun y=>l.set k y)→K (.pointer (some ⟨b,a+k*Rep.size α,none⟩))):RD P (Instr.indexAt t v (.int .i64 (k:Int))) w K:=by
 obtain ⟨b,a,cap,G,hv,hL⟩:=zoP hm hk
 refine zaV (v:=.pointer (some ⟨b,a+k*Rep.size α,none⟩)) (fun w' _=>?_) (kk _ _ _ _ hv hL)
 rw [hv,zbg ht he (by omega) (by omega)];simp
theorem zkb {α:Type} {D r:List α} {x y:α} {k:Nat} (h:D.length=k):(D++x :: r).set k y=D++y :: r:=by
 subst h;rw [List.set_append_right _ _ (Nat.le_refl _)];simp
theorem zg6 {α:Type} {D r:List α} {x:α} {k:Nat} (h:D.length=k) (hk:k<(D++x :: r).length):(D++x :: r)[k]=x:=by
 subst h;simp
def zmo (l:List DStmt):Prop:=∀ {W w:World} {g:Nat} {bs:List UInt8} {s:Cur} {v vp:Value} {F:List Nat} {lp hp:Nat} {pr:List ByteArray},CurAt W g bs s w→Mine F w v l→g∉F→(∀ c∈F,W.heap.size≤c)→IsK lp hp w vp pr→(g<lp∨hp≤g)→(∀ c∈F,c<lp∨hp≤c)→0<pr.length→pr.length≤1000 →
 CALL Tryz.prog 170 [.pointer (some ⟨g,0,none⟩),v,vp] w fun r w'=>r=v∧Chg (g :: F) w w'∧CurAt W g bs (zds bs pr l s).2 w'∧∃ F',Mine F' w' v (zds bs pr l s).1∧∀ c∈F',c∈F
theorem zpp {fld off:Nat} {sel:DStmt→List DStmt} {put:DStmt→List DStmt→DStmt} (hfd:zdn Tryz.prog 81 fld=some off) (hpp:∀ x m m',put (put x m) m'=put x m') (hsp:∀ x m,sel (put x m)=m)
   (hl:∀ {H:List Nat→World→List DStmt→Prop} {F:List Nat} {w:World} {b o:Nat} {G:List Nat} {x:DStmt} {upd:DStmt→List DStmt},Lens H F w b o G x upd→∃ G1,Lens H F w b (o+off) G1 (sel x) (fun y=>upd (put x y)))
   {W w:World} {g k:Nat} {bs:List UInt8} {s:Cur} {v vp:Value} {F:List Nat} {lp hp:Nat} {pr:List ByteArray} {D r:List DStmt} {y:DStmt} {K:World→Prop} (hC:CurAt W g bs s w) (hM:Mine F w v (D++y :: r)) (hD:D.length=k) (hgF:g∉F) (hFW:∀ c∈F,W.heap.size≤c)
   (hP:IsK lp hp w vp pr) (hgP:g<lp∨hp≤g) (hFP:∀ c∈F,c<lp∨hp≤c) (hp0:0<pr.length) (hp1:pr.length≤1000) (ih:zmo (sel y))
   (kk:∀ w' F',Chg (g :: F) w w'→CurAt W g bs (zds bs pr (sel y) s).2 w'→Mine F' w' v (D++put y (zds bs pr (sel y) s).1 :: r)→(∀ c∈F',c∈F)→IsK lp hp w' vp pr→K w') :
   RD Tryz.prog (Instr.indexAt 66 v (.int .i64 (k:Int))) w fun x44=>RD Tryz.prog (Instr.fieldAt 81 x44 fld) w fun x45=>RD Tryz.prog (Instr.loadAt 66 x45) w fun x46=>
     CALL Tryz.prog 170 [.pointer (some ⟨g,0,none⟩),x46,vp] w fun x48 w=>RD Tryz.prog (Instr.indexAt 66 v (.int .i64 (k:Int))) w fun x49=>RD Tryz.prog (Instr.fieldAt 81 x49 fld) w fun x50=>
     OPU Tryz.prog (Instr.storeAt 66 x50 x48) w fun w=>K w:=by
 have hkl:k<(D++y :: r).length:=by simp;omega
 refine zlg u66 zc6 hM hkl fun b a cap G hv hL=>?_
 rw [zg6 hD hkl] at hL
 obtain ⟨G3,hL3⟩:=hl hL
 obtain ⟨cs3,_,_,_,_,hb3,_⟩:=hL3.here
 have hbF:b∈F:=hL3.sub b (by simp)
 obtain ⟨ub,hMb,hrb,hGb,hbb⟩:=hL3.row
 have hgl:=hC.lt.2
 refine zaa hfd ?_
 refine zcr zfY hrb ?_
 refine (ih hC hMb (fun h=>hgF (hGb _ h)) (fun c hc=>hFW c (hGb c hc)) hP hgP (fun c hc=>hFP c (hGb c hc)) hp0 hp1).mono ?_
 rintro r48 w3 ⟨h48,hc3,hC3,Gb',hMb',hGb'⟩
 rw [h48]
 obtain ⟨F3,hM3,hF3⟩:=zsf hbb hGb hc3 hgF hgl hMb' hGb'
 rw [zkb hD] at hM3
 have hP3:=hP.chgF hc3 fun c hc=>by
   rcases List.mem_cons.1 hc with rfl | h
   · exact hgP
   exact hFP c (hGb c h)
 have hkl3:k<(D++put y (zds bs pr (sel y) s).1 :: r).length:=by simp;omega
 refine zlg u66 zc6 hM3 hkl3 fun b5 a5 cap5 G5 hv5 hL5=>?_
 rw [zg6 hD hkl3] at hL5
 have hba:b5=b∧a5=a:=by
   rw [hv] at hv5
   simp only [Value.slice.injEq,Option.some.injEq,Addr.mk.injEq,and_true] at hv5
   exact ⟨hv5.1.1.symm,hv5.1.2.symm⟩
 obtain ⟨rfl,rfl⟩:=hba
 obtain ⟨G6,hL6⟩:=hl hL5
 obtain ⟨u6,hM6,hr6,hG6,_⟩:=hL6.row
 have hbk:w3.heap[b5]?=w.heap[b5]?:=hc3.block b5 (hM.lt b5 hbF) (by
   simp only [List.mem_cons,not_or]
   exact ⟨fun e=>hgF (by rw [←e];exact hbF),hb3⟩)
 have hu6:u6=ub:=by
   have h1:=hr6 0 u6 rfl
   have h2:=(zaY hrb hbk) 0 ub rfl
   rw [h1] at h2
   exact Option.some.inj h2
 subst hu6
 refine zaa hfd ?_
 refine zf9 zfY hL6 hM6 (fun c hc=>.inl hc) fun w4 hc4 ⟨F4,hM4,hF4⟩=>?_
 have hM4:Mine F4 w4 v ((D++put y (zds bs pr (sel y) s).1 :: r).set k (put (put y (zds bs pr (sel y) s).1) (sel (put y (zds bs pr (sel y) s).1)))):=hM4
 rw [zkb hD,hpp,hsp] at hM4
 refine kk w4 F4 ((hc3.mono fun c hc=>?_).trans (hc4.mono fun c hc=>by simp [hF3 c hc])) (hC3.chgF hc4 (fun h=>hgF (hF3 _ h)) fun c hc=>hFW c (hF3 c hc)) hM4 (fun c hc=>?_) (hP3.chgF hc4 fun c hc=>hFP c (hF3 c hc))
 · rcases List.mem_cons.1 hc with rfl | hc
   · simp
   simp [hGb c hc]
 rcases hF4 c hc with h | h
 · exact hF3 c h
 exact hF3 c (hG6 c h)
theorem zsg {bs:List UInt8} {pr:List ByteArray} (x:DStmt) (s:Cur) {n:ByteArray} {s2:Cur} (h:(if x.kind=4∨x.kind=5 then (zca bs pr s,zak bs (pr.length:Int) s) else (x.name,s))=(n,s2)) :
   zme bs pr x s=(.mk x.kind n x.term (zds bs pr x.body s2).1 (zds bs pr x.els (zds bs pr x.body s2).2).1,(zds bs pr x.els (zds bs pr x.body s2).2).2):=by
 obtain ⟨k,nm,t,b,e⟩:=x
 have h:(if k=4∨k=5 then (zca bs pr s,zak bs (pr.length:Int) s) else (nm,s))=(n,s2):=h
 show _=(DStmt.mk k n t (zds bs pr b s2).1 (zds bs pr e (zds bs pr b s2).2).1,(zds bs pr e (zds bs pr b s2).2).2)
 by_cases hk:k=4∨k=5
 · rw [if_pos hk] at h
   simp only [Prod.mk.injEq] at h
   obtain ⟨rfl,rfl⟩:=h
   rw [zme,if_pos hk]
 rw [if_neg hk] at h
 simp only [Prod.mk.injEq] at h
 obtain ⟨rfl,rfl⟩:=h
 rw [zme,if_neg hk]
def zt3 (x:DStmt) (m:List DStmt):DStmt:=.mk x.kind x.name x.term m x.els
def zuf (x:DStmt) (m:List DStmt):DStmt:=.mk x.kind x.name x.term x.body m
theorem zfR {l:List DStmt} (ih:∀ x∈l,zmo x.body∧zmo x.els):zmo l:=by
 intro W w g bs s v vp F lp hp pr hC hM hgF hFW hP hgP hFP hp0 hp1
 have hln:=zaf hM.is
 refine F170_call ?_
 unfold F170
 refine zaE l.length (fun k us w'=>us=[.int .i64 (k:Int)]∧∃ (D:List DStmt) (s1:Cur) (F1:List Nat),D.length=k∧k≤l.length∧zds bs pr l s=(D++(zds bs pr (l.drop k) s1).1,(zds bs pr (l.drop k) s1).2)∧Chg (g :: F) w w'∧CurAt W g bs s1 w' ∧
     Mine F1 w' v (D++l.drop k)∧(∀ c∈F1,c∈F)∧IsK lp hp w' vp pr) 0 (Nat.zero_le _) ⟨rfl,[],s,F,rfl,Nat.zero_le _,by simp,Chg.refl _ _,hC,by simpa using hM,fun _ h=>h,hP⟩ ?_
 rintro k m u w1 hkm ⟨hu,D,s1,F1,hD,hkl,hfx,hc1,hC1,hM1,hF1,hP1⟩
 simp only [List.map_cons,List.map_nil,List.cons.injEq,and_true] at hu
 rw [hu]
 refine zae u66 hM1.is ?_
 have hlen:(D++l.drop k).length=l.length:=by simp;omega
 rw [hlen]
 refine zai ?_
 refine br (fun hlt=>?_) (fun hge=>?_)
 · have hk:k<l.length:=by omega
   obtain ⟨x,hx⟩:∃ x,x=l[k]:=⟨_,rfl⟩
   have hxm:x∈l:=by rw [hx];exact List.getElem_mem hk
   have hdr:l.drop k=x :: l.drop (k+1):=by rw [hx];exact List.drop_eq_getElem_cons hk
   rw [hdr] at hM1
   rw [hdr,zds] at hfx
   have hkl1:k<(D++x :: l.drop (k+1)).length:=by simp;omega
   refine JOIN.mk (fun us w'=>∃ F2 n s2,Chg (g :: F) w w'∧CurAt W g bs s2 w'∧Mine F2 w' v (D++DStmt.mk x.kind n x.term x.body x.els :: l.drop (k+1))∧(∀ c∈F2,c∈F)∧IsK lp hp w' vp pr ∧
       (if x.kind=4∨x.kind=5 then (zca bs pr s1,zak bs (pr.length:Int) s1) else (x.name,s1))=(n,s2)) ?_ ?_
   · refine zad u66 zc6 hM1.is hkl1 fun b16 o16 hA16=>?_
     rw [zg6 hD hkl1] at hA16
     refine zaa zeR ?_
     refine zac ty3 (zb4 hA16) (Ext.refl _) fun hI18=>?_
     refine zag ?_
     refine znm (Q:=x.kind=4∨x.kind=5) .inl (fun hQ=>?_) (fun key h4=>?_)
     · refine zae u24 hP1.is ?_
       refine (zbm hC1 (by omega)).mono ?_
       rintro _ w2 ⟨hc2',hC2,rfl⟩
       have hc2:=hc2'.toC
       have hM2:=hM1.chgF hc2 fun c hc h=>by
         simp only [List.mem_singleton] at h
         exact hgF (h▸hF1 c hc)
       have hP2:=hP1.chgF hc2 fun c hc=>by
         simp only [List.mem_singleton] at hc
         exact hc▸hgP
       have hbx:=zbp bs (n:=(pr.length:Int)) (by omega) s1
       refine zat u24 ty9 hP2.is hbx.1 (by omega) fun b35 o35 hA35=>?_
       refine zao ty9 hA35 (Ext.refl _) fun hS36=>?_
       refine zqI u66 zc6 hM2 hkl1 fun b37 o37 G37 hL37=>?_
       rw [zg6 hD hkl1] at hL37
       refine zaa zcS ?_
       obtain ⟨G38,hL38⟩:=zkX hL37
       refine zin ty9 hL38 (zng hS36) fun w3 F3 hc3 hM3 hF3=>?_
       have hM3:Mine F3 w3 v ((D++x :: l.drop (k+1)).set k (.mk x.kind (pr[(zaI bs (pr.length:Int) s1).toNat]'(by omega)) x.term x.body x.els)):=hM3
       rw [zkb hD] at hM3
       refine ⟨F3,_,_,((hc1.trans (hc2.mono (by simp))).trans (hc3.mono fun c hc=>by simp [hF1 c hc])),hC2.chgF hc3 (fun h=>hgF (hF1 _ h)) (fun c hc=>hFW c (hF1 c hc)),hM3,fun c hc=>hF1 c (hF3 c hc),hP2.chgF hc3 (fun c hc=>hFP c (hF1 c hc)),?_⟩
       rw [if_pos hQ]
       unfold zca
       rw [←zdF (by omega)]
     refine zad u66 zc6 hM1.is hkl1 fun b23 o23 hA23=>?_
     rw [zg6 hD hkl1] at hA23
     refine zaa zeR ?_
     refine zac ty3 (zb4 hA23) (Ext.refl _) fun hI25=>?_
     refine zag ?_
     refine br (fun h5=>key (.inr h5)) fun h5=>?_
     exact ⟨F1,x.name,s1,hc1,hC1,by rw [DStmt.eta];exact hM1,hF1,hP1,by rw [if_neg (by omega)]⟩
   rintro u6 w2 ⟨F2,n,s2,hc2,hC2,hM2,hF2,hP2,hn⟩
   have hfs:=zsg x s1 hn
   rw [hfs] at hfx
   refine zpp (fld:=3) (sel:=DStmt.body) (put:=zt3) zeS (fun _ _ _=>rfl) (fun _ _=>rfl) zkY hC2 hM2 hD (fun h=>hgF (hF2 _ h)) (fun c hc=>hFW c (hF2 c hc)) hP2 hgP (fun c hc=>hFP c (hF2 c hc)) hp0 hp1 (ih x hxm).1 fun w3 F3 hc3 hC3 hM3 hF3 hP3=>?_
   have hF3':∀ c∈F3,c∈F:=fun c hc=>hF2 c (hF3 c hc)
   refine zpp (fld:=4) (sel:=DStmt.els) (put:=zuf) zdP (fun _ _ _=>rfl) (fun _ _=>rfl) zhp hC3 hM3 hD (fun h=>hgF (hF3' _ h)) (fun c hc=>hFW c (hF3' c hc)) hP3 hgP (fun c hc=>hFP c (hF3' c hc)) hp0 hp1 (ih x hxm).2 fun w4 F4 hc4 hC4 hM4 hF4 hP4=>?_
   refine zah (by omega) ?_
   refine ⟨m-1,by omega,k+1,by omega,rfl,D++[DStmt.mk x.kind n x.term (zds bs pr x.body s2).1 (zds bs pr x.els (zds bs pr x.body s2).2).1],_,F4,by simp [hD],by omega,?_,(hc2.trans (hc3.mono fun c hc=>?_)).trans (hc4.mono fun c hc=>?_),hC4,?_,fun c hc=>hF3' c (hF4 c hc),hP4⟩
   · rw [hfx];simp [DStmt.body,DStmt.els,zt3]
   · rcases List.mem_cons.1 hc with rfl | hc
     · simp
     simp [hF2 c hc]
   · rcases List.mem_cons.1 hc with rfl | hc
     · simp
     simp [hF3' c hc]
   simpa [zuf,zt3,DStmt.body,DStmt.els,DStmt.kind,DStmt.name,DStmt.term] using hM4
 have hk:k=l.length:=by omega
 subst hk
 rw [List.drop_length,zne] at hfx
 rw [List.drop_length] at hM1
 rw [hfx]
 exact ⟨rfl,hc1,hC1,F1,hM1,hF1⟩
theorem zpq (l:List DStmt):zmo l:=by
 refine zfR fun x _=>?_
 refine DStmt.ind (p:=fun x=>zmo x.body∧zmo x.els) (fun t hb he=>⟨?_,?_⟩) x
 · intro W w g bs s v vp F lp hp pr;exact zfR hb
 intro W w g bs s v vp F lp hp pr;exact zfR he
end Go.Proofs.YtdmailcgaekimaaGreat
namespace Go.Sh
open Rep (rep)
structure UpG (g lo:Nat) (w w':World):Prop where
 os:w'.os=w.os
 tape:w'.tape=w.tape
 output:w'.output=w.output
 size:w.heap.size≤w'.heap.size
 block:∀ b,b<w.heap.size→b<lo→b≠g→w'.heap[b]?=w.heap[b]?
section
variable {g lo:Nat} {w w' w2:World} {α:Type} [Rep α]
theorem UpG.refl (g lo:Nat) (w:World):UpG g lo w w:=⟨rfl,rfl,rfl,Nat.le_refl _,fun _ _ _ _=>rfl⟩
theorem UpG.trans (h:UpG g lo w w') (k:UpG g lo w' w2):UpG g lo w w2:=
 ⟨k.os.trans h.os,k.tape.trans h.tape,k.output.trans h.output,Nat.le_trans h.size k.size,fun b h1 h2 h3=>(k.block b (Nat.lt_of_lt_of_le h1 h.size) h2 h3).trans (h.block b h1 h2 h3)⟩
theorem UpG.mono {lo2:Nat} (h:UpG g lo w w') (hl:lo2≤lo):UpG g lo2 w w':=⟨h.os,h.tape,h.output,h.size,fun b h1 h2 h3=>h.block b h1 (by omega) h3⟩
theorem Ext.upG (h:Ext w w'):UpG g lo w w':=⟨h.os,h.tape,h.output,h.size,fun b h1 _ _=>h.block b h1⟩
theorem ChgI.upG1 (h:ChgI g (g+1) w w'):UpG g lo w w':=⟨h.os,h.tape,h.output,h.size,fun b h1 _ h3=>h.block b h1 (by omega)⟩
theorem ChgI.upG {a b:Nat} (h:ChgI a b w w') (ha:lo≤a):UpG g lo w w':=⟨h.os,h.tape,h.output,h.size,fun c h1 h2 _=>h.block c h1 (by omega)⟩
theorem Chg.upG {F:List Nat} (h:Chg (g :: F) w w') (hF:∀ c∈F,lo≤c):UpG g lo w w':=⟨h.os,h.tape,h.output,h.size,fun c h1 h2 h3=>h.block c h1 fun hm=>by
 rcases List.mem_cons.1 hm with e | hm
 · exact h3 e
 have:=hF c hm;omega⟩
theorem UpG.toI (h:UpG g lo w w') (hl:w.heap.size≤lo):ChgI g (g+1) w w':=⟨h.os,h.tape,h.output,h.size,fun b h1 h2=>h.block b h1 (by omega) (by omega)⟩
theorem Blk.upG {b e:Nat} {cs:List Value} (h:Blk b e w cs) (hu:UpG g lo w w') (h1:b<lo) (h2:b≠g):Blk b e w' cs:=h.keep (hu.block b h.lt h1 h2)
theorem OwnI.upG {a b:Nat} {v:Value} {x:α} (h:OwnI a b w v x) (hu:UpG g lo w w') (h1:b≤lo) (h2:g<a∨b≤g):OwnI a b w' v x:=by
 obtain ⟨F,hm,hF⟩:=h
 exact ⟨F,hm.keep fun c hc=>hu.block c (hm.lt c hc) (by have:=hF c hc;omega) (by have:=hF c hc;omega),hF⟩
theorem RowI.upG {a b e:Nat} {v:Value} {l:List α} (h:RowI a b e w v l) (hu:UpG g lo w w') (h1:b≤lo) (h2:g<a∨b≤g):RowI a b e w' v l:=by
 obtain ⟨F,hm,hn,hF⟩:=zeA.1 h
 exact zeA.2 ⟨F,hm.keep fun c hc=>hu.block c (hm.lt c hc) (by have:=hF c hc;omega) (by have:=hF c hc;omega),hn,hF⟩
theorem IsK.upG {a b:Nat} {v:Value} {x:α} (h:IsK a b w v x) (hu:UpG g lo w w') (h1:b≤lo) (h2:g<a∨b≤g):IsK a b w' v x:=
 ⟨Nat.le_trans h.1 hu.size,fun w3 h3=>h.2 w3 fun c h4 h5=>(h3 c h4 h5).trans (hu.block c (Nat.lt_of_lt_of_le h5 h.1) (by omega) (by omega))⟩
theorem zjn {v:Value} {x:α} (h:OwnI lo lo w v x):Mine [] w v x:=by
 obtain ⟨F,hm,hF⟩:=h
 have:F=[]:=List.eq_nil_iff_forall_not_mem.2 fun c hc=>by have:=hF c hc;omega
 subst this;exact hm
theorem ziq {hi:Nat} {n:ByteArray} {vb:Value} {l:List DStmt} (hn:n.size≤maxLen) (h:OwnI lo hi w vb l):OwnI lo hi w (.agg #[.string n,vb]) (⟨n,l⟩:DProc):=by
 obtain ⟨F,⟨⟨cs,hr,hv⟩,hnd,hw⟩,hF⟩:=h
 obtain ⟨c,rfl⟩:=zdc hr
 simp only [mkv,Rep.agg,cond_false,List.headD_cons] at hv
 subst hv
 exact ⟨F,⟨⟨[.string n,vb],zaC (F:=[]) (c1:=[.string n]) (show rep [] w [.string n] n from ⟨rfl,rfl,hn⟩) hr,rfl⟩,hnd,hw⟩,hF⟩
theorem zgp {a b c:Value} {p:DProg} {lo hi l0 h0 l1 h1 l2 h2:Nat} (m0:OwnI l0 h0 w a p.globals) (m1:OwnI l1 h1 w b p.locks) (m2:OwnI l2 h2 w c p.procs) (d01:h0≤l1∨h1≤l0) (d02:h0≤l2∨h2≤l0) (d12:h1≤l2∨h2≤l1)
   (b0:lo≤l0∧h0≤hi) (b1:lo≤l1∧h1≤hi) (b2:lo≤l2∧h2≤hi):OwnI lo hi w (.agg #[a,b,c]) p:=by
 obtain ⟨F0,M0,B0⟩:=m0
 obtain ⟨F1,M1,B1⟩:=m1
 obtain ⟨F2,M2,B2⟩:=m2
 refine ⟨F0++(F1++F2),⟨⟨[a,b,c],zaC (zaS rfl M0.own) (zaC (zaS rfl M1.own) (zaS rfl M2.own)),rfl⟩,?_,M0.wr.append (M1.wr.append M2.wr)⟩,fun x hx=>?_⟩
 · rw [List.nodup_append,List.nodup_append]
   refine ⟨M0.nodup,⟨M1.nodup,M2.nodup,fun p hp q hq e=>?_⟩,fun p hp q hq e=>?_⟩
   · subst e;have:=B1 p hp;have:=B2 p hq;omega
   subst e
   have:=B0 p hp
   rcases List.mem_append.1 hq with hq | hq
   · have:=B1 p hq;omega
   have:=B2 p hq;omega
 rcases List.mem_append.1 hx with hx | hx
 · have:=B0 x hx;omega
 rcases List.mem_append.1 hx with hx | hx
 · have:=B1 x hx;omega
 have:=B2 x hx;omega
end
end Go.Sh
namespace Go.Proofs.YtdmailcgaekimaaGreat
open Go Go.Sh Go.Proofs
open Rep (rep)
def F169 (a0 a1:Value) (w:World) (R:VW):Prop:=
 oP (Instr.buildSlice 24 3 #[(0,(Value.string (ByteArray.mk #[97]))),(1,(Value.string (ByteArray.mk #[98]))),(2,(Value.string (ByteArray.mk #[109])))]) w fun x9 w=>
 cL 54 [a0,x9] w fun x10 w=>
 oP (Instr.buildSlice 24 3 #[(0,(Value.string (ByteArray.mk #[97]))),(1,(Value.string (ByteArray.mk #[98]))),(2,(Value.string (ByteArray.mk #[109])))]) w fun x12 w=>
 cL 54 [a0,x12] w fun x13 w=>
 rD (Instr.build 81 #[(0,(iV 6)),(1,x10)]) w fun x15=>
 oP (Instr.buildSlice 66 1 #[(0,x15)]) w fun x16 w=>
 JOIN [7] (fun J6=>
 rB .neq 9 T0 T0 x10 x13 w fun x19=>
 BR x19
 (cL 51 [a0,(iV 2)] w fun x22 w=>
 BR x22
 (rD (Instr.build 81 #[(0,(iV 6)),(1,x13)]) w fun x26=>
 oP (Instr.buildSlice 66 1 #[(0,x26)]) w fun x27 w=>
 oP (Builtin.append_ #[66,66] 66 [x16,x27].toArray) w fun x28 w=>
 J6 [x28] w)
 (J6 [x16] w))
 (J6 [x16] w)) (fun u6 w=>
 oP (Builtin.append_ #[66,66] 66 [(u6 7),a1].toArray) w fun x31 w=>
 rD (Instr.build 81 #[(0,(iV 7)),(1,x10)]) w fun x34=>
 oP (Instr.buildSlice 66 1 #[(0,x34)]) w fun x35 w=>
 oP (Builtin.append_ #[66,66] 66 [x31,x35].toArray) w fun x36 w=>
 R x36 w)
def cfg169:Cfg:=⟨extL,[(6,536739968,[7])],[],[],[],[],[]⟩
theorem F169_call {a0 a1:Value} {w:World} {R:VW} (h:F169 a0 a1 w R):cL 169 [a0,a1] w R:=co (g:=cfg169) Tryz.func169 (by kernel_rfl) (by kernel_rfl) (by kernel_rfl) h
section
variable {w:World} {K:Value→World→Prop}
theorem zpr (k:∀ v w',Ext w w'→OwnI w.heap.size w'.heap.size w' v lks→K v w'):OP Tryz.prog (Instr.buildSlice 24 3 #[(0,(Value.string (ByteArray.mk #[97]))),(1,(Value.string (ByteArray.mk #[98]))),(2,(Value.string (ByteArray.mk #[109])))]) w K:=
 zdR (vs:=lks.map Value.string) (l:=lks) u24 ty9 zby (by decide) (by kernel_rfl) rfl (fun w=>zbF (by decide)) k
theorem ztp (k:∀ v w',Ext w w'→OwnI w.heap.size w'.heap.size w' v glb→K v w'):OP Tryz.prog (Instr.buildSlice 24 4 #[(0,(Value.string (ByteArray.mk #[120]))),(1,(Value.string (ByteArray.mk #[121]))),(2,(Value.string (ByteArray.mk #[122]))),(3,(Value.string (ByteArray.mk #[117])))]) w K:=
 zdR (vs:=glb.map Value.string) (l:=glb) u24 ty9 zby (by decide) (by kernel_rfl) rfl (fun w=>zbF (by decide)) k
theorem ztq (k:∀ v w',Ext w w'→OwnI w.heap.size w'.heap.size w' v prc4→K v w'):OP Tryz.prog (Instr.buildSlice 24 4 #[(0,(Value.string (ByteArray.mk #[109,97,105,110]))),(1,(Value.string (ByteArray.mk #[112]))),(2,(Value.string (ByteArray.mk #[113]))),(3,(Value.string (ByteArray.mk #[114])))]) w K:=
 zdR (vs:=prc4.map Value.string) (l:=prc4) u24 ty9 zby (by decide) (by kernel_rfl) rfl (fun w=>zbF (by decide)) k
end
mutual
theorem zsh:∀ (x:DStmt) (n:Int),0≤n→-1≤zoC x n∧zoC x n≤n
  | .mk k s t b e,n,hn=>by
    rw [zoC]
    have h1:=zir b (n-1) (by omega)
    have h2:=zir e (zhs b (n-1)) h1.1
    omega
theorem zir:∀ (l:List DStmt) (n:Int),-1≤n→-1≤zhs l n∧zhs l n≤n
  | [],n,hn=>by rw [zhs];omega
  | x :: l,n,hn=>by
    rw [zhs]
    split
    · rename_i h
      have h1:=zsh x n h
      have h2:=zir l (zoC x n) h1.1
      omega
    omega
end
theorem zqO (x:DStmt) (n:Int):zoC x n=zhs x.els (zhs x.body (n-1)):=by cases x;rw [zoC];rfl
def zsi (l:List DStmt):Prop:=∀ {w W:World} {v:Value} {n:Int},Is W v l→Ext W w→-1≤n→n≤1000→CALL Tryz.prog 168 [v,.int .i64 n] w fun r w'=>Ext w w'∧(r=.int .i64 (zhs l n))
def F168 (a0 a1:Value) (w:World) (R:VW):Prop:=
 LOOPI [1,5] [a1,(iV 0)] w fun u2 w next2=>
 rN 66 3 a0 w fun x8=>
 rC (u2 5) x8 w fun x9=>
 BR x9
 (rB .geq 3 T0 U0 (u2 1) (iV 0) w fun x12=>
 BR x12
 ((fun w=>rX 66 a0 (u2 5) w fun x18=>
 rF 81 x18 4 w fun x19=>
 rL 66 x19 w fun x20=>
 rX 66 a0 (u2 5) w fun x23=>
 rF 81 x23 3 w fun x24=>
 rL 66 x24 w fun x25=>
 rB .sub 3 T0 U0 (u2 1) (iV 1) w fun x27=>
 (fun w_=>cL 168 [x25,x27] w_ fun x28 w=>
 Ext w_ w ∧
 cL 168 [x20,x28] w fun x29 w=>
 rA (u2 5) (iV 1) w fun x15=>
 next2 [x29,x15] w) w) (World.drew1 w))
 (R (u2 1) w))
 (R (u2 1) w)
def cfg168:Cfg:=⟨extL,[],[(2,1073741794,[1,5])],[(4,[0,1,2,3,4,5,6,7,8,9,10,11,12,13,14],4096)],[],[],[]⟩
theorem F168_call {a0 a1:Value} {w:World} {R:VW} (h:F168 a0 a1 w R):cL 168 [a0,a1] w R:=co (g:=cfg168) Tryz.func168 (by kernel_rfl) (by kernel_rfl) (by kernel_rfl) h
theorem zeD {w:World} {v0:Value} {W0:World} {l:(List DStmt)} {n:Int}  (h0:Is W0 v0 l) (e0:Ext W0 w) (ih:∀ x∈l,zsi x.body∧zsi x.els) (hn0:-1≤n) (hn1:n≤1000) :
   CALL Tryz.prog 168 [v0,.int .i64 n] w fun r w'=>Ext w w'∧(r=.int .i64 (zhs l n)):=by
 refine F168_call ?_
 unfold F168
 refine zaE (l.length) (fun k us w'=>∃ (n1:Int),us=[.int .i64 n1,.int .i64 (k:Int)]∧Ext w w'∧(zhs l n=zhs (l.drop k) n1∧-1≤n1∧n1≤1000∧k≤l.length)) (0) (by omega) ⟨n,rfl,Ext.refl w,by simp,hn0,hn1,by omega⟩ ?_
 rintro k m2 uu2 w1_ hk2 ⟨n1,hu,hx1_,hcl,hm0,hm1,hkl⟩
 obtain ⟨hu0,hu1⟩:=zfZ hu
 try rw [hu0]
 try rw [hu1]
 try clear hu0 hu1
 have hln8:=zaf h0
 refine zae u66 h0 ?_
 refine zai ?_
 refine br (fun c1=>?_) (fun c1=>?_)
 · refine zb1 ?_
   refine br (fun c2=>?_) (fun c2=>?_)
   · have hx2_:=zaj w1_
     have hk:k<l.length:=by omega
     have hcb:=zir (l[k]).body (n1-1) (by omega)
     refine zad u66 zc6 h0 (by omega) fun b18 o18 h18=>?_
     refine zaa zdP ?_
     refine zab zfY (zb5 h18) (e0.trans (hx1_.trans hx2_)) fun v20 h20=>?_
     refine zad u66 zc6 h0 (by omega) fun b23 o23 h23=>?_
     refine zaa zeS ?_
     refine zab zfY (zcl h23) (e0.trans (hx1_.trans hx2_)) fun v25 h25=>?_
     refine za2 (by unfold I64;omega) ?_
     refine ((ih _ (List.getElem_mem hk)).1 h25 (e0.trans (hx1_.trans hx2_)) (by omega) (by omega)).mono ?_
     rintro _ w3_ ⟨hx3_,rfl⟩
     refine ⟨hx3_,?_⟩
     refine ((ih _ (List.getElem_mem hk)).2 h20 (e0.trans (hx1_.trans (hx2_.trans hx3_))) hcb.1 (by omega)).mono ?_
     rintro _ w4_ ⟨hx4_,rfl⟩
     refine zah (by omega) ?_
     refine ⟨m2-1,by omega,k+1,by omega,_,rfl,(hx1_.trans (hx2_.trans (hx3_.trans hx4_))),?_⟩
     have h2:=zir (l[k]).els _ hcb.1
     refine ⟨?_,by omega,by omega,by omega⟩
     rw [hcl,List.drop_eq_getElem_cons hk,zhs,if_pos (by omega),zqO]
   refine ⟨hx1_,?_⟩
   rw [hcl]
   cases h:l.drop k with
   | nil=>rw [zhs]
   | cons x r=>rw [zhs,if_neg (by omega)]
 refine ⟨hx1_,?_⟩
 rw [hcl,List.drop_eq_nil_of_le (by omega),zhs]
theorem zis (l:List DStmt):zsi l:=by
 have h:∀ x:DStmt,zsi x.body∧zsi x.els:=fun x=>by
   refine DStmt.ind (p:=fun x=>zsi x.body∧zsi x.els) (fun t hb he=>⟨?_,?_⟩) x
   · intro w W v n h e h0 h1;exact zeD h e hb h0 h1
   intro w W v n h e h0 h1;exact zeD h e he h0 h1
 intro w W v n hv e h0 h1
 exact zeD hv e (fun x _=>h x) h0 h1
theorem zkc {W w:World} {g lo1 hi1:Nat} {bs:List UInt8} {s:Cur} {v1:Value} {body:List DStmt} (hC:CurAt W g bs s w) (h1:OwnI lo1 hi1 w v1 body) (hlo:lo1≤w.heap.size) (hhi:hi1≤w.heap.size) (hg1:g<lo1) (hbl:body.length≤1000) :
   CALL Tryz.prog 169 [.pointer (some ⟨g,0,none⟩),v1] w fun r w'=>UpG g lo1 w w'∧CurAt W g bs (zik bs body s).2 w'∧RowI lo1 w'.heap.size 81 w' r (zik bs body s).1:=by
 have hgl:=hC.lt
 have hl3:((lks.length:Nat):Int)=3:=rfl
 refine F169_call ?_
 unfold F169
 refine zpr fun v9 w1 hx1 o9=>?_
 have hs1:=hx1.size
 refine (zcn (hC.ext hx1) o9 (by omega) (by omega) (by omega) (by decide) (by decide)).mono ?_
 rintro _ w2 ⟨hc2,hC2,rfl,hS10⟩
 have hs2:=hc2.size
 rw [hl3] at hC2
 refine zpr fun v12 w3 hx3 o12=>?_
 have hs3:=hx3.size
 refine (zcn (hC2.ext hx3) o12 (by omega) (by omega) (by omega) (by decide) (by decide)).mono ?_
 rintro _ w4 ⟨hc4,hC4,rfl,hS13⟩
 have hs4:=hc4.size
 rw [hl3] at hC4
 refine zci (lo:=w4.heap.size) (hi:=w4.heap.size) (Nat.le_refl _) (by unfold I64;omega) hS10 fun v15 o15=>?_
 refine zg5 (β:=DStmt) u66 zc6 z81 (by decide) (zjn o15) fun v16 w5 hx5 r16=>?_
 have hs5:=hx5.size
 have hu5:UpG g lo1 w w5:=(hx1.upG.trans hc2.upG1).trans ((hx3.upG.trans hc4.upG1).trans hx5.upG)
 have h15:=((((h1.ext hx1).chg hc2 (by omega)).ext hx3).chg hc4 (by omega)).ext hx5
 have hC5:=hC4.ext hx5
 obtain ⟨na,hna⟩:∃ x,x=zca bs lks s:=⟨_,rfl⟩
 obtain ⟨nb,hnb⟩:∃ x,x=zca bs lks (zak bs 3 s):=⟨_,rfl⟩
 rw [←hna] at hS10 o15 r16
 rw [←hnb] at hS13
 rw [←hna,←hnb]
 have hg:zik bs body s=(if na=nb then (zec na :: (body++[zc2 na]),zak bs 3 (zak bs 3 s)) else if zaI bs 2 (zak bs 3 (zak bs 3 s))=0 then (zec na :: zec nb :: (body++[zc2 na]),zak bs 2 (zak bs 3 (zak bs 3 s)))
     else (zec na :: (body++[zc2 na]),zak bs 2 (zak bs 3 (zak bs 3 s)))):=by unfold zik;rw [←hna,←hnb]
 clear hna hnb
 refine JOIN.mk (fun us w'=>∃ v l s',us=[v]∧ChgI g (g+1) w4 w'∧CurAt W g bs s' w'∧RowI w4.heap.size w'.heap.size 81 w' v l∧l.length≤2∧zik bs body s=(l++(body++[zc2 na]),s')) ?_ ?_
 · refine zjF ?_
   refine br (fun hne=>?_) (fun he=>?_)
   · refine (zee hC5 (by omega)).mono ?_
     rintro _ w6 ⟨hc6,hC6,rfl⟩
     have hs6:=hc6.size
     have r6:=r16.chg hc6 (by omega)
     refine br (fun h0=>?_) (fun h0=>?_)
     · refine zci (lo:=w6.heap.size) (hi:=w6.heap.size) (Nat.le_refl _) (by unfold I64;omega) hS13 fun v26 o26=>?_
       refine zch (α:=DStmt) u66 zc6 z81 zr0 (by decide) r6 (by omega) o26 (by omega) (by omega) (by rw [zam];simp) (by simp) fun v28 w7 hc7 r28=>?_
       refine ⟨v28,[zec na,zec nb],_,rfl,ChgI.out (hx5.toI.trans hc6) hc7 (by omega),hC6.chg hc7 (by omega) (by omega),r28,by simp,?_⟩
       rw [hg,if_neg hne,if_pos h0];rfl
     refine ⟨v16,[zec na],_,rfl,hx5.toI.trans hc6,hC6,r6.mono (by omega) (by omega),by simp,?_⟩
     rw [hg,if_neg hne,if_neg h0];rfl
   refine ⟨v16,[zec na],_,rfl,hx5.toI,hC5,r16,by simp,?_⟩
   rw [hg,if_pos (Decidable.not_not.1 he)];rfl
 rintro u6 w6 ⟨v,l,s',hu,hc6,hC6,r6,hll,hgd⟩
 simp only [List.map_cons,List.map_nil,List.cons.injEq,and_true] at hu
 rw [hu,hgd]
 have hs6:=hc6.size
 have h16:=(((((h1.ext hx1).chg hc2 (by omega)).ext hx3).chg hc4 (by omega))).chg hc6 (by omega)
 refine zg1 (α:=DStmt) (lo0:=lo1) u66 zc6 zr0 r6 (by omega) h16 (by omega) (by omega) (by omega) (by rw [zam];omega) (by omega) fun v31 w7 hc7 r31=>?_
 have hs7:=hc7.size
 refine zci (lo:=w7.heap.size) (hi:=w7.heap.size) (Nat.le_refl _) (by unfold I64;omega) hS10 fun v34 o34=>?_
 refine zch (α:=DStmt) u66 zc6 z81 zr0 (by decide) r31 (by omega) o34 (by omega) (by omega) (by rw [zam,List.length_append];omega) (by rw [List.length_append];omega) fun v36 w8 hc8 r36=>?_
 refine ⟨(((hx1.upG.trans hc2.upG1).trans (hx3.upG.trans hc4.upG1)).trans hc6.upG1).trans ((hc7.upG (by omega)).trans (hc8.upG (by omega))),(hC6.chg hc7 (by omega) (by omega)).chg hc8 (by omega) (by omega),?_⟩
 simpa [zc2] using r36
theorem zhL {P:Program} {X:Nat→Prop} {m:Sem Value} {w:World} {v:Value} {K:Value→Prop} (h:∀ w':World,m.run P w'=.ok v w') (k:K v):RDX P X m w K:=⟨v,fun w' _=>h w',k⟩
theorem zps (bs:List UInt8) (s:Cur):2≤(zil bs s).length∧(zil bs s).length≤4:=by
 have:=zpl bs s
 unfold zil
 rw [List.length_take]
 show 2≤min _ 4∧min _ 4≤4
 omega
end Go.Proofs.YtdmailcgaekimaaGreat
namespace Go.Sh
open Rep (rep)
section
variable {P:Program} {w w0 w':World} {α:Type} [Rep α] {lo hi e:Nat} {v:Value} {l:List α}
theorem RowG.flat [Flat α] {F:List Nat} (h:RowG F e w v l):F=[]∨∃ b,F=[b]:=by
 rcases h with ⟨_,_,_,rfl⟩ | ⟨xs,Fi,_,hc,rfl,_⟩
 · exact .inl rfl
 have:=Cells.flat (xs:=xs) hc
 subst this
 rcases hv:v.ownBlock with _ | b
 · exact .inl (by simp)
 exact .inr ⟨b,by simp⟩
theorem zpt [RepZ α]:OwnI lo hi w (mkv α (RepZ.zc α)) (RepZ.zv:α):=⟨[],⟨⟨RepZ.zc α,RepZ.zr w,rfl⟩,List.nodup_nil,Wr.nil w⟩,by simp⟩
theorem Chg.ofI {F:List Nat} (h:Chg F w w') (hF:∀ b∈F,lo≤b∧b<hi):ChgI lo hi w w':=
 ⟨h.os,h.tape,h.output,h.size,fun b hb hx=>h.block b hb fun hm=>by have:=hF b hm;omega⟩
theorem ChgI.ext_left {w1:World} (hx:Ext w w1) (h:ChgI lo hi w1 w'):ChgI lo hi w w':=
 ⟨h.os.trans hx.os,h.tape.trans hx.tape,h.output.trans hx.output,Nat.le_trans hx.size h.size,fun b hb ho=>by rw [h.block b (Nat.lt_of_lt_of_le hb hx.size) ho,hx.block b hb]⟩
theorem zpu [Flat α] {t ty:TypeId} {by_:Nat} {u:Value} {x:α} {lo2 hi2:Nat} {K:Value→World→Prop} (ht:P.underlying t=some (.slice e)) (he:tyI P e=some (Rep.size α,by_,Rep.agg α)) (hz:zbB P e=true)
   (hzc:(P.info? e).map (fun i=>(i.zero.map (·.cells.size)))=some (some (Rep.size α))) (hsz:Rep.size α≤1000) (hv:RowI lo hi e w v l) (hx:OwnI lo2 hi2 w u x) (hm:l.length+1≤maxLen) (hb:(l.length+1)*by_≤140737488355328)
   (k:∀ v' w' lo' hi',ChgI lo hi w w'→RowI lo' hi' e w' v' (l++[x])→(lo'=lo∧hi'=hi∨lo'=w.heap.size∧hi'=w'.heap.size)→K v' w'):OP P (Instr.buildSlice t 1 #[(0,u)]) w fun s w1=>OP P (Builtin.append_ #[t,t] ty [v,s].toArray) w1 K:=by
 obtain ⟨F,h1,h2,h3⟩:=zeA.1 hv
 obtain ⟨G,hmx,hG⟩:=hx
 have hGn:G=[]:=by obtain ⟨cs,hr,_⟩:=hmx.own;exact Flat.flat hr
 subst hGn
 refine zfr (K:=fun _=>K) ht he hz hzc hsz h1 h2 hmx (by simp) hm hb (fun w1 v' w' G' hx1 hc hR hN hs=>?_) fun _ _ _ h=>h
 have hcI:=ChgI.ext_left hx1 (hc.ofI h3)
 have hlt:=hR.lt
 rcases hR.flat with rfl | ⟨b,rfl⟩
 · exact k v' w' lo hi hcI (zeA.2 ⟨[],hR,hN,by simp⟩) (.inl ⟨rfl,rfl⟩)
 rcases hs b (by simp) with h | h | h
 · exact k v' w' lo hi hcI (zeA.2 ⟨[b],hR,hN,fun c hc=>by simp at hc;subst hc;exact h3 _ h⟩) (.inl ⟨rfl,rfl⟩)
 · cases h
 exact k v' w' w.heap.size w'.heap.size hcI (zeA.2 ⟨[b],hR,hN,fun c hc=>by simp at hc;subst hc;exact ⟨h,hlt _ (by simp)⟩⟩) (.inr ⟨rfl,rfl⟩)
end
end Go.Sh
namespace Go.Proofs.YtdmailcgaekimaaGreat
open Go Go.Sh Go.Proofs
open Rep (rep)
def F98 (a0:Value) (w:World) (R:VW):Prop:=
 oP (Instr.alloc 64 true (.tuple #[])) w fun x2 w=>
 oP (Instr.buildSlice 24 4 #[(0,(Value.string (ByteArray.mk #[120]))),(1,(Value.string (ByteArray.mk #[121]))),(2,(Value.string (ByteArray.mk #[122]))),(3,(Value.string (ByteArray.mk #[117])))]) w fun x7 w=>
 oP (Instr.buildSlice 24 3 #[(0,(Value.string (ByteArray.mk #[97]))),(1,(Value.string (ByteArray.mk #[98]))),(2,(Value.string (ByteArray.mk #[109])))]) w fun x8 w=>
 rD (Instr.build 64 #[(0,x7),(1,x8)]) w fun x9=>
 oP (Instr.alloc 64 true (.tuple #[])) w fun x3 w=>
 oS 64 x3 x9 w fun w=>
 oP (Instr.buildSlice 24 4 #[(0,(Value.string (ByteArray.mk #[109,97,105,110]))),(1,(Value.string (ByteArray.mk #[112]))),(2,(Value.string (ByteArray.mk #[113]))),(3,(Value.string (ByteArray.mk #[114])))]) w fun x10 w=>
 cL 59 [a0,(iV 3)] w fun x12 w=>
 rB .add 3 U0 T0 (iV 2) x12 w fun x13=>
 rD (Instr.sliceAt 24 x10 none (some x13) none) w fun x14=>
 LOOPI [5] [(iV 0)] w fun u4 w next4=>
 rN 24 3 x14 w fun x17=>
 rC (u4 5) x17 w fun x18=>
 BR x18
 (cL 167 [a0,(iV 2)] w fun x22 w=>
 cL 167 [a0,(iV 1)] w fun x24 w=>
 oP (Builtin.append_ #[66,66] 66 [x22,x24].toArray) w fun x25 w=>
 JOIN [6] (fun J9=>
 cL 168 [x25,(iV 50)] w fun x27 w=>
 rB .lss 3 T0 U0 x27 (iV 0) w fun x28=>
 BR x28
 (rD (Instr.build 81 #[(0,(iV 8))]) w fun x29=>
 oP (Instr.buildSlice 66 1 #[(0,x29)]) w fun x30 w=>
 J9 [x30] w)
 (J9 [x25] w)) (fun u9 w=>
 JOIN [6] (fun J11=>
 cL 51 [a0,(iV 2)] w fun x32 w=>
 BR x32
 (cL 169 [a0,(u9 6)] w fun x35 w=>
 J11 [x35] w)
 (J11 [(u9 6)] w)) (fun u11 w=>
 JOIN [6] (fun J13=>
 rB .eql 3 T0 U0 (u4 5) (iV 0) w fun x37=>
 BR x37
 (cL 51 [a0,(iV 2)] w fun x40 w=>
 BR x40
 (rX 24 x14 (iV 1) w fun x43=>
 rL 9 x43 w fun x44=>
 rD (Instr.build 81 #[(0,(iV 5)),(1,x44)]) w fun x45=>
 oP (Instr.buildSlice 66 1 #[(0,x45)]) w fun x46 w=>
 oP (Builtin.append_ #[66,66] 66 [x46,(u11 6)].toArray) w fun x48 w=>
 J13 [x48] w)
 (J13 [(u11 6)] w))
 (J13 [(u11 6)] w)) (fun u13 w=>
 (fun w=>XR fun X=>RDX tp X (Instr.fieldAt 64 x3 2) w fun x49=>
 RDX tp X (Instr.loadAt 62 x49) w fun x50=>
 RDX tp X (Instr.indexAt 24 x14 (u4 5)) w fun x53=>
 RDX tp X (Instr.loadAt 9 x53) w fun x54=>
 RDX tp X (Instr.sliceAt 24 x14 (some (iV 1)) none none) w fun x58=>
 (fun w_=>cL 170 [a0,(u13 6),x58] w_ fun x59 w=>
 ExtX X w_ w ∧
 RDX tp X (Instr.build 69 #[(0,x54),(1,x59)]) w fun x60=>
 (fun w_=>oP (Instr.buildSlice 62 1 #[(0,x60)]) w_ fun x61 w=>
 ExtX X w_ w ∧
 (oP (Builtin.append_ #[62,62] 62 [x50,x61].toArray) w fun x62 w=>
 RDX tp X (Instr.fieldAt 64 x3 2) w fun x63=>
 oS 62 x63 x62 w fun w=>
 rA (u4 5) (iV 1) w fun x20=>
 next4 [x20] w)) w) w) (World.drew1 w)))))
 (rL 64 x3 w fun x64=>
 oS 64 x2 x64 w fun w=>
 rD (zar 64 x2) w fun r2=>R r2 w)
def cfg98:Cfg:={ ext:=extL,joins:=[(9,2080374848,[6]),(11,66571993152,[6]),(13,562881233944640,[6])],loops:=[(4,18446744073709518944,[5])],draws:=[(13,[0,1,2,3,4,5,6,7,8,9,10,11,12,13,14,15],5120)],pars:=[],xs:=[13] }
theorem F98_call {a0:Value} {w:World} {R:VW} (h:F98 a0 w R):cL 98 [a0] w R:=co (g:=cfg98) Tryz.func98 (by kernel_rfl) (by kernel_rfl) (by kernel_rfl) h
theorem zod {w:World} {n:ByteArray} {a:Option Addr} {m c:Nat}:(Instr.build 69 #[(0,.string n),(1,.slice a m c)]).run Tryz.prog w=.ok (.agg #[.string n,.slice a m c]) w:=by
 obtain ⟨v,h1,h2⟩:=zaH (P:=Tryz.prog) (w:=w) (K:=fun v=>v=.agg #[.string n,.slice a m c]) (t:=69) (parts:=#[(0,.string n),(1,.slice a m c)]) (cells:=#[.string n,.slice a m c]) (by kernel_rfl) rfl
 subst h2;exact h1 w (Ext.refl w)
theorem zqP {X:Nat→Prop} {w:World} {lo hi n cap i:Nat} {a:Option Addr} {l:List ByteArray} {K:Value→Prop} (h:IsK lo hi w (.slice a n cap) l) (hn:n=l.length) (hil:i<l.length) (hX:∀ b,lo≤b→b<hi→¬X b)
   (k:l[i].size≤maxLen→K (.string l[i])):∃ p,(∀ w':World,(Instr.indexAt 24 (.slice a n cap) (.int .i64 (i:Int))).run Tryz.prog w'=.ok p w')∧RDX Tryz.prog X (Instr.loadAt 9 p) w K:=by
 subst hn
 obtain ⟨F,cs,⟨a',cap',Fi,xs,rfl,h1,h2,hc,h4⟩,hv⟩:=h.is
 simp only [mkv,Rep.agg,cond_false,List.headD_cons,Value.slice.injEq] at hv
 obtain ⟨rfl,_,rfl⟩:=hv
 rcases h4 with ⟨rfl,_⟩ | ⟨b,o,rfl,rfl,hr,hb⟩
 · simp at hil
 refine ⟨.pointer (some ⟨b,o+i*1,none⟩),fun w'=>by rw [zbg u24 ty9 (by omega) (by omega)];simp,?_⟩
 have key:∀ w':World,Is w' (.slice (some ⟨b,o,none⟩) l.length cap) l→w'.cell? ⟨b,o+i*1,none⟩=some (.string l[i])∧l[i].size≤maxLen:=by
   intro w' hw
   obtain ⟨F,cs,⟨a',cap',Fi,xs,rfl,h1,h2,hc,h4⟩,hv⟩:=hw
   simp only [mkv,Rep.agg,cond_false,List.headD_cons,Value.slice.injEq] at hv
   obtain ⟨rfl,_,rfl⟩:=hv
   rcases h4 with ⟨rfl,_⟩ | ⟨b2,o2,hbo,rfl,hr,hb⟩
   · simp at hil
   simp only [Option.some.injEq,Addr.mk.injEq,and_true] at hbo
   obtain ⟨rfl,rfl⟩:=hbo
   have e:l=l.take i++(l[i] :: l.drop (i+1)):=by simp
   rw [e] at hc
   obtain ⟨F1,F2,x1,x2,rfl,rfl,c1,c2⟩:=Cells.split hc
   obtain ⟨G,F3,cg,x3,rfl,rfl,⟨_,rfl,hs⟩,_⟩:=c2
   have hx1:x1.length=i:=by rw [Cells.len c1,List.length_take,Nat.min_eq_left (by omega)];exact Nat.mul_one i
   refine ⟨?_,hs⟩
   have:=hr i (.string l[i]) (by rw [List.getElem?_append_right (by omega),hx1];simp)
   simpa using this
 refine ⟨.string l[i],fun w' hx'=>?_,k (key w h.is).2⟩
 have h0:=(key w' (h.2 w' fun c h5 h6=>hx'.block c (Nat.lt_of_lt_of_le h6 h.1) (hX c h5 h6))).1
 rw [Nat.mul_one] at h0
 have hA:=zb2 ty9 w'
 simp [Instr.loadAt,Instr.sureAddr,loadVar,hA,h0]
theorem zpv (bs:List UInt8) (s:Cur):(zaU bs 2 s).1.length≤4∧(zaU bs 1 (zaU bs 2 s).2).1.length≤4∧(ze2 bs s).1.length≤50∧(zfP bs (ze2 bs s)).1.length≤53:=by
 refine ⟨zij 4 0 _,zij 4 0 _,?_,?_⟩
 · have:=zmg bs s;have:=zj6 (ze2 bs s).1;omega
 have:=zpk bs (zmg bs s);have:=zj6 (zfP bs (ze2 bs s)).1;omega
theorem zhM {X:Nat→Prop} {w:World} {m:Sem Value} {p:Value} {K:Value→Prop} (h:∀ w':World,m.run Tryz.prog w'=.ok p w') (k:K p):RDX Tryz.prog X m w K:=⟨p,fun w' _=>h w',k⟩
theorem zpw {pr:List ByteArray} (h:1<pr.length):(pr.drop 1).getD 0 nO=pr[1]:=by
 rw [List.getD_eq_getElem?_getD,List.getElem?_drop,List.getElem?_eq_getElem h];rfl
theorem ziY {bs:List UInt8} {pr l:List ByteArray} {k:Nat} {s:Cur} (hk:k<l.length):zbb bs pr (l.drop k) k s =
   (⟨l[k],(zcJ bs pr k s).1⟩ :: (zbb bs pr (l.drop (k+1)) (k+1) (zcJ bs pr k s).2).1,(zbb bs pr (l.drop (k+1)) (k+1) (zcJ bs pr k s).2).2):=by
 rw [List.drop_eq_getElem_cons hk,zbb]
theorem zoe {W w:World} {g:Nat} {bs:List UInt8} {s:Cur} (hC:CurAt W g bs s w) :
   CALL Tryz.prog 98 [.pointer (some ⟨g,0,none⟩)] w fun r w'=>ChgI g (g+1) w w'∧CurAt W g bs (zcm bs s).2 w'∧OwnI w.heap.size w'.heap.size w' r (zcm bs s).1:=by
 have hgl:=hC.lt
 refine F98_call ?_
 unfold F98
 refine zaF ztg fun w1 hx1 hB1=>?_
 have hs1:=hx1.size
 have hg1:=hB1.lt
 refine ztp fun v7 w2 hx2 o7=>?_
 have hs2:=hx2.size
 refine zpr fun v8 w3 hx3 o8=>?_
 have hs3:=hx3.size
 have o7:=o7.ext hx3
 obtain ⟨a7,cap7,rfl⟩:=zbQ o7
 obtain ⟨a8,cap8,rfl⟩:=zbQ o8
 refine zaH (cells:=#[.slice a7 glb.length cap7,.slice a8 lks.length cap8,.slice none 0 0]) (by kernel_rfl) ?_
 refine zaF ztg fun w4 hx4 hB4=>?_
 have hs4:=hx4.size
 have hg4:=hB4.lt
 have o7:=o7.ext hx4
 have o8:=o8.ext hx4
 refine zaw (x:=(⟨glb,lks,[]⟩:DProg)) (lo:=w1.heap.size) (hi:=w3.heap.size) zh4 rfl hB4 rfl (zgp (l0:=w1.heap.size) (h0:=w2.heap.size) (l1:=w2.heap.size) (h1:=w3.heap.size) (l2:=w3.heap.size) (h2:=w3.heap.size) o7 o8 zbc (by omega) (by omega) (by omega) (by omega) (by omega) (by omega)) fun w5 hc5 hB5=>?_
 have hs5:=hc5.size
 have o7:=o7.chg hc5 (by omega)
 have o8:=o8.chg hc5 (by omega)
 have hx05:Ext w w5:=Ext.chgI (hx1.trans (hx2.trans (hx3.trans hx4))) hc5 (by omega)
 have hB15:=(hB1.ext (hx2.trans (hx3.trans hx4))).chgI hc5 (by omega)
 refine ztq fun v10 w6 hx6 o10=>?_
 have hs6:=hx6.size
 refine (zbm (hC.ext (hx05.trans hx6)) (by omega)).mono ?_
 rintro _ w7 ⟨hc7,hC7,rfl⟩
 have hs7:=hc7.size
 have o7:=(o7.ext hx6).chg hc7 (by omega)
 have o8:=(o8.ext hx6).chg hc7 (by omega)
 have o10:=o10.chg hc7 (by omega)
 have hB7:=(hB5.ext hx6).chgI hc7 (by omega)
 have hB17:=(hB15.ext hx6).chgI hc7 (by omega)
 have hbx:=zbp bs (n:=3) (by omega) s
 have hN:=zps bs s
 refine zcp (by unfold I64;omega) ?_
 obtain ⟨a10,cap10,rfl⟩:=zbQ o10
 have hK10:=o10.isK (by omega)
 obtain ⟨np,hnp⟩:∃ np:Nat,np=2+(zaI bs 3 s).toNat:=⟨_,rfl⟩
 have hnp4:np≤prc4.length:=by show np≤4;omega
 have hprN:zil bs s=prc4.take np:=by rw [hnp];rfl
 have hprl:(zil bs s).length=np:=by rw [hprN,List.length_take];omega
 have hK:=hK10.take hnp4
 rw [←hprN] at hK
 have hsl:∀ w':World,(Instr.sliceAt 24 (.slice a10 prc4.length cap10) none (some (.int .i64 (2+zaI bs 3 s))) none).run Tryz.prog w'=.ok (.slice a10 np cap10) w':=fun w'=>by
   obtain ⟨a',cap',Fi',xs',hv',q1,q2,_⟩:=zcq o10.is
   simp only [Value.slice.injEq] at hv'
   obtain ⟨rfl,_,rfl⟩:=hv'
   have hb:(Instr.sliceBounds true prc4.length cap10 none (some (.int .i64 (2+zaI bs 3 s))) none).run Tryz.prog w'=.ok (0,np,cap10) w':=by
     have h1:2+zaI bs 3 s≤(cap10:Int):=by omega
     have h2:(0:Int)≤2+zaI bs 3 s:=by omega
     have h3:(2+zaI bs 3 s).toNat=np:=by omega
     simp [Instr.sliceBounds,Instr.sliceBound,asIntOf,h1,h2,h3]
   simp only [Instr.sliceAt,Instr.slice,Sem.run_bind,run_underlying u24,Result.andThen_ok,hb,zaD ty9]
   simp
   exact fun _=>by cases a10<;>simp [Addr.add_mid,Addr.add]
 refine zaV (fun w' _=>hsl w') ?_
 obtain ⟨L,hL⟩:∃ L,L=zil bs s:=⟨_,rfl⟩
 rw [←hL] at hK hN hprl
 have hp0:0<(L.drop 1).length:=by rw [List.length_drop];omega
 have hc07:ChgI g (g+1) w w7:=((hx05.trans hx6).toI).trans hc7
 refine zaE L.length (fun k us w'=>us=[.int .i64 (k:Int)]∧∃ (ps:List DProc) (s1:Cur) (vr:Value) (hi:Nat),k≤L.length∧ps.length=k∧zbb bs (L.drop 1) L 0 (zak bs 3 s)=(ps++(zbb bs (L.drop 1) (L.drop k) k s1).1,(zbb bs (L.drop 1) (L.drop k) k s1).2) ∧
     CurAt W g bs s1 w'∧ChgI g (g+1) w w'∧Blk w3.heap.size 64 w' [.slice a7 glb.length cap7,.slice a8 lks.length cap8,vr]∧OwnI w1.heap.size w2.heap.size w' (.slice a7 glb.length cap7) glb∧OwnI w2.heap.size w3.heap.size w' (.slice a8 lks.length cap8) lks ∧
     IsK w5.heap.size w6.heap.size w' (.slice a10 np cap10) L∧RowI w6.heap.size hi 69 w' vr ps∧w6.heap.size≤hi∧hi≤w'.heap.size∧Blk w.heap.size 64 w' [.slice none 0 0,.slice none 0 0,.slice none 0 0]) 0 (Nat.zero_le _)
     ⟨rfl,[],zak bs 3 s,.slice none 0 0,w6.heap.size,Nat.zero_le _,rfl,by simp,hC7,hc07,hB7,o7,o8,hK,zdo _ _ _ _,Nat.le_refl _,by omega,hB17⟩ ?_
 rintro k m u w8 hkm ⟨hu,ps,s1,vr,hi,hkl,hps,hdr,hC8,hc8,hB8,o7,o8,hK8,r8,hhi0,hhi,hB18⟩
 simp only [List.map_cons,List.map_nil,List.cons.injEq,and_true] at hu
 rw [hu]
 have hs8:=hc8.size
 refine zae u24 hK8.is ?_
 refine zai ?_
 refine br (fun hlt=>?_) (fun hge=>?_)
 · have hk:k<L.length:=by omega
   rw [ziY hk] at hdr
   obtain ⟨q1,q2,q3,q4⟩:=zpv bs s1
   refine ((zmk 2 (by omega)).2 hC8 rfl).mono ?_
   rintro v22 w9 ⟨hc9,hC9,r22⟩
   have hs9:=hc9.size
   refine ((zmk 1 (by omega)).2 hC9 rfl).mono ?_
   rintro v24 w10 ⟨hc10,hC10,r24⟩
   have hs10:=hc10.size
   refine zn8 (α:=DStmt) u66 zc6 zr0 (r22.chg hc10 (by omega)) (by omega) r24.own (by omega) (by omega) (by rw [zam];omega) (by omega) fun v25 w11 hc11 r25=>?_
   have hs11:=hc11.size
   have hC11:=hC10.chg hc11 (by omega) (by omega)
   have hu11:UpG g w8.heap.size w8 w11:=(hc9.upG1.trans hc10.upG1).trans (hc11.upG (by omega))
   refine JOIN.mk (fun us w'=>∃ v,us=[v]∧UpG g w8.heap.size w8 w'∧CurAt W g bs (ze2 bs s1).2 w'∧OwnI w8.heap.size w'.heap.size w' v (ze2 bs s1).1) ?_ ?_
   · refine (zis _ r25.is (Ext.refl _) (by omega) (by omega)).mono ?_
     rintro _ w12 ⟨hx12,rfl⟩
     have hs12:=hx12.size
     refine zai ?_
     refine br (fun h0=>?_) (fun h0=>?_)
     · refine zjj (lo:=w12.heap.size) (hi:=w12.heap.size) (Nat.le_refl _) (by unfold I64;omega) fun v29 o29=>?_
       refine zgO (α:=DStmt) (lo:=w12.heap.size) (hi:=w12.heap.size) u66 zc6 z81 (by decide) o29 (by omega) fun v30 w13 hx13 o30=>?_
       refine ⟨v30,rfl,(hu11.trans hx12.upG).trans hx13.upG,hC11.ext (hx12.trans hx13),?_⟩
       unfold ze2
       rw [if_pos h0]
       exact o30.mono (by omega) (by omega)
     refine ⟨v25,rfl,hu11.trans hx12.upG,hC11.ext hx12,?_⟩
     unfold ze2
     rw [if_neg h0]
     exact (r25.ext hx12).own.mono (by omega) (by omega)
   rintro u9 w14 ⟨v14,hu,hu14,hC14,o14⟩
   simp only [List.map_cons,List.map_nil,List.cons.injEq,and_true] at hu
   rw [hu]
   have hs14:=hu14.size
   have hgw:g<w8.heap.size:=by omega
   refine JOIN.mk (fun us w'=>∃ v,us=[v]∧UpG g w8.heap.size w8 w'∧CurAt W g bs (zfP bs (ze2 bs s1)).2 w'∧OwnI w8.heap.size w'.heap.size w' v (zfP bs (ze2 bs s1)).1) ?_ ?_
   · refine (zee hC14 (by omega)).mono ?_
     rintro _ w15 ⟨hc15,hC15,rfl⟩
     have hs15:=hc15.size
     have o15:=o14.chg hc15 (by omega)
     refine br (fun h0=>?_) (fun h0=>?_)
     · refine (zkc hC15 o15 (by omega) (by omega) hgw (by omega)).mono ?_
       rintro v35 w16 ⟨hu16,hC16,r16⟩
       refine ⟨v35,rfl,(hu14.trans hc15.upG1).trans hu16,?_,?_⟩
       · unfold zfP;rw [if_pos h0];exact hC16
       unfold zfP;rw [if_pos h0];exact r16.own
     refine ⟨v14,rfl,hu14.trans hc15.upG1,?_,?_⟩
     · unfold zfP;rw [if_neg h0];exact hC15
     unfold zfP;rw [if_neg h0];exact o15.mono (Nat.le_refl _) hs15
   rintro u11 w17 ⟨v17,hu,hu17,hC17,o17⟩
   simp only [List.map_cons,List.map_nil,List.cons.injEq,and_true] at hu
   rw [hu]
   have hs17:=hu17.size
   have hK17:=hK8.upG hu17 (by omega) (by omega)
   have hone:1<L.length:=by omega
   refine JOIN.mk (fun us w'=>∃ v,us=[v]∧UpG g w8.heap.size w8 w'∧CurAt W g bs (zhz bs k ((L.drop 1).getD 0 nO) (zfP bs (ze2 bs s1))).2 w'∧OwnI w8.heap.size w'.heap.size w' v (zhz bs k ((L.drop 1).getD 0 nO) (zfP bs (ze2 bs s1))).1) ?_ ?_
   · refine zag ?_
     refine br (fun hk0=>?_) (fun hk0=>?_)
     · have hk0':k=0:=by omega
       refine (zee hC17 (by omega)).mono ?_
       rintro _ w18 ⟨hc18,hC18,rfl⟩
       have hs18:=hc18.size
       have o18:=o17.chg hc18 (by omega)
       have hK18:=hK17.chgF hc18.toC (by simp;omega)
       refine br (fun h0=>?_) (fun h0=>?_)
       · refine zat (l:=L) (i:=1) u24 ty9 hK18.is (by omega) (by show 1<L.length;omega) fun b43 o43 hA43=>?_
         refine zao ty9 hA43 (Ext.refl _) fun hS44=>?_
         refine zci (lo:=w18.heap.size) (hi:=w18.heap.size) (Nat.le_refl _) (by unfold I64;omega) hS44 fun v45 o45=>?_
         refine zg5 (β:=DStmt) u66 zc6 z81 (by decide) (zjn o45) fun v46 w19 hx19 r46=>?_
         have hs19:=hx19.size
         refine zg1 (α:=DStmt) (lo0:=w8.heap.size) u66 zc6 zr0 r46 (by omega) (o18.ext hx19) (by omega) (by omega) (by omega) (by rw [zam];simp;omega) (by simp;omega) fun v48 w20 hc20 r48=>?_
         refine ⟨v48,rfl,((hu17.trans hc18.upG1).trans hx19.upG).trans (hc20.upG (by omega)),?_,?_⟩
         · unfold zhz
           rw [if_pos hk0',if_pos h0]
           exact (hC18.ext hx19).chg hc20 (by omega) (by omega)
         unfold zhz
         rw [if_pos hk0',if_pos h0,zpw hone]
         exact r48.own
       refine ⟨v17,rfl,hu17.trans hc18.upG1,?_,?_⟩
       · unfold zhz;rw [if_pos hk0',if_neg h0];exact hC18
       unfold zhz;rw [if_pos hk0',if_neg h0];exact o18.mono (Nat.le_refl _) hs18
     have hk0':¬k=0:=by omega
     refine ⟨v17,rfl,hu17,?_,?_⟩
     · unfold zhz;rw [if_neg hk0'];exact hC17
     unfold zhz;rw [if_neg hk0'];exact o17
   rintro u13 w21 ⟨v21,hu,hu21,hC21,o21⟩
   simp only [List.map_cons,List.map_nil,List.cons.injEq,and_true] at hu
   rw [hu]
   have hs21:=hu21.size
   have hx22:=zaj w21
   have hs22:=hx22.size
   generalize World.drew1 w21=w22 at *
   have hu22:UpG g w8.heap.size w8 w22:=hu21.trans hx22.upG
   have hB22:=hB8.upG hu22 (by omega) (by omega)
   have hK22:=hK8.upG hu22 (by omega) (by omega)
   have r22:=r8.upG hu22 (by omega) (by omega)
   have o22:=o21.ext hx22
   have hC22:=hC21.ext hx22
   refine XR.mk (fun c=>c=g∨w8.heap.size≤c) ?_
   have hXK:∀ b,w5.heap.size≤b→b<w6.heap.size→¬(b=g∨w8.heap.size≤b):=fun b h1 h2=>by omega
   refine zeB zcR ?_
   refine zeC zkD (u:=vr) (fun j v hj=>?_) (by omega) ?_
   · have:=hB22.range 2 vr rfl
     match j,hj with
     | 0,hj=>simp at hj;subst hj;simpa using this
     | j+1,hj=>simp at hj
   obtain ⟨p53,hp53,hl53⟩:=zqP (X:=fun c=>c=g∨w8.heap.size≤c) (K:=fun v=>L[k].size≤maxLen∧v=.string L[k]) hK22 hprl.symm hk hXK fun h=>⟨h,rfl⟩
   refine zhM hp53 ?_
   obtain ⟨v54,hv54,hS54,rfl⟩:=hl53
   refine RDX.mk _ hv54 ?_
   have hd1:∀ w':World,(Instr.sliceAt 24 (.slice a10 np cap10) (some (.int .i64 1)) none none).run Tryz.prog w'=.ok (.slice (if cap10=1 then a10 else a10.map (·.add (1*Rep.size ByteArray))) (np-1) (cap10-1)) w':=fun w'=>by
     obtain ⟨a',cap',Fi',xs',hv',z1,z2,_⟩:=zcq hK22.is
     simp only [Value.slice.injEq] at hv'
     obtain ⟨rfl,_,rfl⟩:=hv'
     have hb:(Instr.sliceBounds true np cap10 (some (.int .i64 1)) none none).run Tryz.prog w'=.ok (1,np,cap10) w':=by
       have h1:(1:Int)≤(np:Int):=by omega
       simp [Instr.sliceBounds,Instr.sliceBound,asIntOf,h1]
     simp [Instr.sliceAt,Instr.slice,run_underlying u24,hb,zaD ty9]
     rfl
   refine zhM hd1 ?_
   have hK1:IsK w5.heap.size w6.heap.size w22 (.slice (if cap10=1 then a10 else a10.map (·.add (1*Rep.size ByteArray))) (np-1) (cap10-1)) (L.drop 1):=by
     have:=IsK.drop (l:=L) (k:=1) (by rw [hprl];exact hK22) (by omega)
     rwa [hprl] at this
   obtain ⟨F,hMF,hF⟩:=o22
   refine (zpq _ hC22 hMF (fun h=>by have:=hF g h;omega) (fun c hc=>by have:=hF c hc;omega) hK1 (by omega) (fun c hc=>by have:=hF c hc;omega) hp0 (by rw [List.length_drop];omega)).mono ?_
   rintro r59 w23 ⟨h59,hc23,hC23,F',hM23,hF'⟩
   rw [h59]
   have hs23:=hc23.size
   refine ⟨hc23.toX fun c hc=>?_,?_⟩
   · rcases List.mem_cons.1 hc with rfl | hc
     · exact .inl rfl
     exact .inr (hF c hc).1
   have hu23:UpG g w8.heap.size w22 w23:=hc23.upG fun c hc=>(hF c hc).1
   have o23:OwnI w8.heap.size w22.heap.size w23 v21 (zcJ bs (L.drop 1) k s1).1:=⟨F',hM23,fun c hc=>⟨(hF c (hF' c hc)).1,hMF.lt c (hF' c hc)⟩⟩
   obtain ⟨a21,c21,rfl⟩:=zbQ o23
   refine zhL (fun w'=>zod) ?_
   have o60:=ziq hS54 o23
   have hB23:=hB22.upG hu23 (by omega) (by omega)
   have r23:=r22.upG hu23 (by omega) (by omega)
   refine zjQ (α:=DProc) u62 zo6 z69 zud (by decide) r23 (by omega) o60 (by omega) (by omega) (by rw [zam];omega) (by omega) (fun v62 w24 hc24 r24'=>?_) fun s' w' hx' h'=>⟨hx'.toX,h'⟩
   have hs24:=hc24.size
   refine zeB zcR ?_
   have hB24:=hB23.chgI hc24 (by omega)
   refine za6 (α:=List DProc) zkD rfl rfl hB24 (by simp) r24'.own fun w25 hc25 hB25=>?_
   have hs25:=hc25.size
   refine zah (by omega) ?_
   have hu25:UpG g w6.heap.size w8 w24:=((hu22.trans hu23).mono (by omega)).trans (hc24.upG (by omega))
   refine ⟨m-1,by omega,k+1,by omega,rfl,ps++[⟨L[k],(zcJ bs (L.drop 1) k s1).1⟩],(zcJ bs (L.drop 1) k s1).2,v62,w24.heap.size,by omega,by simp [hps],by rw [hdr];simp,?_,?_,hB25,?_,?_,?_,r24'.chg hc25 (by omega),by omega,by omega,?_⟩
   · exact (hC23.chg hc24 (by omega) (by omega)).chg hc25 (by omega) (by omega)
   · have h1:ChgI g (g+1) w w23:=hc8.trans ((hu22.trans hu23).toI (Nat.le_refl _))
     exact ChgI.out (ChgI.out h1 hc24 (by omega)) hc25 (by omega)
   · exact (o7.upG hu25 (by omega) (by omega)).chg hc25 (by omega)
   · exact (o8.upG hu25 (by omega) (by omega)).chg hc25 (by omega)
   · exact (hK8.upG hu25 (Nat.le_refl _) (by omega)).chgF hc25.toC (by simp;omega)
   exact (hB18.upG hu25 (by omega) (by omega)).chgI hc25 (by omega)
 have hk:k=L.length:=by omega
 subst hk
 rw [List.drop_length,zbb] at hdr
 simp only [List.append_nil] at hdr
 have hpe:zcm bs s=(⟨glb,lks,ps⟩,s1):=by
   unfold zcm
   rw [←hL,hdr]
 rw [hpe]
 refine zbP hB8 zh4 ?_
 have ost:OwnI w1.heap.size w8.heap.size w8 (.agg #[.slice a7 glb.length cap7,.slice a8 lks.length cap8,vr]) (⟨glb,lks,ps⟩:DProg):=
   zgp (l0:=w1.heap.size) (h0:=w2.heap.size) (l1:=w2.heap.size) (h1:=w3.heap.size) (l2:=w6.heap.size) (h2:=hi) o7 o8 r8.own (by omega) (by omega) (by omega) (by omega) (by omega) (by omega)
 refine zaw zh4 rfl hB18 rfl ost fun w9 hc9 hB9=>?_
 have hs9:=hc9.size
 refine zbx hB9 zh4 ?_
 exact ⟨ChgI.out hc8 hc9 (Nat.le_refl _),hC8.chg hc9 (by omega) (by omega),(ost.chg hc9 (by omega)).mono (by omega) (by omega)⟩
end Go.Proofs.YtdmailcgaekimaaGreat
namespace Go.Sh
def zug (l:List Nat):List Int:=l.map fun x:Nat=>(x:Int)
section
variable {nx:Nat→List Nat} {n a k x q:Nat} {M0 ms:List Bool} {td td':List Nat}
end
noncomputable def zuh (p:Nat→Prop):Nat→Nat
 | 0=>0
 | n+1=>zuh p n ||| (if @decide (p n) (Classical.propDecidable _) then 2^n else 0)
section
variable {n:Nat} {p q:Nat→Prop}
end
end Go.Sh
namespace Go.Proofs.YtdmailcgaekimaaGreat
open Go Go.Sh Go.Proofs
open Rep (rep)
structure DArc where
 fr:Int
 to:Int
theorem DArc.ext_iff {x y:DArc}:x=y↔(x.fr=y.fr∧x.to=y.to):=⟨fun h=>by rw [h];exact ⟨rfl,rfl⟩,fun h=>by obtain ⟨h0,h1⟩:=h;cases x;cases y;simp only at h0 h1;simp only [h0,h1]⟩
instance:DecidableEq DArc:=fun x y=>decidable_of_iff (x.fr=y.fr∧x.to=y.to) DArc.ext_iff.symm
instance:Rep DArc:=Rep.via fun x=>(x.fr,x.to)
instance:RepZ DArc:=⟨⟨(RepZ.zv:Int),(RepZ.zv:Int)⟩,RepZ.zc (Int×Int),fun w=>RepZ.zr (α:=Int×Int) w⟩
theorem zsj {w:World} {x:DArc} (h_fr:I64 x.fr) (h_to:I64 x.to):Mine [] w (.agg #[.int .i64 x.fr,.int .i64 x.to]) x:=⟨⟨[.int .i64 x.fr,.int .i64 x.to],⟨[],[],[.int .i64 x.fr],[.int .i64 x.to],rfl,rfl,⟨rfl,rfl,h_fr⟩,⟨rfl,rfl,h_to⟩⟩,rfl⟩,List.nodup_nil,Wr.nil w⟩
instance:Flat DArc:=⟨fun h=>Flat.flat (α:=Int×Int) h⟩
def F53 (a0:Value) (w:World) (R:VW):Prop:=
 oP (Instr.alloc 64 true (.tuple #[])) w fun x2 w=>
 oP (Instr.alloc 86 true (.tuple #[])) w fun x3 w=>
 cL 105 [a0] w fun x8 w=>
 cL 106 [x8,(Value.string (ByteArray.mk #[103,108,111,98,97,108,115])),(iV 6)] w fun x10 w=>
 rD (Instr.build 64 #[(0,x10)]) w fun x11=>
 oP (Instr.alloc 64 true (.tuple #[])) w fun x5 w=>
 oS 64 x5 x11 w fun w=>
 cL 106 [x8,(Value.string (ByteArray.mk #[108,111,99,107,115])),(iV 6)] w fun x13 w=>
 rF 64 x5 1 w fun x14=>
 oS 24 x14 x13 w fun w=>
 JOIN [] (fun J14=>
 LOOPI [] [] w fun u4 w next4=>
 (fun w=>NIL x8 <|
 rF 129 x8 3 w fun x17=>
 rF 86 x17 0 w fun x18=>
 rL 3 x18 w fun x19=>
 rB .eql 3 T0 U0 x19 (iV 0) w fun x20=>
 BR x20
 (NIL x8 <|
 rF 129 x8 1 w fun x24=>
 rL 3 x24 w fun x25=>
 NIL x8 <|
 rF 129 x8 0 w fun x28=>
 rL 127 x28 w fun x29=>
 rN 127 3 x29 w fun x30=>
 rC x25 x30 w fun x31=>
 BR x31
 (JOIN [] (fun J7=>
 cL 107 [x8,(Value.string (ByteArray.mk #[112,114,111,99]))] w fun x34 w=>
 BR x34
 (rF 64 x5 2 w fun x36=>
 rL 62 x36 w fun x37=>
 rN 62 3 x37 w fun x38=>
 rB .eql 3 T0 U0 x38 (iV 8) w fun x39=>
 BR x39
 (cL 108 [x8,(iV 5)] w fun x42 w=>
 J7 [] w)
 (J7 [] w))
 (J7 [] w)) (fun u7 w=>
 cL 109 [x8,(Value.string (ByteArray.mk #[112,114,111,99]))] w fun x44 w=>
 cL 110 [x8] w fun x46 w=>
 rD (Instr.build 69 #[(0,x46)]) w fun x47=>
 oP (Instr.alloc 69 true (.tuple #[])) w fun x6 w=>
 oS 69 x6 x47 w fun w=>
 cL 109 [x8,(Value.string (ByteArray.mk #[123]))] w fun x49 w=>
 NIL x8 <|
 rF 129 x8 4 w fun x52=>
 oS 3 x52 (iV 60) w fun w=>
 cL 111 [x8,(iV 6)] w fun x54 w=>
 rF 69 x6 1 w fun x55=>
 oS 66 x55 x54 w fun w=>
 cL 109 [x8,(Value.string (ByteArray.mk #[125]))] w fun x57 w=>
 rF 64 x5 2 w fun x58=>
 rL 62 x58 w fun x59=>
 rL 69 x6 w fun x60=>
 oP (Instr.buildSlice 62 1 #[(0,x60)]) w fun x61 w=>
 oP (Builtin.append_ #[62,62] 62 [x59,x61].toArray) w fun x62 w=>
 rF 64 x5 2 w fun x63=>
 oS 62 x63 x62 w fun w=>
 next4 [] w))
 (J14 [] w))
 (J14 [] w)) (World.drew1 w)) (fun u14 w=>
 NIL x8 <|
 rF 129 x8 3 w fun x66=>
 rF 86 x66 0 w fun x67=>
 rL 3 x67 w fun x68=>
 rB .neq 3 T0 U0 x68 (iV 0) w fun x69=>
 BR x69
 ((fun w=>rD (Instr.build 64 #[]) w fun x70=>
 NIL x8 <|
 rF 129 x8 3 w fun x73=>
 rL 86 x73 w fun x74=>
 (fun w_=>oS 64 x2 x70 w_ fun w=>
 Ext w_ w ∧
 oS 86 x3 x74 w fun w=>
 rD (zar 64 x2) w fun r2=>rD (zar 86 x3) w fun r3=>R (Value.tuple #[r2,r3]) w) w) (World.drew1 w))
 (rL 64 x5 w fun x75=>
 rD (Instr.build 86 #[]) w fun x76=>
 oS 64 x2 x75 w fun w=>
 oS 86 x3 x76 w fun w=>
 rD (zar 64 x2) w fun r2=>rD (zar 86 x3) w fun r3=>R (Value.tuple #[r2,r3]) w))
def cfg53:Cfg:=⟨extL,[(7,8787503087616,[]),(14,18446744073709518912,[])],[(4,18446744073709518912,[])],[(4,[0,1,2,3,4,5,6,7,8,9,10,11,12,13,14,15,16,17],0),(15,[0,1,2,3,4,5,6],32)],[],[],[]⟩
theorem F53_call {a0:Value} {w:World} {R:VW} (h:F53 a0 w R):cL 53 [a0] w R:=co (g:=cfg53) Tryz.func53 (by kernel_rfl) (by kernel_rfl) (by kernel_rfl) h
open Rep (rep)
def zoD (L:List DSign) (i:Nat):List (List Nat)→List DProc
 | []=>[]
 | ks :: r=>⟨sgT L (i+1),zkE L (i+3) ks⟩ :: zoD L (i+4+3*ks.length) r
structure PrcS (L:List DSign) (i:Nat) (ks:List Nat):Prop where
 word:sgT L i=ByteArray.mk #[112,114,111,99]
 name:named L (i+1)=true
 size:(sgT L (i+1)).size≤maxLen
 open_:sgT L (i+2)=ByteArray.mk #[123]
 row:RowS L (i+3) ks
 close:sgT L (i+3+3*ks.length)=ByteArray.mk #[125]
 lt:i+3+3*ks.length<L.length
inductive PrcsS (L:List DSign):Nat→List (List Nat)→Prop
 | nil {i:Nat} (h:L.length≤i):PrcsS L i []
 | cons {i:Nat} {ks:List Nat} {r:List (List Nat)} (h:PrcS L i ks) (t:PrcsS L (i+4+3*ks.length) r):PrcsS L i (ks :: r)
theorem ztK:zb9 Tryz.prog 86=some [.int .i64 0,.int .i64 0]:=by kernel_rfl
theorem zt4:zb9 Tryz.prog 69=some [.string nO,.slice none 0 0]:=by kernel_rfl
theorem znn {lo hi:Nat} {w:World}:OwnI lo hi w (.agg #[.int .i64 0,.int .i64 0]) (⟨0,0⟩:DArc):=⟨[],zsj (x:=⟨0,0⟩) zgn zgn,by simp⟩
theorem zmp {w0:World} {s:ByteArray} {L:List DSign} {ng nl:Nat} {N:List (List Nat)}
   (hnew:∀ w:World,CALL Tryz.prog 105 [.string s] w fun r w'=>Ext w w'∧∃ g v e W,r=.pointer (some ⟨g,0,none⟩)∧w.heap.size≤g∧g<w'.heap.size∧RdS W g L v e 0 60 w')
   (hg:LstS L 0 ng (ByteArray.mk #[103,108,111,98,97,108,115])) (hl:LstS L (2*ng+1) nl (ByteArray.mk #[108,111,99,107,115])) (hp:PrcsS L (2*ng+1+2*nl+1) N) (hN:N.length≤8) :
   CALL Tryz.prog 53 [.string s] w0 fun r w'=>Ext w0 w'∧∃ a,r=.tuple #[a,.agg #[.int .i64 0,.int .i64 0]]∧OwnI w0.heap.size w'.heap.size w' a (⟨zip L 0 ng,zip L (2*ng+1) nl,zoD L (2*ng+1+2*nl+1) N⟩:DProg):=by
 have hng:=hg.most
 have hnl:=hl.most
 refine F53_call ?_
 unfold F53
 refine zaF ztg fun w1 hx1 hB1=>?_
 have hs1:=hx1.size
 have hb1:=hB1.lt
 refine zaF ztK fun w2 hx2 hB2=>?_
 have hs2:=hx2.size
 have hb2:=hB2.lt
 refine (hnew w2).mono ?_
 rintro _ w3 ⟨hx3,g,v,e,W,rfl,hgl,hgr,h3⟩
 have hs3:=hx3.size
 refine (zjm h3 hg hgr).mono ?_
 rintro v10 w4 ⟨hc4,h4,r4⟩
 have hs4:=hc4.size
 have o4:=r4.own
 obtain ⟨a7,cap7,rfl⟩:=zbQ o4
 refine zaH (cells:=#[.slice a7 (zip L 0 ng).length cap7,.slice none 0 0,.slice none 0 0]) (by kernel_rfl) ?_
 refine zaF ztg fun w5 hx5 hB5=>?_
 have hs5:=hx5.size
 have hb5:=hB5.lt
 refine zaw (x:=(⟨zip L 0 ng,[],[]⟩:DProg)) (lo:=w3.heap.size) (hi:=w4.heap.size) zh4 rfl hB5 rfl (zgp (l0:=w3.heap.size) (h0:=w4.heap.size) (l1:=w4.heap.size) (h1:=w4.heap.size) (l2:=w4.heap.size) (h2:=w4.heap.size) (o4.ext hx5) zbc zbc (by omega) (by omega) (by omega) (by omega) (by omega) (by omega)) fun w6 hc6 hB6=>?_
 have hs6:=hc6.size
 have o6:=(o4.ext hx5).chg hc6 (.inl (Nat.le_refl _))
 have h6:=(h4.step hx5).chg hc6 (by omega)
 rw [show 0+2*ng+1=2*ng+1 by omega] at h6
 refine (zjm h6 hl (by omega)).mono ?_
 rintro v13 w7 ⟨hc7,h7,r7⟩
 have hs7:=hc7.size
 have hB7:=hB6.keep (hc7.block _ hB6.lt (.inr (by omega)))
 have o7g:=o6.chg hc7 (.inr (by omega))
 refine zaa zja ?_
 refine za6 (α:=List ByteArray) zcP rfl rfl hB7 (by simp) r7.own fun w8 hc8 hB8=>?_
 have hs8:=hc8.size
 have h8:=h7.chg hc8 (by omega)
 have o8g:=o7g.chg hc8 (.inl (by omega))
 have o8l:=r7.own.chg hc8 (.inr (by omega))
 have hB8:Blk w4.heap.size 64 w8 [.slice a7 (zip L 0 ng).length cap7,v13,.slice none 0 0]:=hB8
 have hgb1:w1.heap.size<g:=by omega
 have hchain:ChgI g (g+1) w3 w8:=ChgI.out ((ChgI.out (hc4.trans hx5.toI) hc6 (by omega)).trans hc7) hc8 (by omega)
 have hP2:Blk w0.heap.size 64 w8 [.slice none 0 0,.slice none 0 0,.slice none 0 0]:=((hB1.ext hx2).ext hx3).keep (hchain.block _ (by omega) (.inl (by omega)))
 have hF2:Blk w1.heap.size 86 w8 [.int .i64 0,.int .i64 0]:=(hB2.ext hx3).keep (hchain.block _ (by omega) (.inl (by omega)))
 have hx08:Ext w0 w8:=(hx1.trans (hx2.trans hx3)).chgI hchain (by omega)
 generalize hi0:2*ng+1+2*nl+1=i0 at *
 refine JOIN.mk (fun us w'=>us=[]∧∃ i left vr hi,RdS W g L v e i left w'∧True∧Ext w0 w'∧w8.heap.size≤w'.heap.size∧Blk w0.heap.size 64 w' [.slice none 0 0,.slice none 0 0,.slice none 0 0]∧Blk w1.heap.size 86 w' [.int .i64 0,.int .i64 0]∧Blk w4.heap.size 64 w' [.slice a7 (zip L 0 ng).length cap7,v13,vr] ∧
   OwnI w3.heap.size w4.heap.size w' (.slice a7 (zip L 0 ng).length cap7) (zip L 0 ng)∧OwnI w6.heap.size w7.heap.size w' v13 (zip L (2*ng+1) nl)∧RowI w8.heap.size hi 69 w' vr (zoD L i0 N)∧w8.heap.size≤hi∧hi≤w'.heap.size) ?_ ?_
 · refine zaE N.length (fun k us w'=>us=[]∧∃ (i left:Nat) (ps:List DProc) (r:List (List Nat)) (vr:Value) (hi:Nat),RdS W g L v e i left w'∧PrcsS L i r∧zoD L i0 N=ps++zoD L i r∧ps.length=k∧k+r.length=N.length∧Ext w0 w'∧w8.heap.size≤w'.heap.size∧Blk w0.heap.size 64 w' [.slice none 0 0,.slice none 0 0,.slice none 0 0]∧Blk w1.heap.size 86 w' [.int .i64 0,.int .i64 0]∧Blk w4.heap.size 64 w' [.slice a7 (zip L 0 ng).length cap7,v13,vr] ∧
     OwnI w3.heap.size w4.heap.size w' (.slice a7 (zip L 0 ng).length cap7) (zip L 0 ng)∧OwnI w6.heap.size w7.heap.size w' v13 (zip L (2*ng+1) nl)∧RowI w8.heap.size hi 69 w' vr ps∧w8.heap.size≤hi∧hi≤w'.heap.size) 0 (Nat.zero_le _)
     ⟨rfl,i0,60,[],N,_,w8.heap.size,h8,hp,rfl,rfl,by simp,hx08,Nat.le_refl _,hP2,hF2,hB8,o8g,o8l,zdo _ _ _ _,Nat.le_refl _,Nat.le_refl _⟩ ?_
   rintro k m u w9 hkm ⟨-,i,left,ps,r,vr,hi,h9,hPr,hsum,hpl,hrl,hx09,hs89,hP9,hF9,hB9,og9,ol9,rp9,hh1,hh2⟩
   have hxd:=zaj w9
   have hsd:=hxd.size
   have hd:=h9.step hxd
   refine NIL.mk rfl ?_
   refine zaa zh5 ?_
   refine zaa zkZ ?_
   refine zaA ty3 hd.blk rfl ?_
   refine zag ?_
   refine br (fun _=>?_) (fun hn=>absurd rfl hn)
   refine NIL.mk rfl ?_
   refine zaa zcY ?_
   refine zaA ty3 hd.blk rfl ?_
   refine NIL.mk rfl ?_
   refine zaa zfG ?_
   refine zaA zl6 hd.blk rfl ?_
   refine zae zqB hd.is_ ?_
   refine zai ?_
   refine br (fun hlt=>?_) (fun hge=>?_)
   case refine_2=>
     have hr0:r=[]:=by
       cases hPr with
       | nil _=>rfl
       | cons h _=>have:=h.lt;omega
     subst hr0
     have hs0:zoD L i0 N=ps:=by rw [hsum];simp [zoD]
     rw [hs0]
     exact ⟨rfl,i,left,vr,hi,hd,trivial,hx09.trans hxd,by omega,hP9.ext hxd,hF9.ext hxd,hB9.ext hxd,og9.ext hxd,ol9.ext hxd,rp9.ext hxd,hh1,by omega⟩
   cases hPr with
   | nil h=>omega
   | cons hc ht=>
     rename_i ks r
     have hcl:=hc.lt
     have hcm:=hc.row.many
     simp only [List.length_cons] at hrl
     have rpd:=rp9.ext hxd
     have hBd:=hB9.ext hxd
     refine JOIN.mk (fun us w'=>us=[]∧Ext (World.drew1 w9) w') ?_ ?_
     · refine (zco hd).mono ?_
       rintro _ wa ⟨hxa,rfl⟩
       refine br (fun _=>?_) (fun hn=>absurd ⟨by omega,hc.word⟩ hn)
       refine zaa zcR ?_
       refine zaA zkD (hBd.ext hxa) rfl ?_
       refine zae u62 (rpd.ext hxa).is ?_
       refine zag ?_
       exact br (fun he=>absurd he (by omega)) (fun _=>⟨rfl,hxa⟩)
     rintro u7 w11 ⟨-,hx11⟩
     have hs11:=hx11.size
     have h11:=hd.step hx11
     refine (zc4 h11 (by omega) hc.word).mono ?_
     rintro _ w12 ⟨hc12,h12⟩
     have hs12:=hc12.size
     refine (zg3 h12 hc.name).mono ?_
     rintro _ w13 ⟨hc13,h13,rfl⟩
     have hs13:=hc13.size
     refine zaH (cells:=#[.string (sgT L (i+1)),.slice none 0 0]) (by kernel_rfl) ?_
     refine zaF zt4 fun w14 hx14 hB14=>?_
     have hs14:=hx14.size
     have hb14:=hB14.lt
     refine zaw (x:=(⟨sgT L (i+1),[]⟩:DProc)) (lo:=0) (hi:=0) zo6 rfl hB14 rfl (ziq hc.size zbc) fun w15 hc15 hB15=>?_
     have hs15:=hc15.size
     have h15:=(h13.step hx14).chg hc15 (by omega)
     refine (zc4 h15 (by omega) hc.open_).mono ?_
     rintro _ w16 ⟨hc16,h16⟩
     have hs16:=hc16.size
     have hB16:=hB15.keep (hc16.block _ hB15.lt (.inr (by omega)))
     refine NIL.mk rfl ?_
     refine zaa zjL ?_
     refine za6 (α:=Int) (lo:=0) (hi:=0) ty3 rfl rfl h16.blk (by simp [zd1]) (zcc (by unfold I64;omega)) fun w17 hc17 hB17=>?_
     have hs17:=hc17.size
     have h17:RdS W g L v e (i+3) 60 w17:=⟨h16.is_,h16.ext.chgI hc17 h16.lo,h16.lo,hB17,h16.many⟩
     have hX17:=hB16.keep (hc17.block _ hB16.lt (.inr (by omega)))
     refine (zmn (room:=6) h17 hc.row hcm (Nat.le_refl _) (by omega)).mono ?_
     rintro v18 w18 ⟨hc18,h18,r18⟩
     have hs18:=hc18.size
     have hX18:=hX17.keep (hc18.block _ hX17.lt (.inr (by omega)))
     refine zaa zm4 ?_
     refine za6 (α:=List DStmt) zfY rfl rfl hX18 (by simp) r18.own fun w19 hc19 hX19=>?_
     have hs19:=hc19.size
     have hX19:Blk w13.heap.size 69 w19 [.string (sgT L (i+1)),v18]:=hX19
     have h19:=h18.chg hc19 (by omega)
     have o19:=r18.own.chg hc19 (.inr (by omega))
     refine (zc4 h19 hcl hc.close).mono ?_
     rintro _ w20 ⟨hc20,h20⟩
     have hs20:=hc20.size
     have hX20:=hX19.keep (hc20.block _ hX19.lt (.inr (by omega)))
     have o20:=o19.chg hc20 (.inr (by omega))
     have hcA:ChgI g (g+1) w9 w20:=(ChgI.out (((ChgI.out ((((hxd.trans hx11).toI.trans hc12).trans hc13).trans hx14.toI) hc15 (by omega)).trans hc16).trans hc17 |>.trans hc18) hc19 (by omega)).trans hc20
     have hsA:=hcA.size
     have hBA:=hB9.keep (hcA.block _ hB9.lt (.inr (by omega)))
     have rpA:=rp9.chg hcA (.inr (by omega))
     refine zaa zcR ?_
     refine zaA zkD hBA rfl ?_
     refine zbP hX20 zo6 ?_
     refine zch (lo2:=w17.heap.size) (hi2:=w18.heap.size) (x:=(⟨sgT L (i+1),zkE L (i+3) ks⟩:DProc)) u62 zo6 z69 zud (by decide) rpA (by omega) (ziq hc.size o20) (by omega) (by omega) (by rw [zam];omega) (by omega) fun v22 w22 hc22 hr22=>?_
     have hs22:=hc22.size
     refine zaa zcR ?_
     have hB22:=hBA.keep (hc22.block _ hBA.lt (.inl (by omega)))
     refine za6 (α:=List DProc) zkD rfl rfl hB22 (by simp) hr22.own fun w23 hc23 hB23=>?_
     have hs23:=hc23.size
     have h23:=(h20.chg hc22 (by omega)).chg hc23 (by omega)
     rw [show i+3+3*ks.length+1=i+4+3*ks.length by omega] at h23
     refine ⟨m-1,by omega,k+1,by omega,rfl,_,_,ps++[⟨sgT L (i+1),zkE L (i+3) ks⟩],r,v22,w22.heap.size,h23,ht,by rw [hsum];simp [zoD],by simp [hpl],by omega,?_,by omega,?_,?_,hB23,?_,?_,hr22.chg hc23 (.inr (by omega)),by omega,by omega⟩
     · exact ((hx09.chgI hcA (by omega)).chgI hc22 (by omega)).chgI hc23 (by omega)
     · exact ((hP9.keep (hcA.block _ hP9.lt (.inl (by omega)))).keep (hc22.block _ (by omega) (.inl (by omega)))).keep (hc23.block _ (by omega) (.inl (by omega)))
     · exact ((hF9.keep (hcA.block _ hF9.lt (.inl (by omega)))).keep (hc22.block _ (by omega) (.inl (by omega)))).keep (hc23.block _ (by omega) (.inl (by omega)))
     · exact ((og9.chg hcA (.inr (by omega))).chg hc22 (.inl (by omega))).chg hc23 (.inl (by omega))
     exact ((ol9.chg hcA (.inr (by omega))).chg hc22 (.inl (by omega))).chg hc23 (.inr (by omega))
 rintro u14 w9 ⟨-,i9,left9,vr,hi,h9,-,hx09,hs89,hP9,hF9,hB9,og9,ol9,rp9,hh1,hh2⟩
 refine NIL.mk rfl ?_
 refine zaa zh5 ?_
 refine zaa zkZ ?_
 refine zaA ty3 h9.blk rfl ?_
 refine zaM ?_
 refine br (fun h=>absurd rfl h) (fun _=>?_)
 refine zbP hB9 zh4 ?_
 refine zaH (cells:=#[.int .i64 0,.int .i64 0]) (by kernel_rfl) ?_
 have ost:OwnI w3.heap.size w9.heap.size w9 (.agg #[.slice a7 (zip L 0 ng).length cap7,v13,vr]) (⟨zip L 0 ng,zip L (2*ng+1) nl,zoD L i0 N⟩:DProg):=
   zgp (l0:=w3.heap.size) (h0:=w4.heap.size) (l1:=w6.heap.size) (h1:=w7.heap.size) (l2:=w8.heap.size) (h2:=hi) og9 ol9 rp9.own (by omega) (by omega) (by omega) (by omega) (by omega) (by omega)
 refine zaw zh4 rfl hP9 rfl ost fun w10 hc10 hB10=>?_
 have hs10:=hc10.size
 have hF10:=hF9.keep (hc10.block _ hF9.lt (.inr (by omega)))
 refine zaw (α:=DArc) (lo:=0) (hi:=0) zr1 rfl hF10 rfl znn fun w11 hc11 hB11=>?_
 have hs11:=hc11.size
 have hP11:=hB10.keep (hc11.block _ hB10.lt (.inl (by omega)))
 refine zbx hP11 zh4 ?_
 refine zbx hB11 zr1 ?_
 exact ⟨(hx09.chgI hc10 (Nat.le_refl _)).chgI hc11 (by omega),_,rfl,((ost.chg hc10 (.inr (by omega))).chg hc11 (.inr (by omega))).mono (by omega) (by omega)⟩
def F248 (a0 a1:Value) (w:World) (R:VW):Prop:=
 LOOPI [1] [a1] w fun u1 w next1=>
 rN 9 3 a0 w fun x7=>
 rC (u1 1) x7 w fun x8=>
 BR x8
 (rD (Instr.index 9 a0 (u1 1)) w fun x12=>
 cL 247 [x12] w fun x13 w=>
 GBR x13
 (rA (u1 1) (iV 1) w fun x22=>
 next1 [x22] w)
 (rD (Instr.index 9 a0 (u1 1)) w fun x17=>
 cL 250 [x17] w fun x18 w=>
 BR x18
 (rA (u1 1) (iV 1) w fun x22=>
 next1 [x22] w)
 (R (u1 1) w))
 (BR undef
 (rA (u1 1) (iV 1) w fun x22=>
 next1 [x22] w)
 (BR undef
 (rA (u1 1) (iV 1) w fun x22=>
 next1 [x22] w)
 (R (u1 1) w))))
 (R (u1 1) w)
def cfg248:Cfg:=⟨extL,[],[(1,8388578,[1])],[],[],[],[]⟩
theorem F248_call {a0 a1:Value} {w:World} {R:VW} (h:F248 a0 a1 w R):cL 248 [a0,a1] w R:=co (g:=cfg248) Tryz.func248 (by kernel_rfl) (by kernel_rfl) (by kernel_rfl) h
open Rep (rep)
theorem zgq {P:Program} {w:World} {t:TypeId} {s:ByteArray} {i j:Nat} {K:Value→Prop} (ht:P.underlying t=some .string) (h1:i≤j) (h2:j≤s.size) (k:K (.string (s.extract i j))):RD P (Instr.sliceAt t (.string s) (some (.int .i64 (i:Int))) (some (.int .i64 (j:Int))) none) w K:=
 zaV (fun w' _=>by
   have h:=run_slice_string (P:=P) (w:=w') t s .i64 .i64 (i:Int) (j:Int) ht (by omega) (by omega) (by omega)
   simp only [Int.toNat_natCast] at h
   simp only [Instr.sliceAt,Sem.run_bind,run_underlying ht,Result.andThen_ok]
   exact h) k
def zfS (s:ByteArray) (i:Nat):Bool:=match (bts s)[i]? with | some b=>zjb b | none=>false
def zit (s:ByteArray) (i:Nat):Bool:=match (bts s)[i]? with | some b=>zm5 b | none=>false
def zde (s:ByteArray) (i:Nat):Int:=match (bts s)[i]? with | some b=>(b.toNat:Int) | none=>-1
theorem zpx {s:ByteArray} {i:Nat} (h:i<s.size):zfS s i=decide ((97:Int)≤(((bts s)[i]'(by rw [zaX];exact h)).toNat:Int)∧(((bts s)[i]'(by rw [zaX];exact h)).toNat:Int)≤122):=by
 unfold zfS;rw [List.getElem?_eq_getElem (by rw [zaX];exact h)];rfl
theorem zpy {s:ByteArray} {i:Nat} (h:i<s.size):zit s i=decide ((48:Int)≤(((bts s)[i]'(by rw [zaX];exact h)).toNat:Int)∧(((bts s)[i]'(by rw [zaX];exact h)).toNat:Int)≤57):=by
 unfold zit;rw [List.getElem?_eq_getElem (by rw [zaX];exact h)];rfl
theorem zno {s:ByteArray} {i:Nat} (h:i<s.size):(((bts s)[i]'(by rw [zaX];exact h)).toNat:Int)=zde s i:=by
 unfold zde;rw [List.getElem?_eq_getElem (by rw [zaX];exact h)]
structure RunTo (s:ByteArray) (i e:Nat):Prop where
 le:i≤e
 lt:e≤s.size
 all:∀ k,i≤k→k<e→(zfS s k || zit s k)=true
 stop:e<s.size→(zfS s e || zit s e)=false
theorem zpz {w:World} {s:ByteArray} {i e:Nat} (h:RunTo s i e) (hm:s.size≤1000000):CALL Tryz.prog 248 [.string s,.int .i64 (i:Int)] w fun r w'=>Ext w w'∧r=.int .i64 (e:Int):=by
 have hle:=h.le
 have hlt:=h.lt
 refine F248_call ?_
 unfold F248
 refine zaE e (fun k us w'=>us=[.int .i64 (k:Int)]∧i≤k∧Ext w w') i hle ⟨rfl,Nat.le_refl _,Ext.refl _⟩ ?_
 rintro k m u w1 hkm ⟨hu,hik,hx1⟩
 simp only [List.map_cons,List.map_nil,List.cons.injEq,and_true] at hu
 rw [hu]
 refine zdx u9 ?_
 refine zai ?_
 refine br (fun hk=>?_) (fun hk=>?_)
 · have hk:k<s.size:=by omega
   have hke:(zfS s k || zit s k)=true→k<e:=fun hh=>by
     rcases Nat.lt_or_ge k e with h1 | h1
     · exact h1
     have:=h.stop (by omega)
     rw [show e=k by omega,hh] at this;cases this
   refine zcF u9 hk ?_
   refine l02Letter_ok.mono ?_
   rintro _ w2 ⟨hx2,rfl⟩
   rw [←zpx hk]
   refine zqt (fun hl=>?_) (fun hl=>?_)
   · have:=hke (by rw [hl];rfl)
     refine zah (by omega) ?_
     exact ⟨m-1,by omega,k+1,by omega,rfl,by omega,hx1.trans hx2⟩
   refine zcF u9 hk ?_
   refine l02Figure_ok.mono ?_
   rintro _ w3 ⟨hx3,rfl⟩
   rw [←zpy hk]
   refine zcM (fun hf=>?_) (fun hf=>?_)
   · have:=hke (by rw [hl,hf];rfl)
     refine zah (by omega) ?_
     exact ⟨m-1,by omega,k+1,by omega,rfl,by omega,hx1.trans (hx2.trans hx3)⟩
   have:k=e:=by
     rcases Nat.lt_or_ge k e with h1 | h1
     · have:=h.all k hik h1
       rw [hl,hf] at this;cases this
     omega
   rw [this]
   exact ⟨hx1.trans (hx2.trans hx3),rfl⟩
 have:k=e:=by omega
 rw [this]
 exact ⟨hx1,rfl⟩
def zbC:List ByteArray:=[.mk #[123],.mk #[125],.mk #[40],.mk #[41],.mk #[59],.mk #[44],.mk #[61],.mk #[61,61],.mk #[60],.mk #[43],.mk #[45],.mk #[42]]
def F252 (a0:Value) (w:World) (R:VW):Prop:=
 rB .eql 9 T0 U0 a0 (Value.string (ByteArray.mk #[123])) w fun x5=>
 BR x5
 (R (Value.bool true) w)
 (rB .eql 9 T0 U0 a0 (Value.string (ByteArray.mk #[125])) w fun x6=>
 BR x6
 (R (Value.bool true) w)
 (rB .eql 9 T0 U0 a0 (Value.string (ByteArray.mk #[40])) w fun x7=>
 BR x7
 (R (Value.bool true) w)
 (rB .eql 9 T0 U0 a0 (Value.string (ByteArray.mk #[41])) w fun x8=>
 BR x8
 (R (Value.bool true) w)
 (rB .eql 9 T0 U0 a0 (Value.string (ByteArray.mk #[59])) w fun x9=>
 BR x9
 (R (Value.bool true) w)
 (rB .eql 9 T0 U0 a0 (Value.string (ByteArray.mk #[44])) w fun x10=>
 BR x10
 (R (Value.bool true) w)
 (rB .eql 9 T0 U0 a0 (Value.string (ByteArray.mk #[61])) w fun x11=>
 BR x11
 (R (Value.bool true) w)
 (rB .eql 9 T0 U0 a0 (Value.string (ByteArray.mk #[61,61])) w fun x12=>
 BR x12
 (R (Value.bool true) w)
 (rB .eql 9 T0 U0 a0 (Value.string (ByteArray.mk #[60])) w fun x13=>
 BR x13
 (R (Value.bool true) w)
 (rB .eql 9 T0 U0 a0 (Value.string (ByteArray.mk #[43])) w fun x14=>
 BR x14
 (R (Value.bool true) w)
 (rB .eql 9 T0 U0 a0 (Value.string (ByteArray.mk #[45])) w fun x15=>
 BR x15
 (R (Value.bool true) w)
 (rB .eql 9 T0 U0 a0 (Value.string (ByteArray.mk #[42])) w fun x16=>
 BR x16
 (R (Value.bool true) w)
 (R (Value.bool false) w))))))))))))
def cfg252:Cfg:=⟨extL,[],[],[],[],[],[]⟩
theorem F252_call {a0:Value} {w:World} {R:VW} (h:F252 a0 w R):cL 252 [a0] w R:=co (g:=cfg252) Tryz.func252 (by kernel_rfl) (by kernel_rfl) (by kernel_rfl) h
theorem isMark_ok {w:World} {s:ByteArray}    :
   CALL Tryz.prog 252 [.string s] w fun r w'=>Ext w w'∧(r=.bool (decide (s∈zbC))):=by
 refine F252_call ?_
 unfold F252
 refine zay ?_
 refine br (fun c1=>?_) (fun c1=>?_)
 · refine ⟨Ext.refl w,?_⟩
   have hm:s∈zbC:=by simp [zbC, *]
   simp [hm]
 refine zay ?_
 refine br (fun c2=>?_) (fun c2=>?_)
 · refine ⟨Ext.refl w,?_⟩
   have hm:s∈zbC:=by simp [zbC, *]
   simp [hm]
 refine zay ?_
 refine br (fun c3=>?_) (fun c3=>?_)
 · refine ⟨Ext.refl w,?_⟩
   have hm:s∈zbC:=by simp [zbC, *]
   simp [hm]
 refine zay ?_
 refine br (fun c4=>?_) (fun c4=>?_)
 · refine ⟨Ext.refl w,?_⟩
   have hm:s∈zbC:=by simp [zbC, *]
   simp [hm]
 refine zay ?_
 refine br (fun c5=>?_) (fun c5=>?_)
 · refine ⟨Ext.refl w,?_⟩
   have hm:s∈zbC:=by simp [zbC, *]
   simp [hm]
 refine zay ?_
 refine br (fun c6=>?_) (fun c6=>?_)
 · refine ⟨Ext.refl w,?_⟩
   have hm:s∈zbC:=by simp [zbC, *]
   simp [hm]
 refine zay ?_
 refine br (fun c7=>?_) (fun c7=>?_)
 · refine ⟨Ext.refl w,?_⟩
   have hm:s∈zbC:=by simp [zbC, *]
   simp [hm]
 refine zay ?_
 refine br (fun c8=>?_) (fun c8=>?_)
 · refine ⟨Ext.refl w,?_⟩
   have hm:s∈zbC:=by simp [zbC, *]
   simp [hm]
 refine zay ?_
 refine br (fun c9=>?_) (fun c9=>?_)
 · refine ⟨Ext.refl w,?_⟩
   have hm:s∈zbC:=by simp [zbC, *]
   simp [hm]
 refine zay ?_
 refine br (fun c10=>?_) (fun c10=>?_)
 · refine ⟨Ext.refl w,?_⟩
   have hm:s∈zbC:=by simp [zbC, *]
   simp [hm]
 refine zay ?_
 refine br (fun c11=>?_) (fun c11=>?_)
 · refine ⟨Ext.refl w,?_⟩
   have hm:s∈zbC:=by simp [zbC, *]
   simp [hm]
 refine zay ?_
 refine br (fun c12=>?_) (fun c12=>?_)
 · refine ⟨Ext.refl w,?_⟩
   have hm:s∈zbC:=by simp [zbC, *]
   simp [hm]
 refine ⟨Ext.refl w,?_⟩
 have hm:s∉zbC:=by simp [zbC, *]
 simp [hm]
inductive LexS (s:ByteArray):Nat→List DSign→Prop
 | done {i:Nat} (h:s.size=i):LexS s i []
 | blank {i:Nat} {l:List DSign} (h:i<s.size) (hb:zde s i=32) (t:LexS s (i+1) l):LexS s i l
 | word {i e:Nat} {l:List DSign} (h:i<s.size) (hl:zfS s i=true) (hr:RunTo s i e) (he:i<e) (hw:zfK (s.extract i e)=true) (t:LexS s e l):LexS s i (⟨1,s.extract i e,i⟩ :: l)
 | mark {i:Nat} {l:List DSign} (h:i<s.size) (hb:zde s i≠32∧zde s i≠9∧zde s i≠10∧zde s i≠13) (hl:zfS s i=false) (hf:zit s i=false) (h2:i+2≤s.size→s.extract i (i+2)≠ByteArray.mk #[61,61]) (hm:s.extract i (i+1)∈zbC) (t:LexS s (i+1) l):LexS s i (⟨3,s.extract i (i+1),i⟩ :: l)
end Go.Proofs.YtdmailcgaekimaaGreat
namespace Go.Sh
open Rep (rep)
open Go.Sort Go.Proofs
section
variable {α:Type} [Inhabited α] {enc:α→List Value} {k:Nat}
theorem znp (hk:∀ x,(enc x).length=k):∀ (l:List α),(l.flatMap enc).length=l.length*k
 | []=>by simp
 | x :: l=>by rw [List.flatMap_cons,List.length_append,hk,znp hk l,List.length_cons,Nat.add_mul];omega
theorem znq (hk:∀ x,(enc x).length=k) (h0:0<k):∀ {l:List α} {t:Nat},t<l.length*k→(l.flatMap enc)[t]?=some ((enc l[t / k]!)[t%k]!)
 | [],t,h=>by simp at h
 | x :: l,t,h=>by
   rw [List.flatMap_cons]
   rcases Nat.lt_or_ge t k with ht | ht
   · rw [List.getElem?_append_left (by rw [hk];exact ht),Nat.div_eq_of_lt ht,Nat.mod_eq_of_lt ht]
     have:t<(enc x).length:=by rw [hk];exact ht
     rw [List.getElem?_eq_getElem this]
     simp [this]
   rw [List.getElem?_append_right (by rw [hk];exact ht),hk]
   have h':t-k<l.length*k:=by rw [List.length_cons,Nat.add_mul] at h;omega
   rw [znq hk h0 h']
   have e1:t / k=(t-k) / k+1:=by
     have:t=(t-k)+k:=by omega
     conv=>lhs;rw [this]
     rw [Nat.add_div_right _ h0]
   have e2:t%k=(t-k)%k:=by
     have:t=(t-k)+k:=by omega
     conv=>lhs;rw [this]
     rw [Nat.add_mod_right]
   rw [e1,e2]
   simp
theorem zlh (hk:∀ x,(enc x).length=k) (h0:0<k) {l:List α} {t:Nat} (h:t<l.length*k):(l.flatMap enc)[t]?=some (flatK enc k l.toArray)[t]!:=by
 rw [znq hk h0 h,get_flatK enc k l.toArray t (by simpa using h)]
 simp
end
section
variable {α:Type} [Rep α] [Flat α] [Inhabited α] {w:World} {enc:α→List Value} {b o n cap:Nat} {l:List α}
theorem zli (henc:∀ {F w cs} {x:α},rep F w cs x→cs=enc x):∀ {l:List α} {F:List Nat} {xs:List Value},Cells F w xs l→xs=l.flatMap enc
 | [],_,_,⟨_,h⟩=>by simp [h]
 | y :: ys,_,_,⟨F1,F2,c1,c2,_,h,h1,h2⟩=>by rw [h,henc h1,zli henc h2,List.flatMap_cons]
theorem zlj {w':World} (henc:∀ {F w cs} {x:α},rep F w cs x→cs=enc x):∀ {l:List α},(∀ x∈l,∃ F cs,rep F w cs x)→Cells [] w' (l.flatMap enc) l
 | [],_=>⟨rfl,rfl⟩
 | y :: ys,h=>by
   obtain ⟨F,cs,hr⟩:=h y (by simp)
   have hF:=Flat.flat hr
   subst hF
   have hc:=henc hr
   subst hc
   exact ⟨[],[],enc y,ys.flatMap enc,rfl,rfl,Rep.keep hr (by simp),zlj henc fun x hx=>h x (by simp [hx])⟩
theorem zlk:∀ {l:List α} {F:List Nat} {xs:List Value},Cells F w xs l→∀ x∈l,∃ F cs,rep F w cs x
 | y :: ys,_,_,⟨F1,F2,c1,c2,_,h,h1,h2⟩,x,hx=>by
   rcases List.mem_cons.1 hx with rfl | hx
   · exact ⟨_,_,h1⟩
   exact zlk h2 x hx
theorem zll (henc:∀ {F w cs} {x:α},rep F w cs x→cs=enc x) (hk:∀ x,(enc x).length=Rep.size α) (hw:∃ c e,w.heap[b]?=some (.cells c e (0,0))) {xs:List Value} (hc:Cells [] w xs l) (hr:w.rangeAt b o xs):HoldsK enc (Rep.size α) w b o l.toArray:=by
 intro j hj
 rw [size_flatK] at hj
 have hj':j<l.length*Rep.size α:=by simpa using hj
 have:=zli henc hc
 subst this
 have h1:=hr j _ (zlh hk Rep.pos hj')
 refine ⟨h1,?_⟩
 obtain ⟨c,e,he⟩:=hw
 simp [World.frozen?,he]
theorem zmq (henc:∀ {F w cs} {x:α},rep F w cs x→cs=enc x) (hk:∀ x,(enc x).length=Rep.size α) {d':Array α} {m:Nat} {os:Array Obj} {w3:World} (hw3:w3=sortWorldK enc (Rep.size α) w b o m d' os) (hw:∃ c e,w.heap[b]?=some (.cells c e (0,0))) {xs:List Value} (hc:Cells [] w xs l) (hr:w.rangeAt b o xs)
   (h1:l.length≤cap) (h2:cap≤maxLen) (hl:d'.size=l.length) (hp:∀ x∈d'.toList,x∈l):Chg [b] w w3∧Mine [b] w3 (.slice (some ⟨b,o,none⟩) l.length cap) d'.toList:=by
 subst hw3
 have hH:=zll henc hk hw hc hr
 obtain ⟨c,e,he⟩:=hw
 have hb:b<w.heap.size:=(Array.getElem?_eq_some_iff.1 he).1
 have hsz:(putRowK enc (Rep.size α) (Sort.ahead w m) b o d').heap.size=w.heap.size:=by simp [putRowK,putRow,mapBlock,Sort.ahead]
 have hblk:∀ i,i<w.heap.size→i≠b→(sortWorldK enc (Rep.size α) w b o m d' os).heap[i]?=w.heap[i]?:=fun i hi hne=>by
   unfold sortWorldK
   rw [heap_grow_old _ _ (by rw [hsz];exact hi)]
   simp [putRowK,putRow,mapBlock,Sort.ahead,Array.getElem?_modify,hne.symm]
 have hbb:∃ c',(sortWorldK enc (Rep.size α) w b o m d' os).heap[b]?=some (.cells c' e (0,0)):=by
   unfold sortWorldK
   rw [heap_grow_old _ _ (by rw [hsz];exact hb)]
   exact ⟨_,by simp [putRowK,putRow,mapBlock,Sort.ahead,Array.getElem?_modify,he,onCells];rfl⟩
 have hsz2:w.heap.size≤(sortWorldK enc (Rep.size α) w b o m d' os).heap.size:=by
   unfold sortWorldK grow
   rw [Array.size_append,hsz];omega
 refine ⟨⟨rfl,rfl,rfl,hsz2,fun i hi hm=>hblk i hi fun e=>hm (by simp [e])⟩,⟨⟨_,⟨some ⟨b,o,none⟩,cap,[],d'.toList.flatMap enc,rfl,by simpa [hl] using h1,h2,?_,.inr ⟨b,o,rfl,rfl,?_,by omega⟩⟩,by simp [mkv,Rep.agg,hl]⟩,by simp,fun i hi=>?_⟩⟩
 · exact zlj (w:=w) henc fun x hx=>zlk hc x (hp x hx)
 · intro j v hv
   have hj:j<d'.toList.length*Rep.size α:=by
     have:=(List.getElem?_eq_some_iff.1 hv).1
     rwa [znp hk] at this
   rw [zlh hk Rep.pos hj,Option.some.injEq] at hv
   have hj2:j<(flatK enc (Rep.size α) d').size:=by rw [size_flatK];simpa using hj
   have:=cell?_putRow id (Sort.ahead w m) b o (flatK enc (Rep.size α) l.toArray) (flatK enc (Rep.size α) d') hH (by simp [hl]) j hj2
   unfold sortWorldK
   rw [cell?_grow _ _ _ (by rw [hsz];exact hb)]
   show (putRow id (Sort.ahead w m) b o (flatK enc (Rep.size α) d')).cell? _=_
   rw [this,←hv]
   simp
 simp only [List.mem_cons,List.not_mem_nil,or_false] at hi
 subst hi
 obtain ⟨c',hc'⟩:=hbb
 exact ⟨c',e,hc'⟩
end
end Go.Sh
namespace Go.Proofs.YtdmailcgaekimaaGreat
open Go Go.Sh Go.Proofs
open Rep (rep)
def F313 (a0:Value) (w:World) (R:VW):Prop:=
 rB .neq 3 T0 T0 a0 a0 w fun x5=>
 R x5 w
def cfg313:Cfg:=⟨extL,[],[],[],[],[],[]⟩
theorem F313_call {a0:Value} {w:World} {R:VW} (h:F313 a0 w R):cL 313 [a0] w R:=co (g:=cfg313) Tryz.func313 (by kernel_rfl) (by kernel_rfl) (by kernel_rfl) h
def F266 (a0 a1:Value) (w:World) (R:VW):Prop:=
 cL 313 [a0] w fun x8 w=>
 cL 313 [a1] w fun x10 w=>
 BR x8
 (BR x10
 (R (iV 0) w)
 (R (iV (-1)) w))
 (BR x10
 (R (iV 1) w)
 (rC a0 a1 w fun x16=>
 BR x16
 (R (iV (-1)) w)
 (rB .gtr 3 T0 T0 a0 a1 w fun x19=>
 BR x19
 (R (iV 1) w)
 (R (iV 0) w))))
def cfg266:Cfg:=⟨extL,[],[],[],[],[],[]⟩
theorem F266_call {a0 a1:Value} {w:World} {R:VW} (h:F266 a0 a1 w R):cL 266 [a0,a1] w R:=co (g:=cfg266) Tryz.func266 (by kernel_rfl) (by kernel_rfl) (by kernel_rfl) h
def F219 (a0 a1:Value) (w:World) (R:VW):Prop:=
 rN 25 3 a0 w fun x10=>
 LOOPI [11] [(iV 0)] w fun u2 w next2=>
 rC (u2 11) x10 w fun x12=>
 BR x12
 (rX 25 a0 (u2 11) w fun x14=>
 rL 3 x14 w fun x15=>
 rN 25 3 a1 w fun x18=>
 rB .geq 3 T0 T0 (u2 11) x18 w fun x19=>
 BR x19
 (R (iV 1) w)
 (rX 25 a1 (u2 11) w fun x22=>
 rL 3 x22 w fun x23=>
 cL 266 [x15,x23] w fun x26 w=>
 rB .neq 3 T0 U0 x26 (iV 0) w fun x28=>
 BR x28
 (R x26 w)
 (rA (u2 11) (iV 1) w fun x30=>
 next2 [x30] w)))
 (rN 25 3 a0 w fun x32=>
 rN 25 3 a1 w fun x34=>
 rC x32 x34 w fun x35=>
 BR x35
 (R (iV (-1)) w)
 (R (iV 0) w))
def cfg219:Cfg:=⟨extL,[],[(2,2147482096,[11])],[],[],[],[]⟩
theorem F219_call {a0 a1:Value} {w:World} {R:VW} (h:F219 a0 a1 w R):cL 219 [a0,a1] w R:=co (g:=cfg219) Tryz.func219 (by kernel_rfl) (by kernel_rfl) (by kernel_rfl) h
def F202 (a0 a1:Value) (w:World) (R:VW):Prop:=
 oP (Instr.box 43 a0) w fun x2 w=>
 oP (Instr.box 43 a1) w fun x3 w=>
 rF 43 x2 0 w fun x5=>
 rL 3 x5 w fun x6=>
 rF 43 x2 1 w fun x7=>
 rL 3 x7 w fun x8=>
 rF 43 x2 2 w fun x9=>
 rL 3 x9 w fun x10=>
 oP (Instr.buildSlice 25 3 #[(0,x6),(1,x8),(2,x10)]) w fun x11 w=>
 rF 43 x3 0 w fun x12=>
 rL 3 x12 w fun x13=>
 rF 43 x3 1 w fun x14=>
 rL 3 x14 w fun x15=>
 rF 43 x3 2 w fun x16=>
 rL 3 x16 w fun x17=>
 oP (Instr.buildSlice 25 3 #[(0,x13),(1,x15),(2,x17)]) w fun x18 w=>
 cL 219 [x11,x18] w fun x19 w=>
 R x19 w
def cfg202:Cfg:=⟨extL,[],[],[],[],[],[]⟩
theorem F202_call {a0 a1:Value} {w:World} {R:VW} (h:F202 a0 a1 w R):cL 202 [a0,a1] w R:=co (g:=cfg202) Tryz.func202 (by kernel_rfl) (by kernel_rfl) (by kernel_rfl) h
theorem zui:zb9 Tryz.prog 3=some [.int .i64 0]:=by kernel_rfl
def znr (x y:Int):Int:=if x<y then -1 else if y<x then 1 else 0
def zqQ:List Int→List Int→Int
 | [],[]=>0
 | [],_ :: _=>-1
 | _ :: _,[]=>1
 | x :: l,y :: m=>if znr x y≠0 then znr x y else zqQ l m
theorem isNaN_ok {w:World} {x:Int}:CALL Tryz.prog 313 [.int .i64 x] w fun r w'=>w'=w∧r=.bool false:=by
 refine F313_call ?_
 unfold F313
 exact zaM ⟨rfl,by simp⟩
theorem compareI_ok {w:World} {x y:Int}:CALL Tryz.prog 266 [.int .i64 x,.int .i64 y] w fun r w'=>w'=w∧r=.int .i64 (znr x y):=by
 refine F266_call ?_
 unfold F266
 refine isNaN_ok.mono ?_
 rintro _ _ ⟨rfl,rfl⟩
 refine isNaN_ok.mono ?_
 rintro _ _ ⟨rfl,rfl⟩
 refine zcM (fun h=>by cases h) (fun _=>?_)
 refine zcM (fun h=>by cases h) (fun _=>?_)
 refine zai ?_
 refine br (fun h=>⟨rfl,by rw [znr,if_pos h]⟩) (fun h=>?_)
 refine zb0 ?_
 refine br (fun h2=>⟨rfl,by rw [znr,if_neg h,if_pos h2]⟩) (fun h2=>⟨rfl,by rw [znr,if_neg h,if_neg h2]⟩)
theorem ziu {P:Program} {w:World} {K:Value→Prop} {t ty e:TypeId} {a:Option Addr} {n c:Nat} (ht:P.underlying t=some (.slice e)) (k:K (.int .i64 (n:Int))) :
   RD P (Builtin.len_ #[t] ty [Value.slice a n c].toArray) w K:=zaV (fun w' _=>by simp [Builtin.len_,run_underlying ht];rfl) k
def vI (l:List Int):List Value:=l.map fun x=>.int .i64 x
theorem zrv {l:List Int} {k:Nat} (h:k<l.length):(vI l)[k]?=some (.int .i64 l[k]):=by simp [vI,h]
theorem zpA {l m:List Int} {k:Nat} (h1:k<l.length) (h2:k<m.length):zqQ (l.drop k) (m.drop k)=if znr l[k] m[k]≠0 then znr l[k] m[k] else zqQ (l.drop (k+1)) (m.drop (k+1)):=by
 rw [List.drop_eq_getElem_cons h1,List.drop_eq_getElem_cons h2,zqQ]
theorem zmr {w:World} {g1 g2 e1 e2 c1 c2:Nat} {l m:List Int} (h1:Blk g1 e1 w (vI l)) (h2:Blk g2 e2 w (vI m)) (hl:l.length≤1000) (hm:m.length≤1000) :
   CALL Tryz.prog 219 [.slice (some ⟨g1,0,none⟩) l.length c1,.slice (some ⟨g2,0,none⟩) m.length c2] w fun r w'=>w'=w∧r=.int .i64 (zqQ l m):=by
 refine F219_call ?_
 unfold F219
 refine ziu u25 ?_
 refine zaE l.length (fun k us w'=>us=[.int .i64 (k:Int)]∧w'=w∧k≤m.length∧zqQ l m=zqQ (l.drop k) (m.drop k)) 0 (Nat.zero_le _) ⟨rfl,rfl,Nat.zero_le _,rfl⟩ ?_
 rintro k mk u w2 hkm ⟨hu,rfl,hkl,hc⟩
 simp only [List.map_cons,List.map_nil,List.cons.injEq,and_true] at hu
 rw [hu]
 refine zai ?_
 refine br (fun hlt=>?_) (fun hge=>?_)
 · have hk1:k<l.length:=by omega
   refine zhY u25 ty3 hk1 ?_
   rw [Nat.mul_one]
   refine zaA ty3 h1 (zrv hk1) ?_
   refine ziu u25 ?_
   refine zb1 ?_
   refine br (fun hge=>?_) (fun hlt2=>?_)
   · refine ⟨rfl,?_⟩
     have e0:m.drop k=[]:=List.drop_eq_nil_of_le (by omega)
     rw [hc,List.drop_eq_getElem_cons hk1,e0];rfl
   have hk2:k<m.length:=by omega
   refine zhY u25 ty3 hk2 ?_
   rw [Nat.mul_one]
   refine zaA ty3 h2 (zrv hk2) ?_
   refine compareI_ok.mono ?_
   rintro _ _ ⟨rfl,rfl⟩
   have hst:=zpA hk1 hk2
   refine zaM ?_
   refine br (fun hne=>?_) (fun heq=>?_)
   · exact ⟨rfl,by rw [hc,hst,if_pos hne]⟩
   refine zah (by omega) ?_
   exact ⟨mk-1,by omega,k+1,by omega,rfl,rfl,by omega,by rw [hc,hst,if_neg heq]⟩
 have hk:k=l.length:=by omega
 subst hk
 refine ziu u25 ?_
 refine ziu u25 ?_
 refine zai ?_
 rw [List.drop_length] at hc
 refine br (fun hlt2=>⟨rfl,?_⟩) (fun hge2=>⟨rfl,?_⟩)
 · rw [hc,List.drop_eq_getElem_cons (by omega)];rfl
 rw [hc,List.drop_eq_nil_of_le (by omega)];rfl
section
variable {P:Program} {w:World} {K:Value→World→Prop}
theorem zms {t:TypeId} {cs:Array Value} (k:K (.pointer (some ⟨w.heap.size,0,none⟩)) (w.alloc (.cells cs t))):OP P (Instr.box t (.agg cs)) w K:=
 ⟨_,w.alloc (.cells cs t),by simp [Instr.box,newVar,newRow,Value.cells],k⟩
theorem zjo {t e:TypeId} {by_:Nat} {x y z:Int} (ht:P.underlying t=some (.slice e)) (he:tyI P e=some (1,by_,false)) (hz:zb9 P e=some [.int .i64 0])
   (k:K (.slice (some ⟨w.heap.size,0,none⟩) 3 3) (w.alloc (.cells (vI [x,y,z]).toArray e))):OP P (Instr.buildSlice t 3 #[(0,.int .i64 x),(1,.int .i64 y),(2,.int .i64 z)]) w K:=by
 unfold zb9 at hz
 cases hi:P.info? e with
 | none=>simp [hi] at hz
 | some i=>
   simp only [hi] at hz
   obtain ⟨v,hv,hvc⟩:=Option.map_eq_some_iff.1 hz
   refine ⟨_,w.alloc (.cells (vI [x,y,z]).toArray e),?_,k⟩
   have hvc':v.cells=#[.int .i64 0]:=Array.ext' (by simpa using hvc)
   have e1:∀ n:Int,(Value.int .i64 n).cells=#[.int .i64 n]:=fun _=>rfl
   simp only [Instr.buildSlice,Sem.run_bind,run_underlying ht,Result.andThen_ok,zaD he]
   have e2:Array.range 3=#[0,1,2]:=by decide
   simp [zeroValue,typeInfo,hi,hv,newRow,Instr.fill,hvc',vI,e1,e2]
end
theorem zsk {w:World} {cs:List Value} {e:Nat}:Blk w.heap.size e (w.alloc (.cells cs.toArray e)) cs:=heap_alloc_new w _
def i3 (a b c:Int):Array Value:=#[.int .i64 a,.int .i64 b,.int .i64 c]
def zmt (w w':World):Prop:=∃ q os,w'=Go.Sort.grow (w.drewN q) os
theorem zlm {w:World} (o1 o2 o3 o4:Obj):zmt w ((((w.alloc o1).alloc o2).alloc o3).alloc o4):=
 ⟨0,#[o1]++#[o2]++#[o3]++#[o4],by
   rw [Go.Sort.alloc_eq_grow,Go.Sort.alloc_eq_grow,Go.Sort.alloc_eq_grow,Go.Sort.alloc_eq_grow,Go.Sort.grow_grow,Go.Sort.grow_grow,Go.Sort.grow_grow];rfl⟩
def ziv (x:DRace):List Int:=[x.g,x.a,x.b]
def zqR (x y:DRace):Int:=zqQ (ziv x) (ziv y)
theorem ziw {w:World} {x y:DRace}:CALL Tryz.prog 202 [.agg (i3 x.g x.a x.b),.agg (i3 y.g y.a y.b)] w fun r w'=>r=.int .i64 (zqR x y)∧zmt w w':=by
 refine F202_call ?_
 unfold F202
 refine zms ?_
 have hB1:Blk w.heap.size 43 (w.alloc (.cells (i3 x.g x.a x.b) 43)) (vI (ziv x)):=heap_alloc_new w _
 refine zms ?_
 generalize hw1:w.alloc (.cells (i3 x.g x.a x.b) 43)=w1 at *
 have hB2:Blk w1.heap.size 43 (w1.alloc (.cells (i3 y.g y.a y.b) 43)) (vI (ziv y)):=heap_alloc_new w1 _
 have hx2:=zaN w1 (.cells (i3 y.g y.a y.b) 43)
 generalize hw2:w1.alloc (.cells (i3 y.g y.a y.b) 43)=w2 at *
 have hB12:=hB1.ext hx2
 refine zaa zi7 ?_
 refine zaA ty3 hB12 rfl ?_
 refine zaa zfy ?_
 refine zaA ty3 hB12 rfl ?_
 refine zaa zi8 ?_
 refine zaA ty3 hB12 rfl ?_
 refine zjo u25 ty3 zui ?_
 have hx3:=zaN w2 (.cells (vI [x.g,x.a,x.b]).toArray 3)
 have hB3:Blk w2.heap.size 3 (w2.alloc (.cells (vI [x.g,x.a,x.b]).toArray 3)) (vI (ziv x)):=heap_alloc_new w2 _
 generalize hw3:w2.alloc (.cells (vI [x.g,x.a,x.b]).toArray 3)=w3 at *
 have hB23:=hB2.ext hx3
 refine zaa zi7 ?_
 refine zaA ty3 hB23 rfl ?_
 refine zaa zfy ?_
 refine zaA ty3 hB23 rfl ?_
 refine zaa zi8 ?_
 refine zaA ty3 hB23 rfl ?_
 refine zjo u25 ty3 zui ?_
 have hx4:=zaN w3 (.cells (vI [y.g,y.a,y.b]).toArray 3)
 have hB4:Blk w3.heap.size 3 (w3.alloc (.cells (vI [y.g,y.a,y.b]).toArray 3)) (vI (ziv y)):=heap_alloc_new w3 _
 have hg:zmt w (w3.alloc (.cells (vI [y.g,y.a,y.b]).toArray 3)):=by rw [←hw3,←hw2,←hw1];exact zlm _ _ _ _
 refine (zmr (l:=ziv x) (m:=ziv y) (hB3.ext hx4) hB4 (by simp [ziv]) (by simp [ziv])).mono ?_
 rintro _ _ ⟨rfl,rfl⟩
 exact ⟨rfl,hg⟩
def ltR (x y:DRace):Prop:=x.g<y.g∨(x.g=y.g∧(x.a<y.a∨(x.a=y.a∧x.b<y.b)))
theorem zmu {x y:Int} (h:x<y):znr x y=-1:=by rw [znr,if_pos h]
theorem zmv {x y:Int} (h:y<x):znr x y=1:=by rw [znr,if_neg (by omega),if_pos h]
theorem zmw {x y:Int} (h:x=y):znr x y=0:=by rw [znr,if_neg (by omega),if_neg (by omega)]
theorem zsl {x y:DRace}:zqR x y<0↔ltR x y:=by
 unfold zqR ziv ltR
 simp only [zqQ]
 rcases Int.lt_trichotomy x.g y.g with h | h | h
 · rw [zmu h];simp;omega
 · rw [zmw h]
   rcases Int.lt_trichotomy x.a y.a with h2 | h2 | h2
   · rw [zmu h2];simp;omega
   · rw [zmw h2]
     rcases Int.lt_trichotomy x.b y.b with h3 | h3 | h3
     · rw [zmu h3];simp;omega
     · rw [zmw h3];simp;omega
     rw [zmv h3];simp;omega
   rw [zmv h2];simp;omega
 rw [zmv h];simp;omega
def F183 (a0:Value) (w:World) (R:VW):Prop:=
 oP (Instr.alloc 86 true (.tuple #[])) w fun x3 w=>
 rN 9 3 a0 w fun x11=>
 rB .gtr 3 T0 U0 x11 (iV 6000) w fun x12=>
 BR x12
 (oP (Instr.buildSlice 127 0 #[]) w fun x13 w=>
 rD (Instr.build 86 #[(0,(iV 1))]) w fun x14=>
 oS 86 x3 x14 w fun w=>
 rD (zar 86 x3) w fun r3=>R (Value.tuple #[x13,r3]) w)
 (oP (Instr.buildSlice 127 0 #[]) w fun x15 w=>
 LOOPI [4,5] [x15,(iV 0)] w fun u5 w next5=>
 rN 9 3 a0 w fun x18=>
 rC (u5 5) x18 w fun x19=>
 BR x19
 (rD (Instr.index 9 a0 (u5 5)) w fun x22=>
 rB .eql 5 T0 U0 x22 (Value.int .u8 32) w fun x24=>
 BR x24
 (rA (u5 5) (iV 1) w fun x38=>
 next5 [(u5 4),x38] w)
 (rB .eql 5 T0 U0 x22 (Value.int .u8 9) w fun x27=>
 BR x27
 (rA (u5 5) (iV 1) w fun x38=>
 next5 [(u5 4),x38] w)
 (rB .eql 5 T0 U0 x22 (Value.int .u8 10) w fun x31=>
 BR x31
 (rA (u5 5) (iV 1) w fun x38=>
 next5 [(u5 4),x38] w)
 (rB .eql 5 T0 U0 x22 (Value.int .u8 13) w fun x35=>
 BR x35
 (rA (u5 5) (iV 1) w fun x38=>
 next5 [(u5 4),x38] w)
 (rA (u5 5) (iV 1) w fun x40=>
 rD (Instr.build 198 #[(0,(iV 3)),(2,(u5 5))]) w fun x42=>
 oP (Instr.alloc 198 true (.tuple #[])) w fun x8 w=>
 oS 198 x8 x42 w fun w=>
 JOIN [7,9] (fun J23=>
 cL 247 [x22] w fun x65 w=>
 BR x65
 (cL 248 [a0,(u5 5)] w fun x68 w=>
 rF 198 x8 0 w fun x69=>
 oS 3 x69 (iV 1) w fun w=>
 rD (Instr.sliceAt 9 a0 (some (u5 5)) (some x68) none) w fun x73=>
 cL 249 [x73] w fun x74 w=>
 J23 [x68,x74] w)
 (cL 250 [x22] w fun x77 w=>
 BR x77
 (cL 248 [a0,(u5 5)] w fun x80 w=>
 rF 198 x8 0 w fun x81=>
 oS 3 x81 (iV 2) w fun w=>
 rD (Instr.sliceAt 9 a0 (some (u5 5)) (some x80) none) w fun x86=>
 cL 251 [x86] w fun x87 w=>
 rE x87 0 w fun x88=>
 rE x87 1 w fun x89=>
 J23 [x80,x89] w)
 (rA (u5 5) (iV 2) w fun x44=>
 rN 9 3 a0 w fun x46=>
 rB .leq 3 T0 T0 x44 x46 w fun x47=>
 BR x47
 (rA (u5 5) (iV 2) w fun x52=>
 rD (Instr.sliceAt 9 a0 (some (u5 5)) (some x52) none) w fun x53=>
 rB .eql 9 T0 U0 x53 (Value.string (ByteArray.mk #[61,61])) w fun x54=>
 BR x54
 (rA (u5 5) (iV 2) w fun x57=>
 rD (Instr.sliceAt 9 a0 (some (u5 5)) (some x57) none) w fun x61=>
 cL 252 [x61] w fun x62 w=>
 J23 [x57,x62] w)
 (rD (Instr.sliceAt 9 a0 (some (u5 5)) (some x40) none) w fun x61=>
 cL 252 [x61] w fun x62 w=>
 J23 [x40,x62] w))
 (rD (Instr.sliceAt 9 a0 (some (u5 5)) (some x40) none) w fun x61=>
 cL 252 [x61] w fun x62 w=>
 J23 [x40,x62] w)))) (fun u23 w=>
 rD (Op.unary .not (u23 9)) w fun x91=>
 BR x91
 (oP (Instr.buildSlice 127 0 #[]) w fun x92 w=>
 rD (Instr.build 86 #[(0,(iV 2)),(1,(u5 5))]) w fun x94=>
 oS 86 x3 x94 w fun w=>
 rD (zar 86 x3) w fun r3=>R (Value.tuple #[x92,r3]) w)
 (rD (Instr.sliceAt 9 a0 (some (u5 5)) (some (u23 7)) none) w fun x98=>
 rF 198 x8 1 w fun x99=>
 oS 9 x99 x98 w fun w=>
 rL 198 x8 w fun x101=>
 oP (Instr.buildSlice 127 1 #[(0,x101)]) w fun x102 w=>
 oP (Builtin.append_ #[127,127] 127 [(u5 4),x102].toArray) w fun x103 w=>
 next5 [x103,(u23 7)] w)))))))
 (rD (Instr.build 86 #[]) w fun x106=>
 oS 86 x3 x106 w fun w=>
 rD (zar 86 x3) w fun r3=>R (Value.tuple #[(u5 4),r3]) w))
def cfg183:Cfg:=⟨extL,[(23,1237940039285371478806102656,[7,9])],[(5,40564819207303340847894502507508,[4,5])],[],[],[],[]⟩
theorem F183_call {a0:Value} {w:World} {R:VW} (h:F183 a0 w R):cL 183 [a0] w R:=co (g:=cfg183) Tryz.func183 (by kernel_rfl) (by kernel_rfl) (by kernel_rfl) h
def F105 (a0:Value) (w:World) (R:VW):Prop:=
 cL 183 [a0] w fun x7 w=>
 rE x7 0 w fun x8=>
 rE x7 1 w fun x9=>
 oP (Instr.alloc 86 true (.tuple #[])) w fun x4 w=>
 oS 86 x4 x9 w fun w=>
 rN 9 3 a0 w fun x12=>
 rL 86 x4 w fun x13=>
 rD (Instr.build 129 #[(0,x8),(2,x12),(3,x13),(4,(iV 60))]) w fun x14=>
 oP (Instr.box 129 x14) w fun x15 w=>
 R x15 w
def cfg105:Cfg:=⟨extL,[],[],[],[],[],[]⟩
theorem F105_call {a0:Value} {w:World} {R:VW} (h:F105 a0 w R):cL 105 [a0] w R:=co (g:=cfg105) Tryz.func105 (by kernel_rfl) (by kernel_rfl) (by kernel_rfl) h
open Rep (rep)
theorem zux:zb9 Tryz.prog 198=some [.int .i64 0,.string nO,.int .i64 0]:=by kernel_rfl
theorem LexS.len {s:ByteArray} {i:Nat} {l:List DSign} (h:LexS s i l):l.length+i≤s.size:=by
 induction h with
 | done h=>simp;omega
 | blank h _ _ ih=>omega
 | word _ _ _ he _ _ ih=>simp only [List.length_cons];omega
 | mark _ _ _ _ _ _ _ ih=>simp only [List.length_cons];omega
theorem zns {w:World} {lo hi:Nat} {k:Int} {t:ByteArray} {a:Int} (hk:I64 k) (ht:t.size≤maxLen) (ha:I64 a):OwnI lo hi w (.agg #[.int .i64 k,.string t,.int .i64 a]) (⟨k,t,a⟩:DSign):=⟨[],zqL (x:=⟨k,t,a⟩) hk ht ha,by simp⟩
theorem zpB {s:ByteArray} {i:Nat} (h:zfS s i=true):97≤zde s i:=by
 unfold zfS at h
 unfold zde
 split at h
 · rename_i b hb
   simp only [zjb,decide_eq_true_eq] at h
   exact h.1
 cases h
theorem ztr {w:World} {s:ByteArray} {L:List DSign} (h:LexS s 0 L) (hm:s.size≤6000) :
   CALL Tryz.prog 183 [.string s] w fun r w'=>Ext w w'∧∃ a,r=.tuple #[a,.agg #[.int .i64 0,.int .i64 0]]∧Own w.heap.size w' a L:=by
 have hLl:=h.len
 refine F183_call ?_
 unfold F183
 refine zaF ztK fun w1 hx1 hB1=>?_
 have hs1:=hx1.size
 have hb1:=hB1.lt
 refine zdx u9 ?_
 refine zb0 ?_
 refine br (fun h=>by omega) (fun _=>?_)
 refine zaK (α:=DSign) zqB zk0 fun a2 w2 hx2 hr2=>?_
 have hs2:=hx2.size
 refine zaE s.size (fun k us w'=>∃ (out:Value) (dn l:List DSign),us=[out,.int .i64 (k:Int)]∧k≤s.size∧LexS s k l∧L=dn++l∧Ext w1 w'∧RowI w1.heap.size w'.heap.size 198 w' out dn) 0 (Nat.zero_le _) ⟨_,[],L,rfl,Nat.zero_le _,h,rfl,hx2,zcg _ _ _ _ _⟩ ?_
 rintro k m u w3 hkm ⟨out,dn,l,hu,hkl,hl,hL,hx3,hr3⟩
 obtain ⟨hu1,hu2⟩:=zfZ hu
 rw [hu1,hu2]
 have hs3:=hx3.size
 refine zdx u9 ?_
 refine zai ?_
 refine br (fun hlt=>?_) (fun hge=>?_)
 case refine_2=>
   have hl0:l=[]:=by
     cases hl with
     | done _=>rfl
     | blank h _ _=>omega
     | word h _ _ _ _ _=>omega
     | mark h _ _ _ _ _ _=>omega
   subst hl0
   rw [List.append_nil] at hL
   subst hL
   refine zaH (cells:=#[.int .i64 0,.int .i64 0]) (by kernel_rfl) ?_
   refine zaw (α:=DArc) (lo:=0) (hi:=0) zr1 rfl (hB1.ext hx3) rfl znn fun w4 hc4 hB4=>?_
   refine zbx hB4 zr1 ?_
   exact ⟨(hx1.trans hx3).chgI hc4 (Nat.le_refl _),_,rfl,(hr3.own.chg hc4 (.inr (by omega))).own.mono (by omega)⟩
 have hk:k<s.size:=by omega
 refine zcF u9 hk ?_
 rw [zno hk]
 have hskip:∀ {t:List DSign},LexS s (k+1) t→L=dn++t→RD Tryz.prog (bin .add 3 (.tmp 0) (.const undef) (.int .i64 (k:Int)) (Value.int .i64 1)) w3 fun x38=>∃ m',m'<m∧∃ k',k'+m'=s.size∧∃ (out':Value) (dn l:List DSign),[out,x38]=[out',.int .i64 (k':Int)]∧k'≤s.size∧LexS s k' l∧L=dn++l∧Ext w1 w3∧RowI w1.heap.size w3.heap.size 198 w3 out' dn:=fun {t} ht hLt=>by
   refine zah (by omega) ?_
   exact ⟨m-1,by omega,k+1,by omega,out,dn,t,rfl,by omega,ht,hLt,hx3,hr3⟩
 by_cases hb32:zde s k=32
 · rw [hb32]
   refine zag ?_
   refine br (fun _=>?_) (fun h=>absurd rfl h)
   cases hl with
   | done h=>omega
   | blank _ _ t=>exact hskip t hL
   | word _ hl _ _ _ _=>have:=zpB hl;omega
   | mark _ hb _ _ _ _ _=>exact absurd hb32 hb.1
 have hnb:zde s k≠9∧zde s k≠10∧zde s k≠13:=by
   cases hl with
   | done h=>omega
   | blank _ hb _=>exact absurd hb hb32
   | word _ hl _ _ _ _=>have:=zpB hl;omega
   | mark _ hb _ _ _ _ _=>exact hb.2
 refine zag ?_
 refine br (fun h=>absurd h hb32) (fun _=>?_)
 refine zag ?_
 refine br (fun h=>absurd h hnb.1) (fun _=>?_)
 refine zag ?_
 refine br (fun h=>absurd h hnb.2.1) (fun _=>?_)
 refine zag ?_
 refine br (fun h=>absurd h hnb.2.2) (fun _=>?_)
 refine zah (by omega) ?_
 refine zaH (cells:=#[.int .i64 3,.string nO,.int .i64 (k:Int)]) (by kernel_rfl) ?_
 refine zaF zux fun w4 hx4 hB4=>?_
 have hs4:=hx4.size
 have hb4:=hB4.lt
 refine zaw (α:=DSign) (lo:=0) (hi:=0) zk0 rfl hB4 rfl (zns (by unfold I64;omega) ze3 (by unfold I64;omega)) fun w5 hc5 hB5=>?_
 have hs5:=hc5.size
 have hx35:Ext w3 w5:=hx4.chgI hc5 (Nat.le_refl _)
 -- the sign, its end, and what lies behind it
 obtain ⟨e,kd,r,hke,hes,hsz,hLr,hlr,hkd⟩:∃ (e:Nat) (kd:Int) (r:List DSign),k<e∧e≤s.size∧(s.extract k e).size≤maxLen∧L=(dn++[⟨kd,s.extract k e,(k:Int)⟩])++r∧LexS s e r∧((zfS s k=true∧kd=1∧RunTo s k e∧zfK (s.extract k e)=true)∨(zfS s k=false∧kd=3∧e=k+1∧zit s k=false∧(k+2≤s.size→s.extract k (k+2)≠ByteArray.mk #[61,61])∧s.extract k (k+1)∈zbC)):=by
   have hsx:∀ e,(s.extract k e).size≤maxLen:=fun e=>by rw [ByteArray.size_extract,zam];omega
   cases hl with
   | done h=>omega
   | blank _ hb _=>exact absurd hb hb32
   | word _ hl hr he hw t=>exact ⟨_,1,_,he,hr.lt,hsx _,by rw [hL];simp,t,.inl ⟨hl,rfl,hr,hw⟩⟩
   | mark _ _ hl hf h2 hm t=>exact ⟨k+1,3,_,by omega,by omega,hsx _,by rw [hL];simp,t,.inr ⟨hl,rfl,rfl,hf,h2,hm⟩⟩
 refine JOIN.mk (fun us w'=>us=[.int .i64 (e:Int),.bool true]∧Ext w3 w'∧Blk w3.heap.size 198 w' [.int .i64 kd,.string nO,.int .i64 (k:Int)]) ?_ ?_
 · rw [←zno hk]
   refine l02Letter_ok.mono ?_
   rintro _ w6 ⟨hx6,rfl⟩
   rw [←zpx hk]
   rcases hkd with ⟨hlt',rfl,hrun,hwd⟩ | ⟨hlf,rfl,rfl,hff,h2,hmk⟩
   · rw [hlt']
     refine zcM (fun _=>?_) (fun h=>by cases h)
     refine (zpz hrun (by omega)).mono ?_
     rintro _ w7 ⟨hx7,rfl⟩
     refine zaa zo8 ?_
     refine za6 (α:=Int) (lo:=0) (hi:=0) ty3 rfl rfl (hB5.ext (hx6.trans hx7)) (by simp) (zcc (by unfold I64;omega)) fun w8 hc8 hB8=>?_
     have hx38:Ext w3 w8:=(hx35.trans (hx6.trans hx7)).chgI hc8 (Nat.le_refl _)
     refine zgq u9 (by omega) hes ?_
     refine l02Word_ok.mono ?_
     rintro _ w9 ⟨hx9,rfl⟩
     rw [hwd]
     exact ⟨rfl,hx38.trans hx9,hB8.ext hx9⟩
   rw [hlf]
   refine zcM (fun h=>by cases h) (fun _=>?_)
   refine l02Figure_ok.mono ?_
   rintro _ w7 ⟨hx7,rfl⟩
   rw [←zpy hk,hff]
   refine zcM (fun h=>by cases h) (fun _=>?_)
   have hx57:=hx6.trans hx7
   have hend:∀ w8,Ext w7 w8→RD Tryz.prog (Instr.sliceAt 9 (.string s) (some (.int .i64 (k:Int))) (some (.int .i64 ((k+1:Nat):Int))) none) w8 fun x61=>CALL Tryz.prog 252 [x61] w8 fun x62 w=>[Value.int .i64 ((k+1:Nat):Int),x62]=[.int .i64 ((k+1:Nat):Int),.bool true]∧Ext w3 w∧Blk w3.heap.size 198 w [.int .i64 3,.string nO,.int .i64 (k:Int)]:=fun w8 hx8=>by
     refine zgq u9 (by omega) (by omega) ?_
     refine isMark_ok.mono ?_
     rintro _ w9 ⟨hx9,rfl⟩
     rw [decide_eq_true hmk]
     exact ⟨rfl,hx35.trans (hx57.trans (hx8.trans hx9)),hB5.ext (hx57.trans (hx8.trans hx9))⟩
   refine zcp (by unfold I64;omega) ?_
   refine zdx u9 ?_
   refine zcO ?_
   refine br (fun hle=>?_) (fun _=>hend w7 (Ext.refl _))
   refine zcp (by unfold I64;omega) ?_
   rw [show (k:Int)+2=((k+2:Nat):Int) by omega]
   refine zgq u9 (by omega) (by omega) ?_
   refine zay ?_
   exact br (fun h=>absurd h (h2 (by omega))) (fun _=>hend w7 (Ext.refl _))
 rintro uj w6 ⟨hu3,hx36,hB6⟩
 obtain ⟨hu4,hu5⟩:=zfZ hu3
 rw [hu4,hu5]
 have hs6:=hx36.size
 have hb6:=hB6.lt
 refine zbs ?_
 refine zcM (fun h=>by cases h) (fun _=>?_)
 refine zgq u9 (by omega) hes ?_
 refine zaa zjP ?_
 refine za6 (α:=ByteArray) (lo:=0) (hi:=0) ty9 rfl rfl hB6 (by simp) (zhC hsz) fun w7 hc7 hB7=>?_
 have hs7:=hc7.size
 have hx37:Ext w3 w7:=hx36.chgI hc7 (Nat.le_refl _)
 refine zbP hB7 zk0 ?_
 have hdl:dn.length≤6000:=by have:=congrArg List.length hLr;simp at this;omega
 refine zch (lo2:=w7.heap.size) (hi2:=w7.heap.size) (x:=(⟨kd,s.extract k e,(k:Int)⟩:DSign)) zqB zk0 zuv ztU (by decide) ((hr3.ext hx37).mono (Nat.le_refl _) hx37.size) (by omega) (zns (by unfold I64;rcases hkd with h | h<;>omega) hsz (by unfold I64;omega)) (Nat.le_refl _) (by omega) (by rw [zam];omega) (by omega) fun v8 w8 hc8 hr8=>?_
 exact ⟨s.size-e,by omega,e,by omega,v8,dn++[⟨kd,s.extract k e,(k:Int)⟩],r,rfl,hes,hlr,hLr,(hx3.trans hx37).chgI hc8 (Nat.le_refl _),hr8⟩
theorem zpC {w:World} {s:ByteArray} {L:List DSign} (h:LexS s 0 L) (hm:s.size≤6000) :
   CALL Tryz.prog 105 [.string s] w fun r w'=>Ext w w'∧∃ g v e W,r=.pointer (some ⟨g,0,none⟩)∧w.heap.size≤g∧g<w'.heap.size∧RdS W g L v e 0 60 w':=by
 have hLl:=h.len
 refine F105_call ?_
 unfold F105
 refine (ztr h hm).mono ?_
 rintro _ w1 ⟨hx1,a,rfl,oa⟩
 refine za7 rfl ?_
 refine za7 rfl ?_
 have hs1:=hx1.size
 refine zaF ztK fun w2 hx2 hB2=>?_
 have hs2:=hx2.size
 refine zaw (α:=DArc) (lo:=0) (hi:=0) zr1 rfl hB2 rfl znn fun w3 hc3 hB3=>?_
 have hs3:=hc3.size
 have hx13:Ext w1 w3:=hx2.chgI hc3 (Nat.le_refl _)
 refine zdx u9 ?_
 refine zbP hB3 zr1 ?_
 obtain ⟨av,cap,rfl⟩:=zbQ oa.toI
 refine zaH (cells:=(zd1 (.slice av L.length cap) s.size 0 60).toArray) (by kernel_rfl) ?_
 refine zms ?_
 have hxb:=zaN w3 (.cells (zd1 (.slice av L.length cap) s.size 0 60).toArray 129)
 have hB:Blk w3.heap.size 129 (w3.alloc (.cells (zd1 (.slice av L.length cap) s.size 0 60).toArray 129)) (zd1 (.slice av L.length cap) s.size 0 60):=zsk
 exact ⟨(hx1.trans hx13).trans hxb,w3.heap.size,_,_,w1,rfl,by omega,hB.lt,oa.is,hx13.trans hxb,by omega,hB,by omega⟩
def zqS (s:ByteArray):Nat→Nat→Nat
 | 0,i=>i
 | n+1,i=>if zfS s i || zit s i then zqS s n (i+1) else i
theorem zt5 {s:ByteArray} {i:Nat} (h:(zfS s i || zit s i)=true):i<s.size:=by
 rcases Nat.lt_or_ge i s.size with h1 | h1
 · exact h1
 have:(bts s)[i]?=none:=List.getElem?_eq_none (by rw [zaX];exact h1)
 unfold zfS zit at h
 rw [this] at h
 cases h
theorem zpD {s:ByteArray}:∀ {n i:Nat},i≤s.size→s.size≤i+n→RunTo s i (zqS s n i)
 | 0,i,h1,h2=>⟨Nat.le_refl _,h1,fun k a b=>by simp only [zqS] at b;omega,fun h=>by simp only [zqS] at h;omega⟩
 | n+1,i,h1,h2=>by
   unfold zqS
   split
   · next hc=>
     have hl:=zt5 hc
     have:=zpD (s:=s) (n:=n) (i:=i+1) (by omega) (by omega)
     refine ⟨by have:=this.le;omega,this.lt,fun k a b=>?_,this.stop⟩
     rcases Nat.lt_or_ge i k with h3 | h3
     · exact this.all k h3 b
     rw [show k=i by omega];exact hc
   next hc=>exact ⟨Nat.le_refl _,h1,fun k a b=>by omega,fun _=>by simpa using hc⟩
def zqj (s:ByteArray):Nat→Nat→Option (List DSign)
 | 0,i=>if s.size=i then some [] else none
 | n+1,i=>
   if s.size=i then some []
   else if s.size<i then none
   else if zde s i=32 then zqj s n (i+1)
   else if zfS s i=true then
     (if i<zqS s s.size i∧zfK (s.extract i (zqS s s.size i))=true then (zqj s n (zqS s s.size i)).map (⟨1,s.extract i (zqS s s.size i),i⟩ :: ·) else none)
   else if (zde s i≠9∧zde s i≠10∧zde s i≠13)∧zit s i=false∧(i+2≤s.size→s.extract i (i+2)≠ByteArray.mk #[61,61])∧s.extract i (i+1)∈zbC then
     (zqj s n (i+1)).map (⟨3,s.extract i (i+1),i⟩ :: ·)
   else none
theorem zkd {s:ByteArray}:∀ {n i:Nat} {l:List DSign},zqj s n i=some l→LexS s i l
 | 0,i,l,h=>by
   unfold zqj at h
   split at h
   · next hc=>cases h;exact .done hc
   cases h
 | n+1,i,l,h=>by
   unfold zqj at h
   split at h
   · next hc=>cases h;exact .done hc
   split at h
   · cases h
   next h1 h2=>
   have hlt:i<s.size:=by omega
   split at h
   · next hb=>exact .blank hlt hb (zkd h)
   next hb=>
   split at h
   · next hl=>
     split at h
     · next hw=>
       obtain ⟨t,ht,rfl⟩:=Option.map_eq_some_iff.1 h
       exact .word hlt hl (zpD (by omega) (by omega)) hw.1 hw.2 (zkd ht)
     cases h
   next hl=>
   split at h
   · next hm=>
     obtain ⟨t,ht,rfl⟩:=Option.map_eq_some_iff.1 h
     exact .mark hlt ⟨hb,hm.1⟩ (by simpa using hl) hm.2.1 hm.2.2.1 hm.2.2.2 (zkd ht)
   cases h
def zuj (L:List DSign) (i k:Nat):Bool:=decide (4≤k∧k≤7∧i+2<L.length∧some (sgT L i)=wordsS[k]?∧named L (i+1)=true∧sgT L (i+2)=ByteArray.mk #[59]∧(sgT L (i+1)).size≤maxLen)
theorem zsm {L:List DSign} {i k:Nat} (h:zuj L i k=true):OneS L i k:=by
 obtain ⟨a,b,c,d,e,f,g⟩:=of_decide_eq_true h
 exact ⟨a,b,c,d,e,f,g⟩
def zuk (L:List DSign) (i:Nat) (ks:List Nat):Bool:=decide ((∀ j (hj:j<ks.length),zuj L (i+3*j) ks[j]=true)∧(∀ j,j<ks.length→named L (i+3*j)=false∧zjl L (i+3*j)=true)∧zjl L (i+3*ks.length)=false∧ks.length≤60)
theorem zsn {L:List DSign} {i:Nat} {ks:List Nat} (h:zuk L i ks=true):RowS L i ks:=by
 obtain ⟨a,b,c,d⟩:=of_decide_eq_true h
 exact ⟨fun j hj=>zsm (a j hj),fun j hj=>(b j hj).1,fun j hj=>(b j hj).2,c,d⟩
def zt6 (L:List DSign) (i n:Nat) (t:ByteArray):Bool:=decide (sgT L i=t∧i+2*n<L.length∧1≤n∧n≤6∧(∀ j,j<n→named L (i+1+2*j)=true∧(sgT L (i+1+2*j)).size≤maxLen)∧sgT L (i+1)≠ByteArray.mk #[59]∧(∀ j,j<n→1≤j→sgT L (i+2*j)=ByteArray.mk #[44])∧sgT L (i+2*n)=ByteArray.mk #[59])
theorem zpE {L:List DSign} {i n:Nat} {t:ByteArray} (h:zt6 L i n t=true):LstS L i n t:=by
 obtain ⟨a,b,c,d,e,f,g,k⟩:=of_decide_eq_true h
 exact ⟨a,b,c,d,fun j hj=>(e j hj).1,fun j hj=>(e j hj).2,f,fun j h1 h2=>g j h2 h1,k⟩
def zqT (L:List DSign):Nat→List (List Nat)→Bool
 | i,[]=>decide (L.length≤i)
 | i,ks :: r=>decide (sgT L i=ByteArray.mk #[112,114,111,99]∧named L (i+1)=true∧(sgT L (i+1)).size≤maxLen∧sgT L (i+2)=ByteArray.mk #[123]∧zuk L (i+3) ks=true∧sgT L (i+3+3*ks.length)=ByteArray.mk #[125]∧i+3+3*ks.length<L.length)&&zqT L (i+4+3*ks.length) r
theorem znt {L:List DSign}:∀ {N:List (List Nat)} {i:Nat},zqT L i N=true→PrcsS L i N
 | [],i,h=>.nil (of_decide_eq_true h)
 | ks :: r,i,h=>by
   unfold zqT at h
   rw [Bool.and_eq_true] at h
   obtain ⟨a,b,c,d,e,f,g⟩:=of_decide_eq_true h.1
   exact .cons ⟨a,b,c,d,zsn e,f,g⟩ (znt h.2)
def ze6 (s:ByteArray):List DSign:=(zqj s s.size 0).getD []
def znu (s:ByteArray) (ng nl:Nat) (N:List (List Nat)):DProg:=⟨zip (ze6 s) 0 ng,zip (ze6 s) (2*ng+1) nl,zoD (ze6 s) (2*ng+1+2*nl+1) N⟩
def zpF (s:ByteArray) (ng nl:Nat) (N:List (List Nat)):Bool:=(zqj s s.size 0).isSome&&decide (s.size≤6000)&&zt6 (ze6 s) 0 ng (ByteArray.mk #[103,108,111,98,97,108,115])&&zt6 (ze6 s) (2*ng+1) nl (ByteArray.mk #[108,111,99,107,115])&&zqT (ze6 s) (2*ng+1+2*nl+1) N&&decide (N.length≤8)
theorem zfT {w0:World} {s:ByteArray} {ng nl:Nat} {N:List (List Nat)} (h:zpF s ng nl N=true) :
   CALL Tryz.prog 53 [.string s] w0 fun r w'=>Ext w0 w'∧∃ a,r=.tuple #[a,.agg #[.int .i64 0,.int .i64 0]]∧OwnI w0.heap.size w'.heap.size w' a (znu s ng nl N):=by
 simp only [zpF,Bool.and_eq_true] at h
 obtain ⟨⟨⟨⟨⟨h1,h2⟩,h3⟩,h4⟩,h5⟩,h6⟩:=h
 have hL:zqj s s.size 0=some (ze6 s):=by
   unfold ze6
   cases e:zqj s s.size 0 with
   | none=>rw [e] at h1;cases h1
   | some l=>rfl
 exact zmp (fun w=>zpC (zkd hL) (of_decide_eq_true h2)) (zpE h3) (zpE h4) (znt h5) (of_decide_eq_true h6)
def zs0:ByteArray:=ByteArray.mk #[103,108,111,98,97,108,115,32,120,59,32,108,111,99,107,115,32,97,59,32,112,114,111,99,32,109,97,105,110,32,123,32,108,111,99,107,32,97,59,32,108,111,99,107,32,97,59,32,125]
theorem zso:zpF zs0 1 1 [[6,6]]=true:=by decide +kernel
def zs1:ByteArray:=ByteArray.mk #[103,108,111,98,97,108,115,32,120,59,32,108,111,99,107,115,32,97,44,32,98,59,32,112,114,111,99,32,109,97,105,110,32,123,32,115,112,97,119,110,32,112,59,32,108,111,99,107,32,97,59,32,108,111,99,107,32,98,59,32,117,110,108,111,99,107,32,98,59,32,117,110,108,111,99,107,32,97,59,32,125,32,112,114,111,99,32,112,32,123,32,108,111,99,107,32,98,59,32,108,111,99,107,32,97,59,32,125]
theorem zsp:zpF zs1 1 2 [[5,6,6,7,7],[6,6]]=true:=by decide +kernel
def zts:ByteArray:=ByteArray.mk #[103,108,111,98,97,108,115,32,120,59,32,108,111,99,107,115,32,97,44,32,98,44,32,109,59,32,112,114,111,99,32,109,97,105,110,32,123,32,115,112,97,119,110,32,112,59,32,115,112,97,119,110,32,113,59,32,108,111,99,107,32,97,59,32,108,111,99,107,32,98,59,32,125,32,112,114,111,99,32,112,32,123,32,108,111,99,107,32,98,59,32,108,111,99,107,32,109,59,32,125,32,112,114,111,99,32,113,32,123,32,108,111,99,107,32,109,59,32,108,111,99,107,32,97,59,32,125]
theorem zsq:zpF zts 1 3 [[5,5,6,6],[6,6],[6,6]]=true:=by decide +kernel
def F193 (a0:Value) (w:World) (R:VW):Prop:=
 oP (Instr.box 78 a0) w fun x1 w=>
 oP (Instr.alloc 78 true (.tuple #[])) w fun x2 w=>
 rF 78 x1 0 w fun x5=>
 rL 3 x5 w fun x6=>
 rF 78 x1 1 w fun x7=>
 rL 3 x7 w fun x8=>
 rF 78 x1 2 w fun x9=>
 rL 9 x9 w fun x10=>
 rD (Instr.build 78 #[(0,x6),(1,x8),(2,x10)]) w fun x11=>
 oP (Instr.alloc 78 true (.tuple #[])) w fun x3 w=>
 oS 78 x3 x11 w fun w=>
 LOOPI [4] [(iV 0)] w fun u3 w next3=>
 rF 78 x1 3 w fun x13=>
 rL 76 x13 w fun x14=>
 rN 76 3 x14 w fun x15=>
 rC (u3 4) x15 w fun x16=>
 BR x16
 ((fun w=>rF 78 x3 3 w fun x19=>
 rL 76 x19 w fun x20=>
 rF 78 x1 3 w fun x21=>
 rL 76 x21 w fun x22=>
 rX 76 x22 (u3 4) w fun x24=>
 rL 78 x24 w fun x25=>
 (fun w_=>cL 193 [x25] w_ fun x26 w=>
 Ext w_ w ∧
 (fun w_=>oP (Instr.buildSlice 76 1 #[(0,x26)]) w_ fun x27 w=>
 Ext w_ w ∧
 (oP (Builtin.append_ #[76,76] 76 [x20,x27].toArray) w fun x28 w=>
 rF 78 x3 3 w fun x29=>
 oS 76 x29 x28 w fun w=>
 rA (u3 4) (iV 1) w fun x18=>
 next3 [x18] w)) w) w) (World.drew1 w))
 (rL 78 x3 w fun x30=>
 oS 78 x2 x30 w fun w=>
 rD (zar 78 x2) w fun r2=>R r2 w)
def cfg193:Cfg:=⟨extL,[],[(3,1073737744,[4])],[(5,[0,1,2,3,4,5,6,7,8,9,10,11],384)],[],[],[]⟩
theorem F193_call {a0:Value} {w:World} {R:VW} (h:F193 a0 w R):cL 193 [a0] w R:=co (g:=cfg193) Tryz.func193 (by kernel_rfl) (by kernel_rfl) (by kernel_rfl) h
def zpG (t:DTerm):Prop:=∀ {w W:World} {v:Value},Is W v t→Ext W w→wT t≤1048576 →
 CALL Tryz.prog 193 [v] w fun r w'=>Ext w w'∧Own w.heap.size w' r t
theorem zln {t:DTerm} (ih:∀ x∈t.kids,zpG x):zpG t:=by
 intro w W v h e hw
 have hkl:t.kids.length≤1048576:=by have:=zr4 t;have:=zpb t.kids;omega
 have hkw:∀ x∈t.kids,wT x≤1048576:=fun x hx=>by have:=zr4 t;have:=zpb t.kids;have:=ztj wT hx;omega
 refine F193_call ?_
 unfold F193
 refine zcG h e fun w1 hx1 hA=>?_
 have hs1:=hx1.size
 refine zaF zsX fun w2 hx2 hB2=>?_
 have hg2:=hB2.lt
 have hs2:=hx2.size
 refine zaa zd7 ?_
 refine zac ty3 (zbu hA) hx2 fun hI6=>?_
 refine zaa zeQ ?_
 refine zac ty3 (zbE hA) hx2 fun hI8=>?_
 refine zaa zdO ?_
 refine zao ty9 (zbj hA) hx2 fun hS10=>?_
 refine zaH (cells:=#[.int .i64 t.kind,.int .i64 t.num,.string t.name,.slice none 0 0]) (by kernel_rfl) ?_
 refine zaF zsX fun w3 hx3 hB3=>?_
 have hg3:=hB3.lt
 have hs3:=hx3.size
 refine zaw (x:=DTerm.mk t.kind t.num t.name []) (lo:=w3.heap.size) (hi:=w3.heap.size) zcs rfl hB3 rfl (zd6 hI6 hI8 hS10 zbc) fun w4 hc4 hB4=>?_
 have hs4:=hc4.size
 have hx14:Ext w1 w4:=Ext.chgI (hx2.trans hx3) hc4 (by omega)
 refine zaE t.kids.length (fun k us w'=>us=[.int .i64 (k:Int)]∧∃ v1 hi,hi≤w'.heap.size∧w4.heap.size≤hi∧Ext w1 w'∧Blk w2.heap.size 78 w' [.int .i64 t.kind,.int .i64 t.num,.string t.name,v1] ∧
     RowI w4.heap.size hi 78 w' v1 (t.kids.take k)∧Blk w1.heap.size 78 w' [.int .i64 0,.int .i64 0,.string ByteArray.empty,.slice none 0 0]∧k≤t.kids.length) 0 (Nat.zero_le _)
     ⟨rfl,.slice none 0 0,w4.heap.size,Nat.le_refl _,Nat.le_refl _,hx14,hB4,zdo _ _ _ _,(hB2.ext hx3).chgI hc4 (by omega),Nat.zero_le _⟩ ?_
 rintro k m u w5 hkm ⟨hu,v1,hi,hhi,hlo,hx5,hB5,r5,hB25,hkl5⟩
 simp only [List.map_cons,List.map_nil,List.cons.injEq,and_true] at hu
 rw [hu]
 have hs5:=hx5.size
 refine zaa zbL ?_
 refine zab zgI (zaJ hA) hx5 fun v14 h14=>?_
 refine zae u76 h14 ?_
 refine zai ?_
 refine br (fun hlt=>?_) (fun hge=>?_)
 · have hk:k<t.kids.length:=by omega
   have hx6:=zaj w5
   have hs6:=hx6.size
   have hx56:=hx5.trans hx6
   refine zaa zbL ?_
   refine zaA zgI (hB5.ext hx6) rfl ?_
   refine zaa zbL ?_
   refine zab zgI (zaJ hA) hx56 fun v22 h22=>?_
   refine zad u76 zcs h22 hk fun b24 o24 hA24=>?_
   refine zab zcs hA24 hx56 fun v25 h25=>?_
   refine (ih _ (List.getElem_mem hk) h25 hx56 (hkw _ (List.getElem_mem hk))).mono ?_
   rintro r26 w7 ⟨hx7,o26⟩
   have o26:=o26.toI
   have hs7:=hx7.size
   refine ⟨hx7,?_⟩
   have hx57:=hx6.trans hx7
   refine zjR (α:=DTerm) u76 zcs z78 zus (by decide) (r5.ext hx57) (by omega) o26 (by omega) (by omega) (by rw [zam,List.length_take];omega) (by rw [List.length_take];omega) fun v28 w8 hc8 r8=>?_
   have hs8:=hc8.size
   refine zaa zbL ?_
   refine za6 (α:=List DTerm) zgI rfl rfl ((hB5.ext hx57).chgI hc8 (by omega)) (by simp) r8.own fun w9 hc9 hB9=>?_
   have hs9:=hc9.size
   refine zah (by omega) ?_
   refine ⟨m-1,by omega,k+1,by omega,rfl,v28,w8.heap.size,by omega,by omega,Ext.chgI (Ext.chgI (hx5.trans hx57) hc8 (by omega)) hc9 (by omega),hB9,?_,((hB25.ext hx57).chgI hc8 (by omega)).chgI hc9 (by omega),by omega⟩
   have:=r8.chg hc9 (by omega)
   rwa [←List.take_succ_eq_append_getElem hk] at this
 have hk:t.kids.length≤k:=by omega
 refine zbP hB5 zcs ?_
 have hI:=(show I64 t.kind from hI6)
 have ost:OwnI w4.heap.size hi w5 (.agg #[.int .i64 t.kind,.int .i64 t.num,.string t.name,v1]) t:=by
   have:=zd6 hI6 hI8 hS10 r5.own
   rwa [List.take_of_length_le hk,DTerm.eta] at this
 refine zaw zcs rfl hB25 rfl ost fun w6 hc6 hB6=>?_
 refine zbx hB6 zcs ?_
 exact ⟨Ext.chgI (hx1.trans hx5) hc6 (by omega),(ost.chg hc6 (by omega)).own.mono (by omega)⟩
theorem zg7 (t:DTerm):zpG t:=DTerm.ind (fun t ih {_ _ _}=>zln ih) t
end Go.Proofs.YtdmailcgaekimaaGreat
