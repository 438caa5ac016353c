/-
  Parts of the proof, put together by program.
-/
import Derived.Test.YtbnjpfjjmhodnaaGreatPFnRaces3
set_option linter.unusedVariables false
set_option linter.unusedSimpArgs false
set_option linter.unusedSectionVars false
namespace Go.Proofs.YtbnjpfjjmhodnaaGreat
open Go Go.Sh Go.Proofs
open Rep (rep)
section
variable {bs:List UInt8} {n:Nat} {s:Cur}
theorem zdS (h:zeH bs n s<11):zby bs n s=zfA bs (zeH bs n s) (zao bs 14 s):=by
 cases n with
 | zero=>rw [zby]
 | succ n=>rw [zby,if_pos h]
theorem zfD (h:¬zeH bs n s<11):0<n:=by
 cases n with
 | zero=>have:=zty bs s;omega
 | succ n=>omega
theorem zhx (h:¬zeH bs n s<11):zby bs n s=zjV bs (zby bs (n-1)) (zeH bs n s) (zao bs 14 s):=by
 have:=zfD h
 obtain ⟨m,rfl⟩:∃ m,n=m+1:=⟨n-1,by omega⟩
 rw [zby,if_neg h];rfl
theorem zsa {f:Cur→DStmt×Cur} {bs:List UInt8} {k:Nat} {s:Cur} (hk:k≤3) (h:(k:Int)<zbs bs 4 s) :
   zdf f bs (4-k) k s=((f (zao bs 4 s)).1 :: (zdf f bs (4-(k+1)) (k+1) (f (zao bs 4 s)).2).1,(zdf f bs (4-(k+1)) (k+1) (f (zao bs 4 s)).2).2):=by
 rw [show 4-k=(4-(k+1))+1 by omega,zdf,if_pos h]
theorem zpe {f:Cur→DStmt×Cur} {bs:List UInt8} {k:Nat} {s:Cur} (hk:k≤3) (h:¬(k:Int)<zbs bs 4 s):zdf f bs (4-k) k s=([],zao bs 4 s):=by
 rw [show 4-k=(4-(k+1))+1 by omega,zdf,if_neg h]
end
def zoe (n:Nat):Prop:=∀ {W w:World} {g:Nat} {bs:List UInt8} {s:Cur} {d:Int},CurAt W g bs s w→d=(n:Int) →
 CALL Tryz.prog 258 [.pointer (some ⟨g,0,none⟩),.int .i64 d] w fun r w'=>ChgI g (g+1) w w'∧CurAt W g bs (zby bs n s).2 w'∧OwnI w.heap.size w'.heap.size w' r (zby bs n s).1
def zqw (n:Nat):Prop:=∀ {W w:World} {g:Nat} {bs:List UInt8} {s:Cur} {d:Int},CurAt W g bs s w→d=(n:Int) →
 CALL Tryz.prog 198 [.pointer (some ⟨g,0,none⟩),.int .i64 d] w fun r w'=>ChgI g (g+1) w w'∧CurAt W g bs (za2 bs n s).2 w'∧RowI w.heap.size w'.heap.size 209 w' r (za2 bs n s).1
def F198 (a0 a1:Value) (w:World) (R:VW):Prop:=
 oP (Instr.buildSlice 162 0 #[]) w fun x7 w=>
 LOOPI [5,6] [x7,(iV 0)] w fun u3 w next3=>
 cL 71 [a0,(iV 4)] w fun x10 w=>
 rC (u3 6) x10 w fun x11=>
 BR x11
 (cL 258 [a0,a1] w fun x17 w=>
 oP (Instr.buildSlice 162 1 #[(0,x17)]) w fun x18 w=>
 oP (Builtin.append_ #[162,162] 162 [(u3 5),x18].toArray) w fun x19 w=>
 rA (u3 6) (iV 1) w fun x13=>
 next3 [x19,x13] w)
 (R (u3 5) w)
def cfg198:Cfg:=⟨extL,[],[(3,1048416,[5,6])],[],[],[],[]⟩
theorem F198_call {a0 a1:Value} {w:World} {R:VW} (h:F198 a0 a1 w R):cL 198 [a0,a1] w R:=co (g:=cfg198) Tryz.func198 (by kernel_rfl) (by kernel_rfl) (by kernel_rfl) h
theorem zh1 {w:World} {W:World} {g:Nat} {bs:List UInt8} {s:Cur} {d:Int} {n:Nat} (hC:CurAt W g bs s w) (hd:d=(n:Int)) (ih:zoe n) :
   CALL Tryz.prog 198 [.pointer (some ⟨g,0,none⟩),.int .i64 d] w fun r w'=>ChgI g (g+1) w w'∧(CurAt W g bs (za2 bs n s).2 w'∧RowI w.heap.size w'.heap.size 209 w' r (za2 bs n s).1):=by
 refine F198_call ?_
 unfold F198
 have hgl:=hC.lt
 refine zaP (α:=DStmt) zeE zbC fun v7 w1_ hx1_ o7=>?_
 have hs_hx1_:=hx1_.size
 refine zas (4) (fun k us w'=>∃ (v:Value) (s1:Cur) (l1:List DStmt),us=[v,.int .i64 (k:Int)]∧ChgI g (g+1) w1_ w'∧(CurAt W g bs s1 w'∧RowI w1_.heap.size w'.heap.size 209 w' v l1∧za2 bs n s=(l1++(zdf (zby bs n) bs (4-k) k s1).1,(zdf (zby bs n) bs (4-k) k s1).2)∧l1.length≤k∧k≤3)) (0) (by omega) ⟨_,s,[],rfl,(ChgI.refl w1_),⟨hC.ext hx1_,zcD _ _ _ _ _,by unfold za2;simp,by simp,by omega⟩⟩ ?_
 rintro k m3 uu3 w2_ hk3 ⟨v5,s1,l1,hu,hx2_,hC1,hrow,hdr,hll,hkk⟩
 have hs_hx2_:=hx2_.size
 obtain ⟨hu0,hu1⟩:=zcC hu
 try rw [hu0]
 try rw [hu1]
 try clear hu0 hu1
 have hb4:=zcr bs (n:=4) (by omega) s1
 refine (zct hC1 (by omega)).mono ?_
 rintro _ w3_ ⟨hc3_,hC3_,rfl⟩
 have hs_hc3_:=hc3_.size
 have hs_hc3_:=hc3_.size
 have hrow_c3:=(hrow.ext (Ext.refl w2_)).chg hc3_ (by omega)
 refine zah ?_
 refine br (fun c1=>?_) (fun c1=>?_)
 · refine (ih hC3_ hd).mono ?_
   rintro r17 w4_ ⟨hc4_,hC4_,o17⟩
   have hs_hc4_:=hc4_.size
   have hs_hc4_:=hc4_.size
   have hrow_c4:=(hrow_c3.ext (Ext.refl w3_)).chg hc4_ (by omega)
   refine zbV (α:=DStmt) zeE zbC zuh zo3 (by decide) (hrow_c4.ext (Ext.refl w4_)) (by omega) (o17.ext (Ext.refl w4_)) (by omega) (by omega) (by rw [zap];omega) (by omega) fun v19 w5_ hc5_ o19=>?_
   have hs_hc5_:=hc5_.size
   have o17_c5:=(o17.ext (Ext.refl w4_)).chg hc5_ (by omega)
   refine zaf (by omega) ?_
   refine ⟨m3-1,by omega,k+1,by omega,_,(zby bs n (zao bs 4 s1)).2,l1++[(zby bs n (zao bs 4 s1)).1],rfl,(ChgI.out (ChgI.trans (ChgI.trans hx2_ hc3_) hc4_) hc5_ (by omega)),?_⟩
   rw [zsa hkk (by omega)] at hdr
   exact ⟨(CurAt.chg hC4_ hc5_ (by omega) (by omega)),o19,by rw [hdr];simp,by simp;omega,by omega⟩
 refine ⟨(ChgI.trans (ChgI.trans (Ext.toI hx1_) hx2_) hc3_),?_⟩
 rw [zpe hkk (by omega)] at hdr
 rw [hdr]
 simp only [List.append_nil]
 exact ⟨hC3_,(hrow.chg hc3_ (by omega)).mono (by omega) (by omega)⟩
def F258 (a0 a1:Value) (w:World) (R:VW):Prop:=
 oP (Instr.alloc 209 true (.tuple #[])) w fun x4 w=>
 cL 71 [a0,(iV 14)] w fun x8 w=>
 JOIN [5] (fun J4=>
 rB .leq 3 T0 U0 a1 (iV 0) w fun x10=>
 BR x10
 (rB .geq 3 T0 U0 x8 (iV 11) w fun x13=>
 BR x13
 (rB .sub 3 T0 U0 x8 (iV 6) w fun x16=>
 J4 [x16] w)
 (J4 [x8] w))
 (J4 [x8] w)) (fun u4 w=>
 rB .lss 3 T0 U0 (u4 5) (iV 4) w fun x19=>
 BR x19
 (oP (Instr.buildSlice 24 3 #[(0,(Value.string (ByteArray.mk #[120]))),(1,(Value.string (ByteArray.mk #[121]))),(2,(Value.string (ByteArray.mk #[122])))]) w fun x21 w=>
 cL 95 [a0,x21] w fun x22 w=>
 cL 311 [a0,(iV 2)] w fun x24 w=>
 rD (Instr.build 209 #[(0,(iV 1)),(1,x22),(2,x24)]) w fun x25=>
 oS 209 x4 x25 w fun w=>
 rD (za9 209 x4) w fun r4=>R r4 w)
 (rB .lss 3 T0 U0 (u4 5) (iV 6) w fun x28=>
 BR x28
 (oP (Instr.buildSlice 24 3 #[(0,(Value.string (ByteArray.mk #[97]))),(1,(Value.string (ByteArray.mk #[98]))),(2,(Value.string (ByteArray.mk #[109])))]) w fun x30 w=>
 cL 95 [a0,x30] w fun x31 w=>
 rD (Instr.build 209 #[(0,(iV 6)),(1,x31)]) w fun x32=>
 oS 209 x4 x32 w fun w=>
 rD (za9 209 x4) w fun r4=>R r4 w)
 (rB .lss 3 T0 U0 (u4 5) (iV 8) w fun x35=>
 BR x35
 (oP (Instr.buildSlice 24 3 #[(0,(Value.string (ByteArray.mk #[97]))),(1,(Value.string (ByteArray.mk #[98]))),(2,(Value.string (ByteArray.mk #[109])))]) w fun x37 w=>
 cL 95 [a0,x37] w fun x38 w=>
 rD (Instr.build 209 #[(0,(iV 7)),(1,x38)]) w fun x39=>
 oS 209 x4 x39 w fun w=>
 rD (za9 209 x4) w fun r4=>R r4 w)
 (rB .eql 3 T0 U0 (u4 5) (iV 8) w fun x42=>
 BR x42
 (oP (Instr.buildSlice 24 3 #[(0,(Value.string (ByteArray.mk #[112]))),(1,(Value.string (ByteArray.mk #[113]))),(2,(Value.string (ByteArray.mk #[114])))]) w fun x44 w=>
 cL 95 [a0,x44] w fun x45 w=>
 rD (Instr.build 209 #[(0,(iV 4)),(1,x45)]) w fun x46=>
 oS 209 x4 x46 w fun w=>
 rD (za9 209 x4) w fun r4=>R r4 w)
 (rB .eql 3 T0 U0 (u4 5) (iV 9) w fun x49=>
 BR x49
 (oP (Instr.buildSlice 24 3 #[(0,(Value.string (ByteArray.mk #[112]))),(1,(Value.string (ByteArray.mk #[113]))),(2,(Value.string (ByteArray.mk #[114])))]) w fun x51 w=>
 cL 95 [a0,x51] w fun x52 w=>
 rD (Instr.build 209 #[(0,(iV 5)),(1,x52)]) w fun x53=>
 oS 209 x4 x53 w fun w=>
 rD (za9 209 x4) w fun r4=>R r4 w)
 (rB .eql 3 T0 U0 (u4 5) (iV 10) w fun x56=>
 BR x56
 (rD (Instr.build 209 #[(0,(iV 8))]) w fun x57=>
 oS 209 x4 x57 w fun w=>
 rD (za9 209 x4) w fun r4=>R r4 w)
 (rB .eql 3 T0 U0 (u4 5) (iV 11) w fun x60=>
 BR x60
 (cL 311 [a0,(iV 1)] w fun x62 w=>
 rB .sub 3 T0 U0 a1 (iV 1) w fun x65=>
 cL 198 [a0,x65] w fun x66 w=>
 rD (Instr.build 209 #[(0,(iV 3)),(2,x62),(3,x66)]) w fun x67=>
 oS 209 x4 x67 w fun w=>
 rD (za9 209 x4) w fun r4=>R r4 w)
 (cL 311 [a0,(iV 1)] w fun x69 w=>
 rB .sub 3 T0 U0 a1 (iV 1) w fun x72=>
 cL 198 [a0,x72] w fun x73 w=>
 rD (Instr.build 209 #[(0,(iV 2)),(2,x69),(3,x73)]) w fun x74=>
 oP (Instr.alloc 209 true (.tuple #[])) w fun x6 w=>
 oS 209 x6 x74 w fun w=>
 cL 92 [a0,(iV 2)] w fun x76 w=>
 BR x76
 (rB .sub 3 T0 U0 a1 (iV 1) w fun x79=>
 cL 198 [a0,x79] w fun x80 w=>
 rF 209 x6 4 w fun x81=>
 oS 162 x81 x80 w fun w=>
 rL 209 x6 w fun x82=>
 oS 209 x4 x82 w fun w=>
 rD (za9 209 x4) w fun r4=>R r4 w)
 (rL 209 x6 w fun x82=>
 oS 209 x4 x82 w fun w=>
 rD (za9 209 x4) w fun r4=>R r4 w)))))))))
def cfg258:Cfg:=⟨extL,[(4,130592,[5])],[],[],[],[],[]⟩
theorem F258_call {a0 a1:Value} {w:World} {R:VW} (h:F258 a0 a1 w R):cL 258 [a0,a1] w R:=co (g:=cfg258) Tryz.func258 (by kernel_rfl) (by kernel_rfl) (by kernel_rfl) h
theorem zh2 {w:World} {W:World} {g:Nat} {bs:List UInt8} {s:Cur} {d:Int} {n:Nat} (hC:CurAt W g bs s w) (hd:d=(n:Int)) (ih:∀ m,m+1=n→zqw m) (hn:n≤10) :
   CALL Tryz.prog 258 [.pointer (some ⟨g,0,none⟩),.int .i64 d] w fun r w'=>ChgI g (g+1) w w'∧(CurAt W g bs (zby bs n s).2 w'∧OwnI w.heap.size w'.heap.size w' r (zby bs n s).1):=by
 refine F258_call ?_
 unfold F258
 have hgl:=hC.lt
 have hb14:=zcr bs (n:=14) (by omega) s
 refine zkx (α:=DStmt) zqe fun w1_ hx1_ hv4=>?_
 have hg4:=hv4.lt
 have hs_hx1_:=hx1_.size
 refine (zct (CurAt.ext hC hx1_) (by omega)).mono ?_
 rintro _ w2_ ⟨hc2_,hC2_,rfl⟩
 have hs_hc2_:=hc2_.size
 have hs_hc2_:=hc2_.size
 have hv4_c2:=(hv4.ext (Ext.refl w1_)).chg hc2_ (by omega) (by omega)
 refine JOIN.mk (fun us w'=>us=[.int .i64 (zeH bs n s)]∧Ext w2_ w'∧(True)) ?_ ?_
 · refine zcT ?_
   refine br (fun c1=>?_) (fun c1=>?_)
   · refine zck ?_
     refine br (fun c2=>?_) (fun c2=>?_)
     · refine zbp (by unfold I64;omega) ?_
       refine ⟨by unfold zeH;rw [if_pos (by omega)],Ext.refl w2_,?_⟩
       trivial
     refine ⟨by unfold zeH;rw [if_neg (by omega)],Ext.refl w2_,?_⟩
     trivial
   refine ⟨by unfold zeH;rw [if_neg (by omega)],Ext.refl w2_,?_⟩
   trivial
 rintro uj4 w3_ ⟨hu,hx3_,_⟩
 have hs_hx3_:=hx3_.size
 simp only [List.map_cons,List.map_nil,List.cons.injEq,and_true] at hu
 try rw [hu]
 try clear hu
 refine zah ?_
 refine br (fun c3=>?_) (fun c3=>?_)
 · refine zfC (vs:=([ByteArray.mk #[120],ByteArray.mk #[121],ByteArray.mk #[122]]:List ByteArray).map Value.string) u24 ty9 zb2 (by decide) (by kernel_rfl) rfl (fun w=>zcb (by decide)) fun v21 w4_ hx4_ o21=>?_
   have hs_hx4_:=hx4_.size
   refine (zcP (CurAt.ext (CurAt.ext hC2_ hx3_) hx4_) (o21.ext (Ext.refl w4_)) (by omega) (by omega) (by omega) (by decide) (by decide)).mono ?_
   rintro _ w5_ ⟨hc5_,hC5_,rfl,hS22⟩
   have hs_hc5_:=hc5_.size
   have hs_hc5_:=hc5_.size
   have hv4_c5:=(hv4_c2.ext (hx3_.trans hx4_)).chg hc5_ (by omega) (by omega)
   have o21_c5:=(o21.ext (Ext.refl w4_)).chg hc5_ (by omega)
   refine ((zfW 2 (by omega)) hC5_ rfl).mono ?_
   rintro r24 w6_ ⟨hc6_,hC6_,o24⟩
   have hs_hc6_:=hc6_.size
   have hs_hc6_:=hc6_.size
   have hv4_c6:=(hv4_c5.ext (Ext.refl w5_)).chg hc6_ (by omega) (by omega)
   have o21_c6:=(o21_c5.ext (Ext.refl w5_)).chg hc6_ (by omega)
   refine zl0 (lo:=w5_.heap.size) (hi:=w6_.heap.size) (by omega) (by first | assumption | (unfold I64;omega)) (by first | assumption | decide) (o24.ext (Ext.refl w6_)) fun v25 o25=>?_
   refine zb1 zbC (hv4_c6.ext (Ext.refl w6_)) (o25.ext (Ext.refl w6_)) (by omega) fun w7_ hc7_ hv4_s7=>?_
   have hs_hc7_:=hc7_.size
   have o21_c7:=(o21_c6.ext (Ext.refl w6_)).chg hc7_ (by omega)
   have o24_c7:=(o24.ext (Ext.refl w6_)).chg hc7_ (by omega)
   have o25_c7:=(o25.ext (Ext.refl w6_)).chg hc7_ (by omega)
   refine zcf zbC hv4_s7 (Ext.refl w7_) fun r4 hr4=>?_
   replace hr4:=hr4.ext (Ext.refl w7_)
   refine ⟨(ChgI.out (ChgI.trans (ChgI.trans (ChgI.trans (ChgI.trans (ChgI.trans (Ext.toI hx1_) hc2_) (Ext.toI hx3_)) (Ext.toI hx4_)) hc5_) hc6_) hc7_ (by omega)),?_⟩
   rw [zdS (by omega),zfA,if_pos (by omega)]
   exact ⟨(CurAt.chg hC6_ hc7_ (by omega) (by omega)),hr4.mono (by omega) (by omega)⟩
 refine zah ?_
 refine br (fun c4=>?_) (fun c4=>?_)
 · refine zfC (vs:=([ByteArray.mk #[97],ByteArray.mk #[98],ByteArray.mk #[109]]:List ByteArray).map Value.string) u24 ty9 zb2 (by decide) (by kernel_rfl) rfl (fun w=>zcb (by decide)) fun v30 w8_ hx8_ o30=>?_
   have hs_hx8_:=hx8_.size
   refine (zcP (CurAt.ext (CurAt.ext hC2_ hx3_) hx8_) (o30.ext (Ext.refl w8_)) (by omega) (by omega) (by omega) (by decide) (by decide)).mono ?_
   rintro _ w9_ ⟨hc9_,hC9_,rfl,hS31⟩
   have hs_hc9_:=hc9_.size
   have hs_hc9_:=hc9_.size
   have hv4_c9:=(hv4_c2.ext (hx3_.trans hx8_)).chg hc9_ (by omega) (by omega)
   have o30_c9:=(o30.ext (Ext.refl w8_)).chg hc9_ (by omega)
   refine zcu (lo:=w9_.heap.size) (hi:=w9_.heap.size) (by omega) (by first | assumption | (unfold I64;omega)) (by first | assumption | decide) fun v32 o32=>?_
   refine zb1 zbC (hv4_c9.ext (Ext.refl w9_)) (o32.ext (Ext.refl w9_)) (by omega) fun w10_ hc10_ hv4_s10=>?_
   have hs_hc10_:=hc10_.size
   have o30_c10:=(o30_c9.ext (Ext.refl w9_)).chg hc10_ (by omega)
   have o32_c10:=(o32.ext (Ext.refl w9_)).chg hc10_ (by omega)
   refine zcf zbC hv4_s10 (Ext.refl w10_) fun r4 hr4=>?_
   replace hr4:=hr4.ext (Ext.refl w10_)
   refine ⟨(ChgI.out (ChgI.trans (ChgI.trans (ChgI.trans (ChgI.trans (Ext.toI hx1_) hc2_) (Ext.toI hx3_)) (Ext.toI hx8_)) hc9_) hc10_ (by omega)),?_⟩
   rw [zdS (by omega),zfA,if_neg (by omega),if_pos (by omega)]
   exact ⟨(CurAt.chg hC9_ hc10_ (by omega) (by omega)),hr4.mono (by omega) (by omega)⟩
 refine zah ?_
 refine br (fun c5=>?_) (fun c5=>?_)
 · refine zfC (vs:=([ByteArray.mk #[97],ByteArray.mk #[98],ByteArray.mk #[109]]:List ByteArray).map Value.string) u24 ty9 zb2 (by decide) (by kernel_rfl) rfl (fun w=>zcb (by decide)) fun v37 w11_ hx11_ o37=>?_
   have hs_hx11_:=hx11_.size
   refine (zcP (CurAt.ext (CurAt.ext hC2_ hx3_) hx11_) (o37.ext (Ext.refl w11_)) (by omega) (by omega) (by omega) (by decide) (by decide)).mono ?_
   rintro _ w12_ ⟨hc12_,hC12_,rfl,hS38⟩
   have hs_hc12_:=hc12_.size
   have hs_hc12_:=hc12_.size
   have hv4_c12:=(hv4_c2.ext (hx3_.trans hx11_)).chg hc12_ (by omega) (by omega)
   have o37_c12:=(o37.ext (Ext.refl w11_)).chg hc12_ (by omega)
   refine zcu (lo:=w12_.heap.size) (hi:=w12_.heap.size) (by omega) (by first | assumption | (unfold I64;omega)) (by first | assumption | decide) fun v39 o39=>?_
   refine zb1 zbC (hv4_c12.ext (Ext.refl w12_)) (o39.ext (Ext.refl w12_)) (by omega) fun w13_ hc13_ hv4_s13=>?_
   have hs_hc13_:=hc13_.size
   have o37_c13:=(o37_c12.ext (Ext.refl w12_)).chg hc13_ (by omega)
   have o39_c13:=(o39.ext (Ext.refl w12_)).chg hc13_ (by omega)
   refine zcf zbC hv4_s13 (Ext.refl w13_) fun r4 hr4=>?_
   replace hr4:=hr4.ext (Ext.refl w13_)
   refine ⟨(ChgI.out (ChgI.trans (ChgI.trans (ChgI.trans (ChgI.trans (Ext.toI hx1_) hc2_) (Ext.toI hx3_)) (Ext.toI hx11_)) hc12_) hc13_ (by omega)),?_⟩
   rw [zdS (by omega),zfA,if_neg (by omega),if_neg (by omega),if_pos (by omega)]
   exact ⟨(CurAt.chg hC12_ hc13_ (by omega) (by omega)),hr4.mono (by omega) (by omega)⟩
 refine zai ?_
 refine br (fun c6=>?_) (fun c6=>?_)
 · refine zfC (vs:=([ByteArray.mk #[112],ByteArray.mk #[113],ByteArray.mk #[114]]:List ByteArray).map Value.string) u24 ty9 zb2 (by decide) (by kernel_rfl) rfl (fun w=>zcb (by decide)) fun v44 w14_ hx14_ o44=>?_
   have hs_hx14_:=hx14_.size
   refine (zcP (CurAt.ext (CurAt.ext hC2_ hx3_) hx14_) (o44.ext (Ext.refl w14_)) (by omega) (by omega) (by omega) (by decide) (by decide)).mono ?_
   rintro _ w15_ ⟨hc15_,hC15_,rfl,hS45⟩
   have hs_hc15_:=hc15_.size
   have hs_hc15_:=hc15_.size
   have hv4_c15:=(hv4_c2.ext (hx3_.trans hx14_)).chg hc15_ (by omega) (by omega)
   have o44_c15:=(o44.ext (Ext.refl w14_)).chg hc15_ (by omega)
   refine zcu (lo:=w15_.heap.size) (hi:=w15_.heap.size) (by omega) (by first | assumption | (unfold I64;omega)) (by first | assumption | decide) fun v46 o46=>?_
   refine zb1 zbC (hv4_c15.ext (Ext.refl w15_)) (o46.ext (Ext.refl w15_)) (by omega) fun w16_ hc16_ hv4_s16=>?_
   have hs_hc16_:=hc16_.size
   have o44_c16:=(o44_c15.ext (Ext.refl w15_)).chg hc16_ (by omega)
   have o46_c16:=(o46.ext (Ext.refl w15_)).chg hc16_ (by omega)
   refine zcf zbC hv4_s16 (Ext.refl w16_) fun r4 hr4=>?_
   replace hr4:=hr4.ext (Ext.refl w16_)
   refine ⟨(ChgI.out (ChgI.trans (ChgI.trans (ChgI.trans (ChgI.trans (Ext.toI hx1_) hc2_) (Ext.toI hx3_)) (Ext.toI hx14_)) hc15_) hc16_ (by omega)),?_⟩
   rw [zdS (by omega),zfA,if_neg (by omega),if_neg (by omega),if_neg (by omega),if_pos (by omega)]
   exact ⟨(CurAt.chg hC15_ hc16_ (by omega) (by omega)),hr4.mono (by omega) (by omega)⟩
 refine zai ?_
 refine br (fun c7=>?_) (fun c7=>?_)
 · refine zfC (vs:=([ByteArray.mk #[112],ByteArray.mk #[113],ByteArray.mk #[114]]:List ByteArray).map Value.string) u24 ty9 zb2 (by decide) (by kernel_rfl) rfl (fun w=>zcb (by decide)) fun v51 w17_ hx17_ o51=>?_
   have hs_hx17_:=hx17_.size
   refine (zcP (CurAt.ext (CurAt.ext hC2_ hx3_) hx17_) (o51.ext (Ext.refl w17_)) (by omega) (by omega) (by omega) (by decide) (by decide)).mono ?_
   rintro _ w18_ ⟨hc18_,hC18_,rfl,hS52⟩
   have hs_hc18_:=hc18_.size
   have hs_hc18_:=hc18_.size
   have hv4_c18:=(hv4_c2.ext (hx3_.trans hx17_)).chg hc18_ (by omega) (by omega)
   have o51_c18:=(o51.ext (Ext.refl w17_)).chg hc18_ (by omega)
   refine zcu (lo:=w18_.heap.size) (hi:=w18_.heap.size) (by omega) (by first | assumption | (unfold I64;omega)) (by first | assumption | decide) fun v53 o53=>?_
   refine zb1 zbC (hv4_c18.ext (Ext.refl w18_)) (o53.ext (Ext.refl w18_)) (by omega) fun w19_ hc19_ hv4_s19=>?_
   have hs_hc19_:=hc19_.size
   have o51_c19:=(o51_c18.ext (Ext.refl w18_)).chg hc19_ (by omega)
   have o53_c19:=(o53.ext (Ext.refl w18_)).chg hc19_ (by omega)
   refine zcf zbC hv4_s19 (Ext.refl w19_) fun r4 hr4=>?_
   replace hr4:=hr4.ext (Ext.refl w19_)
   refine ⟨(ChgI.out (ChgI.trans (ChgI.trans (ChgI.trans (ChgI.trans (Ext.toI hx1_) hc2_) (Ext.toI hx3_)) (Ext.toI hx17_)) hc18_) hc19_ (by omega)),?_⟩
   rw [zdS (by omega),zfA,if_neg (by omega),if_neg (by omega),if_neg (by omega),if_neg (by omega),if_pos (by omega)]
   exact ⟨(CurAt.chg hC18_ hc19_ (by omega) (by omega)),hr4.mono (by omega) (by omega)⟩
 refine zai ?_
 refine br (fun c8=>?_) (fun c8=>?_)
 · refine zjZ (lo:=w3_.heap.size) (hi:=w3_.heap.size) (by omega) (by first | assumption | (unfold I64;omega)) fun v57 o57=>?_
   refine zb1 zbC (hv4_c2.ext hx3_) (o57.ext (Ext.refl w3_)) (by omega) fun w20_ hc20_ hv4_s20=>?_
   have hs_hc20_:=hc20_.size
   have o57_c20:=(o57.ext (Ext.refl w3_)).chg hc20_ (by omega)
   refine zcf zbC hv4_s20 (Ext.refl w20_) fun r4 hr4=>?_
   replace hr4:=hr4.ext (Ext.refl w20_)
   refine ⟨(ChgI.out (ChgI.trans (ChgI.trans (Ext.toI hx1_) hc2_) (Ext.toI hx3_)) hc20_ (by omega)),?_⟩
   rw [zdS (by omega),zfA,if_neg (by omega),if_neg (by omega),if_neg (by omega),if_neg (by omega),if_neg (by omega)]
   exact ⟨(CurAt.chg (CurAt.ext hC2_ hx3_) hc20_ (by omega) (by omega)),hr4.mono (by omega) (by omega)⟩
 refine zai ?_
 refine br (fun c9=>?_) (fun c9=>?_)
 · have hK:¬zeH bs n s<11:=by unfold zeH at *;split at*<;> omega
   have hnp:=zfD hK
   refine ((zfW 1 (by omega)) (CurAt.ext hC2_ hx3_) rfl).mono ?_
   rintro r62 w21_ ⟨hc21_,hC21_,o62⟩
   have hs_hc21_:=hc21_.size
   have hs_hc21_:=hc21_.size
   have hv4_c21:=(hv4_c2.ext hx3_).chg hc21_ (by omega) (by omega)
   refine zbp (by unfold I64;omega) ?_
   refine (ih (n-1) (by omega) hC21_ (by omega)).mono ?_
   rintro r66 w22_ ⟨hc22_,hC22_,o66⟩
   have hs_hc22_:=hc22_.size
   have hs_hc22_:=hc22_.size
   have hv4_c22:=(hv4_c21.ext (Ext.refl w21_)).chg hc22_ (by omega) (by omega)
   have o62_c22:=(o62.ext (Ext.refl w21_)).chg hc22_ (by omega)
   refine zh0 (lo:=w3_.heap.size) (hi:=w22_.heap.size) (by first | assumption | (unfold I64;omega)) (o62_c22.ext (Ext.refl w22_)) (o66.own.ext (Ext.refl w22_)) (by omega) (by omega) (by omega) (by omega) fun v67 o67=>?_
   refine zb1 zbC (hv4_c22.ext (Ext.refl w22_)) (o67.ext (Ext.refl w22_)) (by omega) fun w23_ hc23_ hv4_s23=>?_
   have hs_hc23_:=hc23_.size
   have o62_c23:=(o62_c22.ext (Ext.refl w22_)).chg hc23_ (by omega)
   have o66_c23:=(o66.ext (Ext.refl w22_)).chg hc23_ (by omega)
   have o67_c23:=(o67.ext (Ext.refl w22_)).chg hc23_ (by omega)
   refine zcf zbC hv4_s23 (Ext.refl w23_) fun r4 hr4=>?_
   replace hr4:=hr4.ext (Ext.refl w23_)
   refine ⟨(ChgI.out (ChgI.trans (ChgI.trans (ChgI.trans (ChgI.trans (Ext.toI hx1_) hc2_) (Ext.toI hx3_)) hc21_) hc22_) hc23_ (by omega)),?_⟩
   rw [zhx hK,zjV,if_pos (by omega)]
   exact ⟨(CurAt.chg hC22_ hc23_ (by omega) (by omega)),hr4.mono (by omega) (by omega)⟩
 have hK:¬zeH bs n s<11:=by unfold zeH at *;split at*<;> omega
 have hnp:=zfD hK
 refine ((zfW 1 (by omega)) (CurAt.ext hC2_ hx3_) rfl).mono ?_
 rintro r69 w24_ ⟨hc24_,hC24_,o69⟩
 have hs_hc24_:=hc24_.size
 have hs_hc24_:=hc24_.size
 have hv4_c24:=(hv4_c2.ext hx3_).chg hc24_ (by omega) (by omega)
 refine zbp (by unfold I64;omega) ?_
 refine (ih (n-1) (by omega) hC24_ (by omega)).mono ?_
 rintro r73 w25_ ⟨hc25_,hC25_,o73⟩
 have hs_hc25_:=hc25_.size
 have hs_hc25_:=hc25_.size
 have hv4_c25:=(hv4_c24.ext (Ext.refl w24_)).chg hc25_ (by omega) (by omega)
 have o69_c25:=(o69.ext (Ext.refl w24_)).chg hc25_ (by omega)
 refine zh0 (lo:=w3_.heap.size) (hi:=w25_.heap.size) (by first | assumption | (unfold I64;omega)) (o69_c25.ext (Ext.refl w25_)) (o73.own.ext (Ext.refl w25_)) (by omega) (by omega) (by omega) (by omega) fun v74 o74=>?_
 refine zkx (α:=DStmt) zqe fun w26_ hx26_ hv6=>?_
 have hg6:=hv6.lt
 have hs_hx26_:=hx26_.size
 refine zb1 zbC (hv6.ext (Ext.refl w26_)) (o74.ext hx26_) (by omega) fun w27_ hc27_ hv6_s27=>?_
 have hs_hc27_:=hc27_.size
 have hv4_c27:=(hv4_c25.ext hx26_).chg hc27_ (by omega) (by omega)
 have o69_c27:=(o69_c25.ext hx26_).chg hc27_ (by omega)
 have o73_c27:=(o73.ext hx26_).chg hc27_ (by omega)
 have o74_c27:=(o74.ext hx26_).chg hc27_ (by omega)
 refine (zfV (CurAt.chg (CurAt.ext hC25_ hx26_) hc27_ (by omega) (by omega)) (by omega)).mono ?_
 rintro _ w28_ ⟨hc28_,hC28_,rfl⟩
 have hs_hc28_:=hc28_.size
 have hs_hc28_:=hc28_.size
 have hv4_c28:=(hv4_c27.ext (Ext.refl w27_)).chg hc28_ (by omega) (by omega)
 have o69_c28:=(o69_c27.ext (Ext.refl w27_)).chg hc28_ (by omega)
 have o73_c28:=(o73_c27.ext (Ext.refl w27_)).chg hc28_ (by omega)
 have o74_c28:=(o74_c27.ext (Ext.refl w27_)).chg hc28_ (by omega)
 have hv6_s27_c28:=(hv6_s27.ext (Ext.refl w27_)).chg hc28_ (by omega) (by omega)
 refine br (fun c10=>?_) (fun c10=>?_)
 · refine zbp (by unfold I64;omega) ?_
   refine (ih (n-1) (by omega) hC28_ (by omega)).mono ?_
   rintro r80 w29_ ⟨hc29_,hC29_,o80⟩
   have hs_hc29_:=hc29_.size
   have hs_hc29_:=hc29_.size
   have hv4_c29:=(hv4_c28.ext (Ext.refl w28_)).chg hc29_ (by omega) (by omega)
   have o69_c29:=(o69_c28.ext (Ext.refl w28_)).chg hc29_ (by omega)
   have o73_c29:=(o73_c28.ext (Ext.refl w28_)).chg hc29_ (by omega)
   have o74_c29:=(o74_c28.ext (Ext.refl w28_)).chg hc29_ (by omega)
   have hv6_s27_c29:=(hv6_s27_c28.ext (Ext.refl w28_)).chg hc29_ (by omega) (by omega)
   refine zaa zcZ ?_
   obtain ⟨Fv30,hO30,hF30⟩:=(hv6_s27_c29.ext (Ext.refl w29_))
   obtain ⟨Gv30,hL30⟩:=zhS (Lens.var hO30)
   refine zrV zcY hL30 hF30 (o80.own.ext (Ext.refl w29_)) (by omega) (by omega) fun w30_ hc30_ hv30_=>?_
   have hv6_s30:=hv30_ (w3_.heap.size) (by omega) (by omega) (w29_.heap.size) (by omega) (by omega)
   clear hv30_ hL30 hO30 hF30
   have hs_hc30_:=hc30_.size
   have hv4_c30:=(hv4_c29.ext (Ext.refl w29_)).chg hc30_ (by omega) (by omega)
   have o69_c30:=(o69_c29.ext (Ext.refl w29_)).chg hc30_ (by omega)
   have o73_c30:=(o73_c29.ext (Ext.refl w29_)).chg hc30_ (by omega)
   have o74_c30:=(o74_c29.ext (Ext.refl w29_)).chg hc30_ (by omega)
   have o80_c30:=(o80.ext (Ext.refl w29_)).chg hc30_ (by omega)
   refine zpW zbC hv6_s30 (Ext.refl w30_) fun v82 o82=>?_
   refine zb1 zbC (hv4_c30.ext (Ext.refl w30_)) (o82.ext (Ext.refl w30_)) (by omega) fun w31_ hc31_ hv4_s31=>?_
   have hs_hc31_:=hc31_.size
   have o69_c31:=(o69_c30.ext (Ext.refl w30_)).chg hc31_ (by omega)
   have o73_c31:=(o73_c30.ext (Ext.refl w30_)).chg hc31_ (by omega)
   have o74_c31:=(o74_c30.ext (Ext.refl w30_)).chg hc31_ (by omega)
   have hv6_s30_c31:=(hv6_s30.ext (Ext.refl w30_)).chg hc31_ (by omega) (by omega)
   have o80_c31:=(o80_c30.ext (Ext.refl w30_)).chg hc31_ (by omega)
   have o82_c31:=(o82.ext (Ext.refl w30_)).chg hc31_ (by omega)
   refine zcf zbC hv4_s31 (Ext.refl w31_) fun r4 hr4=>?_
   replace hr4:=hr4.ext (Ext.refl w31_)
   refine ⟨(ChgI.out (ChgI.out (ChgI.trans (ChgI.trans (ChgI.out (ChgI.trans (ChgI.trans (ChgI.trans (ChgI.trans (ChgI.trans (Ext.toI hx1_) hc2_) (Ext.toI hx3_)) hc24_) hc25_) (Ext.toI hx26_)) hc27_ (by omega)) hc28_) hc29_) hc30_ (by omega)) hc31_ (by omega)),?_⟩
   rw [zhx hK,zjV,if_neg (by omega),if_pos (by first | assumption | (unfold za2 at *;assumption))]
   exact ⟨(CurAt.chg (CurAt.chg hC29_ hc30_ (by omega) (by omega)) hc31_ (by omega) (by omega)),hr4.mono (by omega) (by omega)⟩
 refine zpW zbC hv6_s27_c28 (Ext.refl w28_) fun v82 o82=>?_
 refine zb1 zbC (hv4_c28.ext (Ext.refl w28_)) (o82.ext (Ext.refl w28_)) (by omega) fun w32_ hc32_ hv4_s32=>?_
 have hs_hc32_:=hc32_.size
 have o69_c32:=(o69_c28.ext (Ext.refl w28_)).chg hc32_ (by omega)
 have o73_c32:=(o73_c28.ext (Ext.refl w28_)).chg hc32_ (by omega)
 have o74_c32:=(o74_c28.ext (Ext.refl w28_)).chg hc32_ (by omega)
 have hv6_s27_c32:=(hv6_s27_c28.ext (Ext.refl w28_)).chg hc32_ (by omega) (by omega)
 have o82_c32:=(o82.ext (Ext.refl w28_)).chg hc32_ (by omega)
 refine zcf zbC hv4_s32 (Ext.refl w32_) fun r4 hr4=>?_
 replace hr4:=hr4.ext (Ext.refl w32_)
 refine ⟨(ChgI.out (ChgI.trans (ChgI.out (ChgI.trans (ChgI.trans (ChgI.trans (ChgI.trans (ChgI.trans (Ext.toI hx1_) hc2_) (Ext.toI hx3_)) hc24_) hc25_) (Ext.toI hx26_)) hc27_ (by omega)) hc28_) hc32_ (by omega)),?_⟩
 rw [zhx hK,zjV,if_neg (by omega),if_neg (by first | assumption | (unfold za2 at *;assumption))]
 exact ⟨(CurAt.chg hC28_ hc32_ (by omega) (by omega)),hr4.mono (by omega) (by omega)⟩
theorem znc:∀ (n:Nat),n≤10→zoe n∧zqw n
 | 0,hn=>by
   have h1:zoe 0:=fun {_ _ _ _ _ _} h hd=>zh2 h hd (fun m hm=>absurd hm (by omega)) hn
   exact ⟨h1,fun {_ _ _ _ _ _} h hd=>zh1 h hd h1⟩
 | n+1,hn=>by
   have ih:=znc n (by omega)
   have hm:∀ m,m+1=n+1→zqw m:=fun m hm=>by
     obtain rfl:m=n:=by omega
     exact ih.2
   have h1:zoe (n+1):=fun {_ _ _ _ _ _} h hd=>zh2 h hd hm hn
   exact ⟨h1,fun {_ _ _ _ _ _} h hd=>zh1 h hd h1⟩
end Go.Proofs.YtbnjpfjjmhodnaaGreat
namespace Go.Sh
open Rep (rep)
def RowG {α:Type} [Rep α] (F:List Nat) (e:TypeId) (w:World) (v:Value) (l:List α):Prop:=(∃ a,v=.slice a 0 0∧l=[]∧F=[])∨RowF F e w v l
section
variable {P:Program} {w w0 w':World} {α β γ:Type} [Rep α] [Rep β] {e lo hi:Nat} {v:Value} {l:List α} {F:List Nat}
theorem RowG.lt (h:RowG F e w v l):∀ b∈F,b<w.heap.size:=by
 rcases h with ⟨a,_,_,rfl⟩ | h
 · simp
 exact h.lt
theorem RowG.keep (h:RowG F e w v l) (hk:∀ b∈F,w'.heap[b]?=w.heap[b]?):RowG F e w' v l:=by
 rcases h with h | h
 · exact .inl h
 exact .inr (h.keep hk)
theorem RowG.own (h:RowG F e w v l):OwnF F w v l:=by
 rcases h with ⟨a,rfl,rfl,rfl⟩ | h
 · exact ⟨_,⟨a,0,[],[],rfl,Nat.le_refl _,Nat.zero_le _,⟨rfl,rfl⟩,.inl ⟨rfl,rfl⟩⟩,rfl⟩
 exact h.own
theorem RowG.wr (h:RowG F e w v l):Wr F w:=by
 rcases h with ⟨a,_,_,rfl⟩ | h
 · exact Wr.nil w
 exact h.wr
theorem RowG.one (h:RowG F e w v l):v.oneCell'=true:=by
 obtain ⟨cs,⟨a,cap,Fi,xs,rfl,_⟩,rfl⟩:=h.own
 rfl
theorem zfX:RowI lo hi e w v l↔∃ F,RowG F e w v l∧F.Nodup∧∀ b∈F,lo≤b∧b<hi:=by
 constructor
 · rintro (⟨a,h1,h2⟩ | ⟨F,h1,h2,h3⟩)
   · exact ⟨[],.inl ⟨a,h1,h2,rfl⟩,List.nodup_nil,by simp⟩
   exact ⟨F,.inr h1,h2,h3⟩
 rintro ⟨F,(⟨a,h1,h2,_⟩ | h1),h2',h3⟩
 · exact .inl ⟨a,h1,h2⟩
 exact .inr ⟨F,h1,h2',h3⟩
end
structure RV (α:Type) (e:TypeId) where
 v:Value
 l:List α
instance {α:Type} [Rep α] {e:TypeId}:Rep (RV α e) where
 size:=1
 agg:=false
 rep F w cs x:=cs=[x.v]∧RowG F e w x.v x.l
 pos:=by decide
 sz _:=rfl
 len:=by rintro _ _ _ _ ⟨rfl,_⟩;rfl
 one:=by rintro _ _ _ _ ⟨rfl,h⟩ v hv;simp at hv;subst hv;exact h.one
 keep:=by rintro _ _ _ _ _ ⟨rfl,h⟩ hk;exact ⟨rfl,h.keep hk⟩
 lt:=by rintro _ _ _ _ ⟨rfl,h⟩;exact h.lt
section
variable {P:Program} {w w0 w':World} {α β γ:Type} [Rep α] [Rep β] {e lo hi:Nat} {v:Value} {l:List α} {F:List Nat}
theorem ztC {x:RV α e} (h:Is w v x):v=x.v∧Is w x.v x.l:=by
 obtain ⟨F,cs,⟨rfl,h1⟩,hv⟩:=h
 obtain ⟨cs,hr,hv'⟩:=h1.own
 exact ⟨hv,F,cs,hr,hv'⟩
theorem zuG {k:Nat} (hm:RowG F e w v l) (hn:F.Nodup) (hk:k<l.length) :
   ∃ b a cap G,v=.slice (some ⟨b,a,none⟩) l.length cap∧Lens (fun F w l=>RowG F e w v l∧F.Nodup) F w b (a+k*Rep.size α) G l[k] (fun y=>l.set k y):=by
 rcases hm with ⟨a,_,rfl,_⟩ | hm
 · simp at hk
 have hwF:=hm.wr
 obtain ⟨xs,Fi,ho,hc,rfl,hwi⟩:=hm
 rcases ho.2 with ⟨_,h0⟩ | ⟨g,cap,cur,rfl,hb0,hg,h1,h2,h3,h4⟩
 · omega
 simp only [Value.ownBlock,Option.toList_some,List.cons_append,List.nil_append] at hn hwF ⊢
 have hlx:=ho.1
 have e0:l=l.take k++(l[k] :: l.drop (k+1)):=by simp
 have hc':=hc
 rw [e0] at hc'
 obtain ⟨F1,F2',x1,x2',hFi,hxs,c1,c2'⟩:=Cells.split hc'
 obtain ⟨G,F2,cg,x2,rfl,rfl,hgr,c2⟩:=c2'
 subst hFi hxs
 have hl1:x1.length=k*Rep.size α:=by rw [Cells.len c1,List.length_take];congr 1;omega
 have hlg:=Rep.len hgr
 have hn':=hn
 rw [List.nodup_cons] at hn
 obtain ⟨hbn,hn⟩:=hn
 rw [List.nodup_append] at hn
 obtain ⟨hn1,hn2,hn3⟩:=hn
 rw [List.nodup_append] at hn2
 obtain ⟨hnG,hnF2,hn4⟩:=hn2
 have hrange:w.rangeAt g 0 (x1++(cg++x2)):=by
   intro j u hu
   rw [←h4,List.getElem?_take] at hu
   split at hu
   · simpa [World.cell?,hg] using hu
   cases hu
 obtain ⟨r1,r2⟩:=zaD hrange
 obtain ⟨rg,r3⟩:=zaD r2
 rw [hl1] at rg r3
 refine ⟨g,0,cap,G,rfl,⟨cg,hgr,rg,hnG,hwi.sub (by simp +contextual),fun h=>hbn (by simp [h]),cur,e,hg⟩,by simp +contextual,fun w' G' y' hch hO hs=>?_⟩
 obtain ⟨cg',hg',rg',hnG',hwG',hbG',hwb'⟩:=hO
 have hlg':=Rep.len hg'
 obtain ⟨cur',hcur',hsame⟩:=hch.cell cur e hg
 have keep1:∀ c∈F1,w'.heap[c]?=w.heap[c]?:=fun c hc1=>by
   refine hch.chg.block c (Cells.lt c1 c hc1) fun hm=>?_
   rcases List.mem_cons.1 hm with rfl | hm
   · exact hbn (by simp [hc1])
   exact hn3 c hc1 c (by simp [hm]) rfl
 have keep2:∀ c∈F2,w'.heap[c]?=w.heap[c]?:=fun c hc1=>by
   refine hch.chg.block c (Cells.lt c2 c hc1) fun hm=>?_
   rcases List.mem_cons.1 hm with rfl | hm
   · exact hbn (by simp [hc1])
   exact hn4 c hm c hc1 rfl
 have hfit:k*Rep.size α+Rep.size α≤cur.size:=by
   rw [h3]
   have:=Nat.mul_le_mul_right (Rep.size α) (show k+1≤cap by omega)
   rw [Nat.add_mul,Nat.one_mul] at this
   exact this
 have hcell':∀ j,j<cg'.length→cur'[0+k*Rep.size α+j]?=cg'[j]?:=by
   intro j hj
   have:=rg' j cg'[j] (by simp [hj])
   simpa [World.cell?,hcur',hj] using this
 have hpos:=Rep.pos (α:=α)
 have hsz':cur'.size=cur.size:=by
   rcases Nat.lt_trichotomy cur'.size cur.size with h | h | h
   · exfalso
     rcases Nat.lt_or_ge cur'.size (k*Rep.size α+Rep.size α) with h' | h'
     · have:=hcell' (Rep.size α-1) (by omega)
       rw [List.getElem?_eq_getElem (by omega)] at this
       have:=(Array.getElem?_eq_some_iff.1 this).1
       omega
     have:=hsame cur'.size (.inr (by omega))
     rw [Array.getElem?_eq_none (Nat.le_refl _),Array.getElem?_eq_getElem h] at this
     cases this
   · exact h
   exfalso
   have:=hsame cur.size (.inr (by omega))
   rw [Array.getElem?_eq_none (Nat.le_refl _),Array.getElem?_eq_getElem h] at this
   cases this
 have hlset:(l.set k y').length=l.length:=by simp
 refine ⟨g :: (F1++(G'++F2)),⟨.inr ⟨x1++(cg'++x2),F1++(G'++F2),⟨?_,.inr ⟨g,cap,cur',by rw [hlset],hb0,hcur',by rw [hlset];exact h1,h2,by rw [hsz'];exact h3,?_⟩⟩,?_,rfl,?_⟩,zlH hn' hnG' hs⟩,?_⟩
 · rw [hlset]
   simp only [List.length_append] at hlx ⊢
   omega
 · rw [hlset]
   apply List.ext_getElem?
   intro j
   have hjx:(cur.toList.take (l.length*Rep.size α))[j]?=(x1++(cg++x2))[j]?:=by rw [h4]
   rcases Nat.lt_or_ge j (l.length*Rep.size α) with hj | hj
   · rw [List.getElem?_take,if_pos hj] at hjx ⊢
     rcases Nat.lt_or_ge j (k*Rep.size α) with h' | h'
     · rw [Array.getElem?_toList,hsame j (.inl (by omega)),←Array.getElem?_toList,hjx,List.getElem?_append_left (by omega),List.getElem?_append_left (by omega)]
     rcases Nat.lt_or_ge j (k*Rep.size α+Rep.size α) with h'' | h''
     · rw [Array.getElem?_toList,List.getElem?_append_right (by omega),List.getElem?_append_left (by omega),hl1,←hcell' (j-k*Rep.size α) (by omega)]
       congr 1
       omega
     rw [Array.getElem?_toList,hsame j (.inr (by omega)),←Array.getElem?_toList,hjx,List.getElem?_append_right (by omega),List.getElem?_append_right (by omega),List.getElem?_append_right (by omega),List.getElem?_append_right (by omega),hlg,hlg']
   rw [List.getElem?_take,if_neg (by omega),List.getElem?_eq_none]
   simp only [List.length_append] at hlx ⊢
   omega
 · have:l.set k y'=l.take k++(y' :: l.drop (k+1)):=by rw [List.set_eq_take_append_cons_drop];simp [hk]
   rw [this]
   exact Cells.append (Cells.keep c1 keep1) ⟨G',F2,cg',x2,rfl,rfl,hg',Cells.keep c2 keep2⟩
 · exact ((hwi.sub (by simp +contextual)).keep keep1).append (hwG'.append ((hwi.sub (by simp +contextual)).keep keep2))
 intro c hcm
 rcases List.mem_cons.1 hcm with rfl | hcm
 · exact .inl (by simp)
 rcases List.mem_append.1 hcm with hcm | hcm
 · exact .inl (by simp [hcm])
 rcases List.mem_append.1 hcm with hcm | hcm
 · exact .inr hcm
 exact .inl (by simp [hcm])
theorem Lens.elemV {H:List Nat→World→γ→Prop} {S:List Nat} {b o:Nat} {G:List Nat} {x:RV β e} {upd:RV β e→γ} (h:Lens H S w b o G x upd) {k:Nat} (hk:k<x.l.length) :
   ∃ b2 a cap G2,x.v=.slice (some ⟨b2,a,none⟩) x.l.length cap∧(∀ c∈b2 :: G2,c∈G)∧Lens H S w b2 (a+k*Rep.size β) G2 x.l[k] (fun y=>upd ⟨x.v,x.l.set k y⟩):=by
 obtain ⟨⟨cs,⟨rfl,hrow⟩,hr,hn,hw,hb,hwb⟩,hsub,hback⟩:=h
 obtain ⟨b2,a,cap,G2,hu,hL⟩:=zuG hrow hn hk
 have hG:∀ c∈G,c∈S:=fun c hc=>hsub c (by simp [hc])
 refine ⟨b2,a,cap,G2,hu,hL.sub,hL.here,fun c hc=>hG c (hL.sub c hc),fun w' G' y' hch hO hs=>?_⟩
 obtain ⟨F1,⟨hR1,hN1⟩,hF1⟩:=hL.back w' G' y' hch hO fun c hc=>by
   rcases hs c hc with h | h
   · exact .inl h
   exact .inr fun e=>h (hG c e)
 have hchG:Chg G w w':=hch.chg.mono hL.sub
 have hbl:b<w.heap.size:=by obtain ⟨c,e,h⟩:=hwb;exact (Array.getElem?_eq_some_iff.1 h).1
 have hbk:w'.heap[b]?=w.heap[b]?:=hchG.block b hbl hb
 have hs1:∀ c∈F1,c∈G∨c∉S:=fun c hc=>by
   rcases hF1 c hc with h | h
   · exact .inl h
   rcases hs c h with h | h
   · exact .inl (hL.sub c (by simp [h]))
   exact .inr h
 have hbF1:b∉F1:=fun hm=>by
   rcases hs1 b hm with h | h
   · exact hb h
   exact h (hsub b (by simp))
 obtain ⟨F',hM',hF'⟩:=hback w' F1 ⟨x.v,x.l.set k y'⟩ ⟨hchG.mono (by simp +contextual),fun c e hc=>⟨c,by rw [hbk];exact hc,fun _ _=>rfl⟩⟩
   ⟨[x.v],⟨rfl,hR1⟩,zbo hr hbk,hN1,hR1.wr,hbF1,by obtain ⟨c,e,h⟩:=hwb;exact ⟨c,e,by rw [hbk];exact h⟩⟩ hs1
 refine ⟨F',hM',fun c hc=>?_⟩
 rcases hF' c hc with h | h
 · exact .inl h
 rcases hF1 c h with h | h
 · exact .inl (hG c h)
 exact .inr h
instance:RepZ (RV α e):=⟨⟨.slice none 0 0,[]⟩,[.slice none 0 0],fun _=>⟨rfl,.inl ⟨none,rfl,rfl,rfl⟩⟩⟩
end
end Go.Sh
namespace Go.Sh
open Rep (rep)
structure Raw where
 v:Value
instance:Rep Raw where
 size:=1
 agg:=false
 rep F _ cs x:=F=[]∧cs=[x.v]∧x.v.oneCell'=true
 pos:=by decide
 sz _:=rfl
 len:=by rintro _ _ _ _ ⟨_,rfl,_⟩;rfl
 one:=by rintro _ _ _ _ ⟨_,rfl,h⟩ v hv;simp at hv;subst hv;exact h
 keep:=by rintro _ _ _ _ _ h _;exact h
 lt:=by rintro _ _ _ _ ⟨rfl,_⟩ b hb;cases hb
section
variable {P:Program} {w w0 w' w1:World} {α β γ:Type} [Rep α] [Rep β] {e lo hi:Nat} {v:Value} {F G S:List Nat} {b o g:Nat}
theorem ChgAt.ext_left {n:Nat} (hx:Ext w w1) (h:ChgAt b o n G w1 w'):ChgAt b o n G w w':=
 ⟨(hx.chg _).trans h.chg,fun c e hc=>h.cell c e (by rw [hx.heap (Array.getElem?_eq_some_iff.1 hc).1];exact hc)⟩
theorem OAt.ext {x:α} (h:OAt G w b o x) (hx:Ext w w1):OAt G w1 b o x:=h.keep fun c hc=>hx.heap (h.lts c hc)
theorem Lens.ext {H:List Nat→World→γ→Prop} {y:β} {upd:β→γ} (h:Lens H S w b o G y upd) (hx:Ext w w1):Lens H S w1 b o G y upd:=
 ⟨h.here.ext hx,h.sub,fun w' G' y' hch hO hs=>h.back w' G' y' (hch.ext_left hx) hO hs⟩
theorem zi6 {ft by_:Nat} {u:Value} {K:Value→Prop} (hft:tyI P ft=some (1,by_,false)) (hr:w.rangeAt b o [u]) (k:K u):RD P (Instr.loadAt ft (.pointer (some ⟨b,o,none⟩))) w K:=by
 refine za3 (fun w' hx'=>?_) k
 have h0:w'.cell? ⟨b,o,none⟩=some u:=by simpa using (zbZ hr hx') 0 u rfl
 have hA:=zcl hft w'
 simp [Instr.loadAt,Instr.sureAddr,loadVar,hA,h0]
theorem zsb {t by_:Nat} {u old:Value} {K:World→Prop} (ht:tyI P t=some (1,by_,false)) (hw:∃ c e,w.heap[b]?=some (.cells c e (0,0))) (hr:w.rangeAt b o [old]) (ho:old.oneCell'=true) (hu:u.oneCell'=true)
   (k:∀ w',ChgAt b o 1 [] w w'→w'.rangeAt b o [u]→K w'):OPU P (Instr.storeAt t (.pointer (some ⟨b,o,none⟩)) u) w K:=by
 refine znU (β:=Raw) (G:=[]) (y:=⟨old⟩) (y':=⟨u⟩) (G':=[]) ht ⟨[old],⟨rfl,rfl,ho⟩,hr,List.nodup_nil,Wr.nil w,by simp,hw⟩ ⟨[u],⟨rfl,rfl,hu⟩,rfl⟩ List.nodup_nil (Wr.nil w) (by simp) fun w' hc hO=>k w' hc ?_
 obtain ⟨cs,⟨_,rfl,_⟩,hr',_⟩:=hO
 exact hr'
theorem VarI.mono {lo' hi':Nat} {x:α} (h:VarI lo hi w g x) (h1:lo'≤lo) (h2:hi≤hi'):VarI lo' hi' w g x:=by
 obtain ⟨F,h,hF⟩:=h;exact ⟨F,h,fun b hb=>by have:=hF b hb;omega⟩
theorem ze8 {t ty:TypeId} {by_:Nat} {u:Value} {x:β} {l:List β} {GX:List Nat} {K:World→Value→World→Prop} {C:Value→World→Prop} (ht:P.underlying t=some (.slice e)) (he:tyI P e=some (Rep.size β,by_,Rep.agg β)) (hz:zbI P e=true)
   (hzc:(P.info? e).map (fun i=>(i.zero.map (·.cells.size)))=some (some (Rep.size β))) (hsz:Rep.size β≤1000) (hv:RowG G e w v l) (hn:G.Nodup) (hx:Mine GX w u x) (hd:∀ c∈GX,c∉G) (hm:l.length+1≤maxLen) (hb:(l.length+1)*by_≤140737488355328)
   (k:∀ w1 v' w' G',Ext w w1→Chg G w1 w'→RowG G' e w' v' (l++[x])→G'.Nodup→(∀ c∈G',c∈G∨c∈GX∨w.heap.size≤c)→K w1 v' w')
   (hC:∀ s w1,Ext w w1→OP P (Builtin.append_ #[t,t] ty [v,s].toArray) w1 (K w1)→C s w1):OP P (Instr.buildSlice t 1 #[(0,u)]) w C:=by
 refine zgL ht he hz hsz hx fun w1 hx1 hm1=>?_
 obtain ⟨⟨cs,⟨a,cap,Fi,xs,rfl,h1,h2,hc,h4⟩,hveq⟩,hn1,hw1⟩:=hm1
 simp only [mkv,Rep.agg,cond_false,List.headD_cons,Value.slice.injEq,List.length_cons,List.length_nil] at hveq
 obtain ⟨rfl,_,rfl⟩:=hveq
 rcases h4 with ⟨h4,_⟩ | ⟨b,o,hab,hFe,hra,hbl⟩
 · simp at h4
 simp only [List.cons.injEq] at hFe
 obtain ⟨_,rfl⟩:=hFe
 refine hC _ w1 hx1 ?_
 have key:∀ (v:Value) (F:List Nat),RowF F e w v l→F.Nodup→(∀ c∈F,c∈G)→OP P (Builtin.append_ #[t,t] ty [v,.slice (some ⟨w.heap.size,0,none⟩) 1 1].toArray) w1 (K w1):=by
   intro v F hF hFn hFG
   have hF1:=hF.ext hx1
   have hdd:(GX++F).Nodup:=by
     rw [List.nodup_append]
     exact ⟨hx.nodup,hFn,fun p hp q hq e=>hd p hp (hFG _ (e▸hq))⟩
   refine zfv (m:=[x]) ht he hzc hF1 hFn rfl hc (.inr ⟨b,o,hab,hra⟩) (hw1.sub (by simp +contextual)) hdd (by simpa using hm) (by simpa using hb) fun v' w' F' hch hfull hr' hn' hs'=>?_
   have hown:∀ c∈v.ownBlock.toList,c∈G:=fun c hc=>by
     obtain ⟨xs,Fi,_,_,rfl,_⟩:=hF
     exact hFG c (by simp only [List.mem_append];exact .inl hc)
   refine k w1 v' w' F' hx1 (hch.mono hown) (.inr hr') hn' fun c hc=>?_
   rcases hs' c hc with h | h | h
   · exact .inl (hFG c h)
   · exact .inr (.inl h)
   exact .inr (.inr (Nat.le_trans hx1.size h))
 rcases hv with ⟨a0,rfl,rfl,rfl⟩ | hF
 · have kn:=key (.slice none 0 0) [] (zgK e w) List.nodup_nil (by simp)
   cases a0 with
   | none=>exact kn
   | some x0=>
     simp only [Option.some.injEq,Addr.mk.injEq] at hab
     obtain ⟨rfl,rfl,_⟩:=hab
     exact zie (ze4 (α:=β) (n:=1) ht he hzc (by simpa using Cells.len hc) hra (by omega) (by rw [zap];omega) (by simpa using hb)) kn
 exact key v G hF hn (fun _ h=>h)
theorem zbH {t:TypeId} {by_:Nat} {u:Value} {x:β} {K:Value→World→Prop} (ht:P.underlying t=some (.slice e)) (he:tyI P e=some (Rep.size β,by_,Rep.agg β)) (hz:zbI P e=true) (hsz:Rep.size β≤1000) (hx:Mine [] w u x)
   (k:∀ v w',Ext w w'→RowI w.heap.size w'.heap.size e w' v [x]→K v w'):OP P (Instr.buildSlice t 1 #[(0,u)]) w K:=by
 obtain ⟨⟨cs,hr,rfl⟩,hn,hw⟩:=hx
 have hcl:=zdW hr
 have hlen:=Rep.len hr
 have hvs:(mkv β cs).cells.size=Rep.size β:=by rw [←Array.length_toList,hcl,hlen]
 obtain ⟨i,d,hi,hd,hs,hby,hg⟩:=zcF he
 unfold zbI at hz
 rw [hi] at hz
 obtain ⟨z,hz⟩:=Option.isSome_iff_exists.1 hz
 have hpos:=Rep.pos (α:=β)
 refine ⟨_,w.alloc (.cells (mkv β cs).cells e),?_,k (.slice (some ⟨w.heap.size,0,none⟩) 1 1) _ (zaZ w _) (.inr ⟨[w.heap.size],⟨cs,[],⟨by simp [hlen],.inr ⟨w.heap.size,1,(mkv β cs).cells,rfl,Nat.zero_le _,heap_alloc_new w _,Nat.le_refl _,by rw [zap];omega,by rw [hvs,Nat.one_mul],?_⟩⟩,Cells.single (zbY hr (zaZ w _)),rfl,Wr.nil _⟩,by simp,?_⟩)⟩
 · have hne:¬Rep.size β=0:=by omega
   have h24:¬2^24<Rep.size β:=by omega
   simp only [Instr.buildSlice,Sem.run_bind,run_underlying ht,Result.andThen_ok,zaE he,Nat.one_mul]
   simp [h24,hne,zeroValue,typeInfo,hi,hz,zn2 _ _ _ hvs,newRow]
 · rw [hcl,List.length_singleton,Nat.one_mul,List.take_of_length_le (by omega)]
 intro b hb
 simp only [List.mem_cons,List.not_mem_nil,or_false] at hb
 subst hb
 exact ⟨Nat.le_refl _,(Array.getElem?_eq_some_iff.1 (heap_alloc_new w _)).1⟩
theorem Ext.toX {X:Nat→Prop} (h:Ext w w'):ExtX X w w':=⟨h.os,h.tape,h.output,h.size,fun b hb _=>h.block b hb⟩
theorem Chg.toX {X:Nat→Prop} (h:Chg G w w') (hX:∀ c∈G,X c):ExtX X w w':=⟨h.os,h.tape,h.output,h.size,fun b hb hn=>h.block b hb fun hm=>hn (hX b hm)⟩
theorem zk1 {X:Nat→Prop} {t i off:Nat} {K:Value→Prop} (hf:zdy P t i=some off) (k:K (.pointer (some ⟨b,o+off,none⟩))):RDX P X (Instr.fieldAt t (.pointer (some ⟨b,o,none⟩)) i) w K:=by
 obtain ⟨v,h1,h2⟩:=zaa (P:=P) (w:=w) (K:=fun v=>∀ w':World,(Instr.fieldAt t (.pointer (some ⟨b,o,none⟩)) i).run P w'=.ok v w'∧v=.pointer (some ⟨b,o+off,none⟩)) hf (fun w'=>by
   obtain ⟨v,h1,h2⟩:=zaa (P:=P) (w:=w') (b:=b) (o:=o) (K:=fun v=>v=.pointer (some ⟨b,o+off,none⟩)) hf rfl
   subst h2
   exact ⟨h1 w' (Ext.refl w'),rfl⟩)
 refine ⟨v,fun w' _=>(h2 w').1,?_⟩
 rw [(h2 w).2];exact k
theorem zof {X:Nat→Prop} {ft by_:Nat} {u:Value} {K:Value→Prop} (hft:tyI P ft=some (1,by_,false)) (hr:w.rangeAt b o [u]) (hX:¬X b) (k:K u):RDX P X (Instr.loadAt ft (.pointer (some ⟨b,o,none⟩))) w K:=by
 refine ⟨u,fun w' hx'=>?_,k⟩
 have hb:=zhf hr (by simp)
 have h0:w'.cell? ⟨b,o,none⟩=some u:=by simpa using (zbo hr (hx'.block b hb hX)) 0 u rfl
 have hA:=zcl hft w'
 simp [Instr.loadAt,Instr.sureAddr,loadVar,hA,h0]
end
end Go.Sh
namespace Go.Sh
open Rep (rep)
theorem ChgI.toC {g:Nat} {w w':World} (h:ChgI g (g+1) w w'):Chg [g] w w':=⟨h.os,h.tape,h.output,h.size,fun i hi hn=>h.block i hi (by simp only [List.mem_singleton] at hn;omega)⟩
theorem Ext.chgL {F:List Nat} {W w w':World} (h:Ext W w) (k:Chg F w w') (hl:∀ c∈F,W.heap.size≤c):Ext W w':=
 ⟨k.os.trans h.os,k.tape.trans h.tape,k.output.trans h.output,Nat.le_trans h.size k.size,fun i hi=>(k.block i (Nat.lt_of_lt_of_le hi h.size) fun e=>by have:=hl i e;omega).trans (h.block i hi)⟩
theorem Mine.chgF {α:Type} [Rep α] {F G:List Nat} {w w':World} {v:Value} {x:α} (h:Mine F w v x) (hc:Chg G w w') (hd:∀ c∈F,c∉G):Mine F w' v x:=h.keep fun c hcm=>hc.block c (h.lt c hcm) (hd c hcm)
def IsK {α:Type} [Rep α] (lo hi:Nat) (w:World) (v:Value) (x:α):Prop:=hi≤w.heap.size∧∀ w':World,(∀ b,lo≤b→b<hi→w'.heap[b]?=w.heap[b]?)→Is w' v x
section
variable {α:Type} [Rep α] {lo hi:Nat} {w w':World} {v:Value} {x:α}
theorem IsK.is (h:IsK lo hi w v x):Is w v x:=h.2 w fun _ _ _=>rfl
theorem IsK.chgF {G:List Nat} (h:IsK lo hi w v x) (hc:Chg G w w') (hd:∀ c∈G,c<lo∨hi≤c):IsK lo hi w' v x:=
 ⟨Nat.le_trans h.1 hc.size,fun w2 h2=>h.2 w2 fun b h3 h4=>(h2 b h3 h4).trans (hc.block b (Nat.lt_of_lt_of_le h4 h.1) fun hm=>by have:=hd b hm;omega)⟩
theorem IsK.ext (h:IsK lo hi w v x) (hx:Ext w w'):IsK lo hi w' v x:=h.chgF (hx.chg []) (by simp)
theorem OwnI.isK (h:OwnI lo hi w v x) (hh:hi≤w.heap.size):IsK lo hi w v x:=by
 obtain ⟨F,hm,hF⟩:=h
 exact ⟨hh,fun w' hw=>⟨F,by
   obtain ⟨cs,hr,hv⟩:=hm.own
   exact ⟨cs,Rep.keep hr fun b hb=>hw b (hF b hb).1 (hF b hb).2,hv⟩⟩⟩
theorem IsK.take {l:List α} {a:Option Addr} {cap k:Nat} (h:IsK lo hi w (.slice a l.length cap) l) (hk:k≤l.length):IsK lo hi w (.slice a k cap) (l.take k):=⟨h.1,fun w' hw=>zm4 (h.2 w' hw) k hk⟩
theorem IsK.drop {l:List α} {a:Option Addr} {cap k:Nat} (h:IsK lo hi w (.slice a l.length cap) l) (hk:k≤l.length):IsK lo hi w (.slice (if cap=k then a else a.map (·.add (k*Rep.size α))) (l.length-k) (cap-k)) (l.drop k):=⟨h.1,fun w' hw=>zmT (h.2 w' hw) k hk _ rfl⟩
end
end Go.Sh
namespace Go.Proofs.YtbnjpfjjmhodnaaGreat
open Go Go.Sh Go.Proofs
open Rep (rep)
def F201 (a0 a1 a2:Value) (w:World) (R:VW):Prop:=
 LOOPI [7] [(iV 0)] w fun u2 w next2=>
 rN 162 3 a1 w fun x10=>
 rC (u2 7) x10 w fun x11=>
 BR x11
 (JOIN [] (fun J6=>
 rX 162 a1 (u2 7) w fun x16=>
 rF 209 x16 0 w fun x17=>
 rL 3 x17 w fun x18=>
 rB .eql 3 T0 U0 x18 (iV 4) w fun x19=>
 BR x19
 (rN 24 3 a2 w fun x33=>
 cL 71 [a0,x33] w fun x34 w=>
 rX 24 a2 x34 w fun x35=>
 rL 9 x35 w fun x36=>
 rX 162 a1 (u2 7) w fun x37=>
 rF 209 x37 1 w fun x38=>
 oS 9 x38 x36 w fun w=>
 J6 [] w)
 (rX 162 a1 (u2 7) w fun x23=>
 rF 209 x23 0 w fun x24=>
 rL 3 x24 w fun x25=>
 rB .eql 3 T0 U0 x25 (iV 5) w fun x26=>
 BR x26
 (rN 24 3 a2 w fun x33=>
 cL 71 [a0,x33] w fun x34 w=>
 rX 24 a2 x34 w fun x35=>
 rL 9 x35 w fun x36=>
 rX 162 a1 (u2 7) w fun x37=>
 rF 209 x37 1 w fun x38=>
 oS 9 x38 x36 w fun w=>
 J6 [] w)
 (J6 [] w))) (fun u6 w=>
 rX 162 a1 (u2 7) w fun x44=>
 rF 209 x44 3 w fun x45=>
 rL 162 x45 w fun x46=>
 cL 201 [a0,x46,a2] w fun x48 w=>
 rX 162 a1 (u2 7) w fun x49=>
 rF 209 x49 3 w fun x50=>
 oS 162 x50 x48 w fun w=>
 rX 162 a1 (u2 7) w fun x56=>
 rF 209 x56 4 w fun x57=>
 rL 162 x57 w fun x58=>
 cL 201 [a0,x58,a2] w fun x60 w=>
 rX 162 a1 (u2 7) w fun x61=>
 rF 209 x61 4 w fun x62=>
 oS 162 x62 x60 w fun w=>
 rA (u2 7) (iV 1) w fun x13=>
 next2 [x13] w))
 (R a1 w)
def cfg201:Cfg:=⟨extL,[(6,549755797504,[])],[(2,9223372036854775680,[7])],[],[],[],[]⟩
theorem F201_call {a0 a1 a2:Value} {w:World} {R:VW} (h:F201 a0 a1 a2 w R):cL 201 [a0,a1,a2] w R:=co (g:=cfg201) Tryz.func201 (by kernel_rfl) (by kernel_rfl) (by kernel_rfl) h
theorem CurAt.chgF {W w w':World} {g:Nat} {bs:List UInt8} {s:Cur} {F:List Nat} (h:CurAt W g bs s w) (hc:Chg F w w') (hg:g∉F) (hl:∀ c∈F,W.heap.size≤c):CurAt W g bs s w':=by
 obtain ⟨v,h0,hx,h2,h3,h4⟩:=h
 exact ⟨v,h0,hx.chgL hc hl,h2,h3.chg hc hg,h4⟩
theorem zog {a:Prop} [Decidable a] {Q kt kf:Prop} (hq:a→Q) (key:Q→kt) (rest:(Q→kt)→¬a→kf):BR (.bool (decide a)) kt kf:=br (fun h=>key (hq h)) fun h=>rest key h
theorem ztD {γ β:Type} [Rep γ] [Rep β] {w w2:World} {v u:Value} {F G G2:List Nat} {g:Nat} {m2:List β} {upd:List β→γ}
   (hb:∀ w' G' l',Chg G w w'→Mine G' w' u l'→(∀ c∈G',c∈G∨c∉F)→∃ F',MH v F' w' (upd l')∧∀ c∈F',c∈F∨c∈G') (hGF:∀ c∈G,c∈F) (hc:Chg (g :: G) w w2) (hg:g∉F) (hgl:g<w.heap.size)
   (hM2:Mine G2 w2 u m2) (hs:∀ c∈G2,c∈G):∃ F',Mine F' w2 v (upd m2)∧∀ c∈F',c∈F:=by
 obtain ⟨w3,h3⟩:∃ w3:World,w3={ w2 with heap:=w2.heap.setIfInBounds g w.heap[g] }:=⟨_,rfl⟩
 have hgl2:g<w2.heap.size:=Nat.lt_of_lt_of_le hgl hc.size
 have hne:∀ c,c≠g→w3.heap[c]?=w2.heap[c]?:=fun c hcg=>by
   rw [h3];exact Array.getElem?_setIfInBounds_ne (fun e=>hcg e.symm)
 have heq:w3.heap[g]?=w.heap[g]?:=by
   rw [h3]
   show (w2.heap.setIfInBounds g w.heap[g])[g]?=_
   rw [Array.getElem?_setIfInBounds_self_of_lt hgl2,Array.getElem?_eq_getElem hgl]
 have hsz:w3.heap.size=w2.heap.size:=by rw [h3];simp
 have hc3:Chg G w w3:=⟨by rw [h3];exact hc.os,by rw [h3];exact hc.tape,by rw [h3];exact hc.output,by rw [hsz];exact hc.size,fun c hcl hcG=>by
   by_cases e:c=g
   · rw [e];exact heq
   rw [hne c e];exact hc.block c hcl (by simp [e,hcG])⟩
 have hgG2:∀ c∈G2,c≠g:=fun c hcm e=>hg (by rw [←e];exact hGF c (hs c hcm))
 obtain ⟨F',h1,h2⟩:=hb w3 G2 m2 hc3 (hM2.keep fun c hcm=>hne c (hgG2 c hcm)) fun c hcm=>.inl (hs c hcm)
 have hF':∀ c∈F',c∈F:=fun c hcm=>(h2 c hcm).elim id fun h=>hGF c (hs c h)
 refine ⟨F',Mine.keep h1 fun c hcm=>(hne c fun e=>hg (by rw [←e];exact hF' c hcm)).symm,hF'⟩
theorem zl6 {P:Program} {w:World} {α:Type} [Rep α] {t e:TypeId} {by_:Nat} {F:List Nat} {v:Value} {l:List α} {k:Nat} {K:Value→Prop} (ht:P.underlying t=some (.slice e)) (he:tyI P e=some (Rep.size α,by_,Rep.agg α)) (hm:Mine F w v l) (hk:k<l.length)
   (kk:∀ b a cap G,v=.slice (some ⟨b,a,none⟩) l.length cap→Lens (MH v) F w b (a+k*Rep.size α) G l[k] (fun y=>l.set k y)→K (.pointer (some ⟨b,a+k*Rep.size α,none⟩))):RD P (Instr.indexAt t v (.int .i64 (k:Int))) w K:=by
 obtain ⟨b,a,cap,G,hv,hL⟩:=ztm hm hk
 refine za3 (v:=.pointer (some ⟨b,a+k*Rep.size α,none⟩)) (fun w' _=>?_) (kk _ _ _ _ hv hL)
 rw [hv,zcm ht he (by omega) (by omega)];simp
theorem zk2 {α:Type} {D r:List α} {x y:α} {k:Nat} (h:D.length=k):(D++x :: r).set k y=D++y :: r:=by
 subst h;rw [List.set_append_right _ _ (Nat.le_refl _)];simp
theorem zhy {α:Type} {D r:List α} {x:α} {k:Nat} (h:D.length=k) (hk:k<(D++x :: r).length):(D++x :: r)[k]=x:=by
 subst h;simp
def znd (l:List DStmt):Prop:=∀ {W w:World} {g:Nat} {bs:List UInt8} {s:Cur} {v vp:Value} {F:List Nat} {lp hp:Nat} {pr:List ByteArray},CurAt W g bs s w→Mine F w v l→g∉F→(∀ c∈F,W.heap.size≤c)→IsK lp hp w vp pr→(g<lp∨hp≤g)→(∀ c∈F,c<lp∨hp≤c)→0<pr.length→pr.length≤1000 →
 CALL Tryz.prog 201 [.pointer (some ⟨g,0,none⟩),v,vp] w fun r w'=>r=v∧Chg (g :: F) w w'∧CurAt W g bs (zdI bs pr l s).2 w'∧∃ F',Mine F' w' v (zdI bs pr l s).1∧∀ c∈F',c∈F
theorem zqx {fld off:Nat} {sel:DStmt→List DStmt} {put:DStmt→List DStmt→DStmt} (hfd:zdy Tryz.prog 209 fld=some off) (hpp:∀ x m m',put (put x m) m'=put x m') (hsp:∀ x m,sel (put x m)=m)
   (hl:∀ {H:List Nat→World→List DStmt→Prop} {F:List Nat} {w:World} {b o:Nat} {G:List Nat} {x:DStmt} {upd:DStmt→List DStmt},Lens H F w b o G x upd→∃ G1,Lens H F w b (o+off) G1 (sel x) (fun y=>upd (put x y)))
   {W w:World} {g k:Nat} {bs:List UInt8} {s:Cur} {v vp:Value} {F:List Nat} {lp hp:Nat} {pr:List ByteArray} {D r:List DStmt} {y:DStmt} {K:World→Prop} (hC:CurAt W g bs s w) (hM:Mine F w v (D++y :: r)) (hD:D.length=k) (hgF:g∉F) (hFW:∀ c∈F,W.heap.size≤c)
   (hP:IsK lp hp w vp pr) (hgP:g<lp∨hp≤g) (hFP:∀ c∈F,c<lp∨hp≤c) (hp0:0<pr.length) (hp1:pr.length≤1000) (ih:znd (sel y))
   (kk:∀ w' F',Chg (g :: F) w w'→CurAt W g bs (zdI bs pr (sel y) s).2 w'→Mine F' w' v (D++put y (zdI bs pr (sel y) s).1 :: r)→(∀ c∈F',c∈F)→IsK lp hp w' vp pr→K w') :
   RD Tryz.prog (Instr.indexAt 162 v (.int .i64 (k:Int))) w fun x44=>RD Tryz.prog (Instr.fieldAt 209 x44 fld) w fun x45=>RD Tryz.prog (Instr.loadAt 162 x45) w fun x46=>
     CALL Tryz.prog 201 [.pointer (some ⟨g,0,none⟩),x46,vp] w fun x48 w=>RD Tryz.prog (Instr.indexAt 162 v (.int .i64 (k:Int))) w fun x49=>RD Tryz.prog (Instr.fieldAt 209 x49 fld) w fun x50=>
     OPU Tryz.prog (Instr.storeAt 162 x50 x48) w fun w=>K w:=by
 have hkl:k<(D++y :: r).length:=by simp;omega
 refine zl6 zeE zbC hM hkl fun b a cap G hv hL=>?_
 rw [zhy hD hkl] at hL
 obtain ⟨G3,hL3⟩:=hl hL
 obtain ⟨cs3,_,_,_,_,hb3,_⟩:=hL3.here
 have hbF:b∈F:=hL3.sub b (by simp)
 obtain ⟨ub,hMb,hrb,hGb,hbb⟩:=hL3.row
 have hgl:=hC.lt.2
 refine zaa hfd ?_
 refine zi6 zcY hrb ?_
 refine (ih hC hMb (fun h=>hgF (hGb _ h)) (fun c hc=>hFW c (hGb c hc)) hP hgP (fun c hc=>hFP c (hGb c hc)) hp0 hp1).mono ?_
 rintro r48 w3 ⟨h48,hc3,hC3,Gb',hMb',hGb'⟩
 rw [h48]
 obtain ⟨F3,hM3,hF3⟩:=ztD hbb hGb hc3 hgF hgl hMb' hGb'
 rw [zk2 hD] at hM3
 have hP3:=hP.chgF hc3 fun c hc=>by
   rcases List.mem_cons.1 hc with rfl | h
   · exact hgP
   exact hFP c (hGb c h)
 have hkl3:k<(D++put y (zdI bs pr (sel y) s).1 :: r).length:=by simp;omega
 refine zl6 zeE zbC hM3 hkl3 fun b5 a5 cap5 G5 hv5 hL5=>?_
 rw [zhy hD hkl3] at hL5
 have hba:b5=b∧a5=a:=by
   rw [hv] at hv5
   simp only [Value.slice.injEq,Option.some.injEq,Addr.mk.injEq,and_true] at hv5
   exact ⟨hv5.1.1.symm,hv5.1.2.symm⟩
 obtain ⟨rfl,rfl⟩:=hba
 obtain ⟨G6,hL6⟩:=hl hL5
 obtain ⟨u6,hM6,hr6,hG6,_⟩:=hL6.row
 have hbk:w3.heap[b5]?=w.heap[b5]?:=hc3.block b5 (hM.lt b5 hbF) (by
   simp only [List.mem_cons,not_or]
   exact ⟨fun e=>hgF (by rw [←e];exact hbF),hb3⟩)
 have hu6:u6=ub:=by
   have h1:=hr6 0 u6 rfl
   have h2:=(zbo hrb hbk) 0 ub rfl
   rw [h1] at h2
   exact Option.some.inj h2
 subst hu6
 refine zaa hfd ?_
 refine zkw zcY hL6 hM6 (fun c hc=>.inl hc) fun w4 hc4 ⟨F4,hM4,hF4⟩=>?_
 have hM4:Mine F4 w4 v ((D++put y (zdI bs pr (sel y) s).1 :: r).set k (put (put y (zdI bs pr (sel y) s).1) (sel (put y (zdI bs pr (sel y) s).1)))):=hM4
 rw [zk2 hD,hpp,hsp] at hM4
 refine kk w4 F4 ((hc3.mono fun c hc=>?_).trans (hc4.mono fun c hc=>by simp [hF3 c hc])) (hC3.chgF hc4 (fun h=>hgF (hF3 _ h)) fun c hc=>hFW c (hF3 c hc)) hM4 (fun c hc=>?_) (hP3.chgF hc4 fun c hc=>hFP c (hF3 c hc))
 · rcases List.mem_cons.1 hc with rfl | hc
   · simp
   simp [hGb c hc]
 rcases hF4 c hc with h | h
 · exact hF3 c h
 exact hF3 c (hG6 c h)
theorem ztE {bs:List UInt8} {pr:List ByteArray} (x:DStmt) (s:Cur) {n:ByteArray} {s2:Cur} (h:(if x.kind=4∨x.kind=5 then (zcs bs pr s,zao bs (pr.length:Int) s) else (x.name,s))=(n,s2)) :
   zm8 bs pr x s=(.mk x.kind n x.term (zdI bs pr x.body s2).1 (zdI bs pr x.els (zdI bs pr x.body s2).2).1,(zdI bs pr x.els (zdI bs pr x.body s2).2).2):=by
 obtain ⟨k,nm,t,b,e⟩:=x
 have h:(if k=4∨k=5 then (zcs bs pr s,zao bs (pr.length:Int) s) else (nm,s))=(n,s2):=h
 show _=(DStmt.mk k n t (zdI bs pr b s2).1 (zdI bs pr e (zdI bs pr b s2).2).1,(zdI bs pr e (zdI bs pr b s2).2).2)
 by_cases hk:k=4∨k=5
 · rw [if_pos hk] at h
   simp only [Prod.mk.injEq] at h
   obtain ⟨rfl,rfl⟩:=h
   rw [zm8,if_pos hk]
 rw [if_neg hk] at h
 simp only [Prod.mk.injEq] at h
 obtain ⟨rfl,rfl⟩:=h
 rw [zm8,if_neg hk]
def zvj (x:DStmt) (m:List DStmt):DStmt:=.mk x.kind x.name x.term m x.els
def zvs (x:DStmt) (m:List DStmt):DStmt:=.mk x.kind x.name x.term x.body m
theorem zgt {l:List DStmt} (ih:∀ x∈l,znd x.body∧znd x.els):znd l:=by
 intro W w g bs s v vp F lp hp pr hC hM hgF hFW hP hgP hFP hp0 hp1
 have hln:=zan hM.is
 refine F201_call ?_
 unfold F201
 refine zas l.length (fun k us w'=>us=[.int .i64 (k:Int)]∧∃ (D:List DStmt) (s1:Cur) (F1:List Nat),D.length=k∧k≤l.length∧zdI bs pr l s=(D++(zdI bs pr (l.drop k) s1).1,(zdI bs pr (l.drop k) s1).2)∧Chg (g :: F) w w'∧CurAt W g bs s1 w' ∧
     Mine F1 w' v (D++l.drop k)∧(∀ c∈F1,c∈F)∧IsK lp hp w' vp pr) 0 (Nat.zero_le _) ⟨rfl,[],s,F,rfl,Nat.zero_le _,by simp,Chg.refl _ _,hC,by simpa using hM,fun _ h=>h,hP⟩ ?_
 rintro k m u w1 hkm ⟨hu,D,s1,F1,hD,hkl,hfx,hc1,hC1,hM1,hF1,hP1⟩
 simp only [List.map_cons,List.map_nil,List.cons.injEq,and_true] at hu
 rw [hu]
 refine zag zeE hM1.is ?_
 have hlen:(D++l.drop k).length=l.length:=by simp;omega
 rw [hlen]
 refine zah ?_
 refine br (fun hlt=>?_) (fun hge=>?_)
 · have hk:k<l.length:=by omega
   obtain ⟨x,hx⟩:∃ x,x=l[k]:=⟨_,rfl⟩
   have hxm:x∈l:=by rw [hx];exact List.getElem_mem hk
   have hdr:l.drop k=x :: l.drop (k+1):=by rw [hx];exact List.drop_eq_getElem_cons hk
   rw [hdr] at hM1
   rw [hdr,zdI] at hfx
   have hkl1:k<(D++x :: l.drop (k+1)).length:=by simp;omega
   refine JOIN.mk (fun us w'=>∃ F2 n s2,Chg (g :: F) w w'∧CurAt W g bs s2 w'∧Mine F2 w' v (D++DStmt.mk x.kind n x.term x.body x.els :: l.drop (k+1))∧(∀ c∈F2,c∈F)∧IsK lp hp w' vp pr ∧
       (if x.kind=4∨x.kind=5 then (zcs bs pr s1,zao bs (pr.length:Int) s1) else (x.name,s1))=(n,s2)) ?_ ?_
   · refine zad zeE zbC hM1.is hkl1 fun b16 o16 hA16=>?_
     rw [zhy hD hkl1] at hA16
     refine zaa zes ?_
     refine zac ty3 (zb8 hA16) (Ext.refl _) fun hI18=>?_
     refine zai ?_
     refine zog (Q:=x.kind=4∨x.kind=5) .inl (fun hQ=>?_) (fun key h4=>?_)
     · refine zag u24 hP1.is ?_
       refine (zct hC1 (by omega)).mono ?_
       rintro _ w2 ⟨hc2',hC2,rfl⟩
       have hc2:=hc2'.toC
       have hM2:=hM1.chgF hc2 fun c hc h=>by
         simp only [List.mem_singleton] at h
         exact hgF (h▸hF1 c hc)
       have hP2:=hP1.chgF hc2 fun c hc=>by
         simp only [List.mem_singleton] at hc
         exact hc▸hgP
       have hbx:=zcr bs (n:=(pr.length:Int)) (by omega) s1
       refine zb0 u24 ty9 hP2.is hbx.1 (by omega) fun b35 o35 hA35=>?_
       refine zav ty9 hA35 (Ext.refl _) fun hS36=>?_
       refine zkX zeE zbC hM2 hkl1 fun b37 o37 G37 hL37=>?_
       rw [zhy hD hkl1] at hL37
       refine zaa zcq ?_
       obtain ⟨G38,hL38⟩:=zlP hL37
       refine zgP ty9 hL38 (zoc hS36) fun w3 F3 hc3 hM3 hF3=>?_
       have hM3:Mine F3 w3 v ((D++x :: l.drop (k+1)).set k (.mk x.kind (pr[(zbs bs (pr.length:Int) s1).toNat]'(by omega)) x.term x.body x.els)):=hM3
       rw [zk2 hD] at hM3
       refine ⟨F3,_,_,((hc1.trans (hc2.mono (by simp))).trans (hc3.mono fun c hc=>by simp [hF1 c hc])),hC2.chgF hc3 (fun h=>hgF (hF1 _ h)) (fun c hc=>hFW c (hF1 c hc)),hM3,fun c hc=>hF1 c (hF3 c hc),hP2.chgF hc3 (fun c hc=>hFP c (hF1 c hc)),?_⟩
       rw [if_pos hQ]
       unfold zcs
       rw [←zd5 (by omega)]
     refine zad zeE zbC hM1.is hkl1 fun b23 o23 hA23=>?_
     rw [zhy hD hkl1] at hA23
     refine zaa zes ?_
     refine zac ty3 (zb8 hA23) (Ext.refl _) fun hI25=>?_
     refine zai ?_
     refine br (fun h5=>key (.inr h5)) fun h5=>?_
     exact ⟨F1,x.name,s1,hc1,hC1,by rw [DStmt.eta];exact hM1,hF1,hP1,by rw [if_neg (by omega)]⟩
   rintro u6 w2 ⟨F2,n,s2,hc2,hC2,hM2,hF2,hP2,hn⟩
   have hfs:=ztE x s1 hn
   rw [hfs] at hfx
   refine zqx (fld:=3) (sel:=DStmt.body) (put:=zvj) zdB (fun _ _ _=>rfl) (fun _ _=>rfl) zlQ hC2 hM2 hD (fun h=>hgF (hF2 _ h)) (fun c hc=>hFW c (hF2 c hc)) hP2 hgP (fun c hc=>hFP c (hF2 c hc)) hp0 hp1 (ih x hxm).1 fun w3 F3 hc3 hC3 hM3 hF3 hP3=>?_
   have hF3':∀ c∈F3,c∈F:=fun c hc=>hF2 c (hF3 c hc)
   refine zqx (fld:=4) (sel:=DStmt.els) (put:=zvs) zcZ (fun _ _ _=>rfl) (fun _ _=>rfl) zhS hC3 hM3 hD (fun h=>hgF (hF3' _ h)) (fun c hc=>hFW c (hF3' c hc)) hP3 hgP (fun c hc=>hFP c (hF3' c hc)) hp0 hp1 (ih x hxm).2 fun w4 F4 hc4 hC4 hM4 hF4 hP4=>?_
   refine zaf (by omega) ?_
   refine ⟨m-1,by omega,k+1,by omega,rfl,D++[DStmt.mk x.kind n x.term (zdI bs pr x.body s2).1 (zdI bs pr x.els (zdI bs pr x.body s2).2).1],_,F4,by simp [hD],by omega,?_,(hc2.trans (hc3.mono fun c hc=>?_)).trans (hc4.mono fun c hc=>?_),hC4,?_,fun c hc=>hF3' c (hF4 c hc),hP4⟩
   · rw [hfx];simp [DStmt.body,DStmt.els,zvj]
   · rcases List.mem_cons.1 hc with rfl | hc
     · simp
     simp [hF2 c hc]
   · rcases List.mem_cons.1 hc with rfl | hc
     · simp
     simp [hF3' c hc]
   simpa [zvs,zvj,DStmt.body,DStmt.els,DStmt.kind,DStmt.name,DStmt.term] using hM4
 have hk:k=l.length:=by omega
 subst hk
 rw [List.drop_length,zoa] at hfx
 rw [List.drop_length] at hM1
 rw [hfx]
 exact ⟨rfl,hc1,hC1,F1,hM1,hF1⟩
theorem zqy (l:List DStmt):znd l:=by
 refine zgt fun x _=>?_
 refine DStmt.ind (p:=fun x=>znd x.body∧znd x.els) (fun t hb he=>⟨?_,?_⟩) x
 · intro W w g bs s v vp F lp hp pr;exact zgt hb
 intro W w g bs s v vp F lp hp pr;exact zgt he
def F226 (a0:Value) (w:World) (R:VW):Prop:=
 oP (Instr.box 75 a0) w fun x1 w=>
 oP (Instr.alloc 75 true (.tuple #[])) w fun x2 w=>
 rF 75 x1 0 w fun x5=>
 rL 3 x5 w fun x6=>
 rF 75 x1 1 w fun x7=>
 rL 3 x7 w fun x8=>
 rF 75 x1 2 w fun x9=>
 rL 9 x9 w fun x10=>
 rD (Instr.build 75 #[(0,x6),(1,x8),(2,x10)]) w fun x11=>
 oP (Instr.alloc 75 true (.tuple #[])) w fun x3 w=>
 oS 75 x3 x11 w fun w=>
 LOOPI [4] [(iV 0)] w fun u3 w next3=>
 rF 75 x1 3 w fun x13=>
 rL 73 x13 w fun x14=>
 rN 73 3 x14 w fun x15=>
 rC (u3 4) x15 w fun x16=>
 BR x16
 ((fun w=>rF 75 x3 3 w fun x19=>
 rL 73 x19 w fun x20=>
 rF 75 x1 3 w fun x21=>
 rL 73 x21 w fun x22=>
 rX 73 x22 (u3 4) w fun x24=>
 rL 75 x24 w fun x25=>
 (fun w_=>cL 226 [x25] w_ fun x26 w=>
 Ext w_ w ∧
 (fun w_=>oP (Instr.buildSlice 73 1 #[(0,x26)]) w_ fun x27 w=>
 Ext w_ w ∧
 (oP (Builtin.append_ #[73,73] 73 [x20,x27].toArray) w fun x28 w=>
 rF 75 x3 3 w fun x29=>
 oS 73 x29 x28 w fun w=>
 rA (u3 4) (iV 1) w fun x18=>
 next3 [x18] w)) w) w) (World.drew1 w))
 (rL 75 x3 w fun x30=>
 oS 75 x2 x30 w fun w=>
 rD (za9 75 x2) w fun r2=>R r2 w)
def cfg226:Cfg:=⟨extL,[],[(3,1073737744,[4])],[(5,[0,1,2,3,4,5,6,7,8,9,10,11],384)],[],[],[]⟩
theorem F226_call {a0:Value} {w:World} {R:VW} (h:F226 a0 w R):cL 226 [a0] w R:=co (g:=cfg226) Tryz.func226 (by kernel_rfl) (by kernel_rfl) (by kernel_rfl) h
def zqz (t:DTerm):Prop:=∀ {w W:World} {v:Value},Is W v t→Ext W w→wT t≤1048576 →
 CALL Tryz.prog 226 [v] w fun r w'=>Ext w w'∧Own w.heap.size w' r t
theorem zl7 {t:DTerm} (ih:∀ x∈t.kids,zqz x):zqz t:=by
 intro w W v h e hw
 have hkl:t.kids.length≤1048576:=by have:=ztu t;have:=zqj t.kids;omega
 have hkw:∀ x∈t.kids,wT x≤1048576:=fun x hx=>by have:=ztu t;have:=zqj t.kids;have:=zuy wT hx;omega
 refine F226_call ?_
 unfold F226
 refine zaV h e fun w1 hx1 hA=>?_
 have hs1:=hx1.size
 refine zcV zuf fun w2 hx2 hB2=>?_
 have hg2:=hB2.lt
 have hs2:=hx2.size
 refine zaa zf9 ?_
 refine zac ty3 (zb7 hA) hx2 fun hI6=>?_
 refine zaa zfw ?_
 refine zac ty3 (zbT hA) hx2 fun hI8=>?_
 refine zaa zeD ?_
 refine zav ty9 (zbA hA) hx2 fun hS10=>?_
 refine zaS (cells:=#[.int .i64 t.kind,.int .i64 t.num,.string t.name,.slice none 0 0]) (by kernel_rfl) ?_
 refine zcV zuf fun w3 hx3 hB3=>?_
 have hg3:=hB3.lt
 have hs3:=hx3.size
 refine zdK (x:=DTerm.mk t.kind t.num t.name []) (lo:=w3.heap.size) (hi:=w3.heap.size) zc5 rfl hB3 rfl (zeC hI6 hI8 hS10 zbW) fun w4 hc4 hB4=>?_
 have hs4:=hc4.size
 have hx14:Ext w1 w4:=Ext.chgI (hx2.trans hx3) hc4 (by omega)
 refine zas t.kids.length (fun k us w'=>us=[.int .i64 (k:Int)]∧∃ v1 hi,hi≤w'.heap.size∧w4.heap.size≤hi∧Ext w1 w'∧Blk w2.heap.size 75 w' [.int .i64 t.kind,.int .i64 t.num,.string t.name,v1] ∧
     RowI w4.heap.size hi 75 w' v1 (t.kids.take k)∧Blk w1.heap.size 75 w' [.int .i64 0,.int .i64 0,.string ByteArray.empty,.slice none 0 0]∧k≤t.kids.length) 0 (Nat.zero_le _)
     ⟨rfl,.slice none 0 0,w4.heap.size,Nat.le_refl _,Nat.le_refl _,hx14,hB4,zc0 _ _ _ _,(hB2.ext hx3).chgI hc4 (by omega),Nat.zero_le _⟩ ?_
 rintro k m u w5 hkm ⟨hu,v1,hi,hhi,hlo,hx5,hB5,r5,hB25,hkl5⟩
 simp only [List.map_cons,List.map_nil,List.cons.injEq,and_true] at hu
 rw [hu]
 have hs5:=hx5.size
 refine zaa zbX ?_
 refine zab zhV (zaL hA) hx5 fun v14 h14=>?_
 refine zag u73 h14 ?_
 refine zah ?_
 refine br (fun hlt=>?_) (fun hge=>?_)
 · have hk:k<t.kids.length:=by omega
   have hx6:=zaj w5
   have hs6:=hx6.size
   have hx56:=hx5.trans hx6
   refine zaa zbX ?_
   refine zaA zhV (hB5.ext hx6) rfl ?_
   refine zaa zbX ?_
   refine zab zhV (zaL hA) hx56 fun v22 h22=>?_
   refine zad u73 zc5 h22 hk fun b24 o24 hA24=>?_
   refine zab zc5 hA24 hx56 fun v25 h25=>?_
   refine (ih _ (List.getElem_mem hk) h25 hx56 (hkw _ (List.getElem_mem hk))).mono ?_
   rintro r26 w7 ⟨hx7,o26⟩
   have o26:=o26.toI
   have hs7:=hx7.size
   refine ⟨hx7,?_⟩
   have hx57:=hx6.trans hx7
   refine zr1 (α:=DTerm) u73 zc5 z75 zvz (by decide) (r5.ext hx57) (by omega) o26 (by omega) (by omega) (by rw [zap,List.length_take];omega) (by rw [List.length_take];omega) fun v28 w8 hc8 r8=>?_
   have hs8:=hc8.size
   refine zaa zbX ?_
   refine zbR (α:=List DTerm) zhV rfl rfl ((hB5.ext hx57).chgI hc8 (by omega)) (by simp) r8.own fun w9 hc9 hB9=>?_
   have hs9:=hc9.size
   refine zaf (by omega) ?_
   refine ⟨m-1,by omega,k+1,by omega,rfl,v28,w8.heap.size,by omega,by omega,Ext.chgI (Ext.chgI (hx5.trans hx57) hc8 (by omega)) hc9 (by omega),hB9,?_,((hB25.ext hx57).chgI hc8 (by omega)).chgI hc9 (by omega),by omega⟩
   have:=r8.chg hc9 (by omega)
   rwa [←List.take_succ_eq_append_getElem hk] at this
 have hk:t.kids.length≤k:=by omega
 refine zk0 hB5 zc5 ?_
 have hI:=(show I64 t.kind from hI6)
 have ost:OwnI w4.heap.size hi w5 (.agg #[.int .i64 t.kind,.int .i64 t.num,.string t.name,v1]) t:=by
   have:=zeC hI6 hI8 hS10 r5.own
   rwa [List.take_of_length_le hk,DTerm.eta] at this
 refine zdK zc5 rfl hB25 rfl ost fun w6 hc6 hB6=>?_
 refine zi3 hB6 zc5 ?_
 exact ⟨Ext.chgI (hx1.trans hx5) hc6 (by omega),(ost.chg hc6 (by omega)).own.mono (by omega)⟩
theorem zhz (t:DTerm):zqz t:=DTerm.ind (fun t ih {_ _ _}=>zl7 ih) t
section
variable (G L P:List ByteArray)
mutual
def emS:DStmt→Nat→List DIns
  | .mk k n t b e,at_=>
    if k=1 then [⟨1,plc n G,t,0⟩]
    else if k=4 then [⟨4,plc n P,term0,0⟩]
    else if k=5 then [⟨5,plc n P,term0,0⟩]
    else if k=6 then [⟨6,plc n L,term0,0⟩]
    else if k=7 then [⟨7,plc n L,term0,0⟩]
    else if k=8 then [⟨8,0,term0,0⟩]
    else if k=3 then ⟨2,0,t,((at_+1+(emL b (at_+1)).length+1:Nat):Int)⟩ :: (emL b (at_+1)++[⟨3,0,term0,(at_:Int)⟩])
    else if k=2 then
      (if e.length=0 then ⟨2,0,t,((at_+1+(emL b (at_+1)).length:Nat):Int)⟩ :: emL b (at_+1)
      else ⟨2,0,t,((at_+1+(emL b (at_+1)).length+1:Nat):Int)⟩ :: (emL b (at_+1) ++
        (⟨3,0,term0,((at_+1+(emL b (at_+1)).length+1+(emL e (at_+1+(emL b (at_+1)).length+1)).length:Nat):Int)⟩ :: emL e (at_+1+(emL b (at_+1)).length+1))))
    else []
def emL:List DStmt→Nat→List DIns
  | [],_=>[]
  | x :: l,at_=>emS x at_++emL l (at_+(emS x at_).length)
end
def InsQ (x:DIns) (lo hi:Nat):Prop:=1≤x.op∧x.op≤8 ∧
 (0≤x.arg∧x.arg<if x.op=1 then (G.length:Int) else if x.op=4∨x.op=5 then P.length else if x.op=6∨x.op=7 then L.length else 1) ∧
 (if x.op=1∨x.op=2 then TmR x.term else x.term=term0)∧(if x.op=2∨x.op=3 then (lo:Int)≤x.to∧x.to≤hi else x.to=0)
end
section
variable {G L P:List ByteArray}
theorem InsQ.mono {x:DIns} {lo hi lo' hi':Nat} (h:InsQ G L P x lo hi) (h1:lo'≤lo) (h2:hi≤hi'):InsQ G L P x lo' hi':=by
 obtain ⟨a,b,c,d,e⟩:=h
 refine ⟨a,b,c,d,?_⟩
 split at e
 · rename_i hh;rw [if_pos hh];omega
 rename_i hh;rw [if_neg hh];exact e
theorem zl8 {n:ByteArray} {l:List ByteArray} (h:n∈l):0≤plc n l∧plc n l<l.length:=⟨zet.2 h,ziP.2⟩
theorem zsS {op arg to:Int} {t:DTerm} {lo hi:Nat} (h1:1≤op) (h1':op≤8) (h2:0≤arg∧arg<if op=1 then (G.length:Int) else if op=4∨op=5 then P.length else if op=6∨op=7 then L.length else 1)
   (h3:if op=1∨op=2 then TmR t else t=term0) (h4:if op=2∨op=3 then (lo:Int)≤to∧to≤hi else to=0):InsQ G L P ⟨op,arg,t,to⟩ lo hi:=⟨h1,h1',h2,h3,h4⟩
theorem zqA {t:DTerm} (ht:TmR t) {to lo hi:Nat} (h1:lo≤to) (h2:to≤hi):InsQ G L P ⟨2,0,t,(to:Int)⟩ lo hi:=
 zsS (by decide) (by decide) (by rw [if_neg (by decide),if_neg (by decide),if_neg (by decide)];decide) (by rw [if_pos (.inr rfl)];exact ht) (by rw [if_pos (.inl rfl)];omega)
theorem zsT {to lo hi:Nat} (h1:lo≤to) (h2:to≤hi):InsQ G L P ⟨3,0,term0,(to:Int)⟩ lo hi:=
 zsS (by decide) (by decide) (by rw [if_neg (by decide),if_neg (by decide),if_neg (by decide)];decide) (by rw [if_neg (by decide)]) (by rw [if_pos (.inr rfl)];omega)
theorem zvt {pr:List ByteArray} (hG:G=glb) (hL:L=lks) (hP:∀ x∈pr,x∈P):∀ (n:Nat),
   (∀ (t:DStmt) (a:Nat),StR pr n t→(∀ x∈emS G L P t a,InsQ G L P x a (a+(emS G L P t a).length))∧(emS G L P t a).length≤2*szS t) ∧
   ∀ (l:List DStmt) (a:Nat),(∀ x∈l,StR pr n x)→(∀ x∈emL G L P l a,InsQ G L P x a (a+(emL G L P l a).length))∧(emL G L P l a).length≤2*szL l:=by
 have hl:∀ n,(∀ (t:DStmt) (a:Nat),StR pr n t→(∀ x∈emS G L P t a,InsQ G L P x a (a+(emS G L P t a).length))∧(emS G L P t a).length≤2*szS t) →
     ∀ (l:List DStmt) (a:Nat),(∀ x∈l,StR pr n x)→(∀ x∈emL G L P l a,InsQ G L P x a (a+(emL G L P l a).length))∧(emL G L P l a).length≤2*szL l:=by
   intro n hs l
   induction l with
   | nil=>intro a _;rw [emL];exact ⟨(fun x hx=>by cases hx),Nat.zero_le _⟩
   | cons t l ih=>
     intro a h
     have h1:=hs t a (h t (by simp))
     have h2:=ih (a+(emS G L P t a).length) fun x hx=>h x (by simp [hx])
     rw [emL,szL]
     generalize emS G L P t a=u at *
     generalize emL G L P l (a+u.length)=v at *
     rw [List.length_append]
     refine ⟨fun x hx=>?_,by omega⟩
     rcases List.mem_append.1 hx with hx | hx
     · exact (h1.1 x hx).mono (Nat.le_refl _) (by omega)
     exact (h2.1 x hx).mono (by omega) (by omega)
 have h0:∀ (t:DStmt) (a:Nat),St0 pr t→(∀ x∈emS G L P t a,InsQ G L P x a (a+(emS G L P t a).length))∧(emS G L P t a).length≤2*szS t:=by
   rintro ⟨k,n,t,b,e⟩ a h
   rw [emS,szS]
   rcases h with ⟨hk,hn,ht,_,_⟩ | ⟨hk,hn,_⟩ | ⟨hk,hn,_⟩ | ⟨hk,hn,_⟩
   · have hk:k=1:=hk
     have hn:n∈glb:=hn
     rw [if_pos hk]
     refine ⟨fun x hx=>?_,by simp;omega⟩
     simp only [List.mem_cons,List.not_mem_nil,or_false] at hx
     subst hx
     exact zsS (by decide) (by decide) (by rw [if_pos rfl];exact zl8 (by rw [hG];exact hn)) (by rw [if_pos (.inl rfl)];exact ht) (by rw [if_neg (by decide)])
   · have hk:k=4∨k=5:=hk
     have hn:n∈pr:=hn
     rw [if_neg (by omega)]
     rcases hk with hk | hk
     · rw [if_pos hk]
       refine ⟨fun x hx=>?_,by simp;omega⟩
       simp only [List.mem_cons,List.not_mem_nil,or_false] at hx
       subst hx
       exact zsS (by decide) (by decide) (by rw [if_neg (by decide),if_pos (.inl rfl)];exact zl8 (hP _ hn)) (by rw [if_neg (by decide)]) (by rw [if_neg (by decide)])
     rw [if_neg (by omega),if_pos hk]
     refine ⟨fun x hx=>?_,by simp;omega⟩
     simp only [List.mem_cons,List.not_mem_nil,or_false] at hx
     subst hx
     exact zsS (by decide) (by decide) (by rw [if_neg (by decide),if_pos (.inr rfl)];exact zl8 (hP _ hn)) (by rw [if_neg (by decide)]) (by rw [if_neg (by decide)])
   · have hk:k=6∨k=7:=hk
     have hn:n∈lks:=hn
     rw [if_neg (by omega),if_neg (by omega),if_neg (by omega)]
     rcases hk with hk | hk
     · rw [if_pos hk]
       refine ⟨fun x hx=>?_,by simp;omega⟩
       simp only [List.mem_cons,List.not_mem_nil,or_false] at hx
       subst hx
       exact zsS (by decide) (by decide) (by rw [if_neg (by decide),if_neg (by decide),if_pos (.inl rfl)];exact zl8 (by rw [hL];exact hn)) (by rw [if_neg (by decide)]) (by rw [if_neg (by decide)])
     rw [if_neg (by omega),if_pos hk]
     refine ⟨fun x hx=>?_,by simp;omega⟩
     simp only [List.mem_cons,List.not_mem_nil,or_false] at hx
     subst hx
     exact zsS (by decide) (by decide) (by rw [if_neg (by decide),if_neg (by decide),if_pos (.inr rfl)];exact zl8 (by rw [hL];exact hn)) (by rw [if_neg (by decide)]) (by rw [if_neg (by decide)])
   have hk:k=8:=hk
   rw [if_neg (by omega),if_neg (by omega),if_neg (by omega),if_neg (by omega),if_neg (by omega),if_pos hk]
   refine ⟨fun x hx=>?_,by simp;omega⟩
   simp only [List.mem_cons,List.not_mem_nil,or_false] at hx
   subst hx
   exact zsS (by decide) (by decide) (by rw [if_neg (by decide),if_neg (by decide),if_neg (by decide)];decide) (by rw [if_neg (by decide)]) (by rw [if_neg (by decide)])
 intro n
 induction n with
 | zero=>exact ⟨fun t a h=>h0 t a h.zero,hl 0 fun t a h=>h0 t a h.zero⟩
 | succ n ih=>
   have hs:∀ (t:DStmt) (a:Nat),StR pr (n+1) t→(∀ x∈emS G L P t a,InsQ G L P x a (a+(emS G L P t a).length))∧(emS G L P t a).length≤2*szS t:=by
     intro t a h
     rcases h.succ with h | ⟨hk,hn,ht,hb,he⟩
     · exact h0 t a h
     obtain ⟨k,nm,t,b,e⟩:=t
     have hq:k=2∨k=3∧e=[]:=hk
     clear hk
     replace ht:TmR t:=ht
     have h1:=ih.2 b (a+1) hb
     have h2:=ih.2 e (a+1+(emL G L P b (a+1)).length+1) he
     rw [emS,szS,if_neg (by omega),if_neg (by omega),if_neg (by omega),if_neg (by omega),if_neg (by omega),if_neg (by omega)]
     generalize emL G L P b (a+1)=u at *
     generalize emL G L P e (a+1+u.length+1)=v at *
     rcases hq with hq | ⟨hq,rfl⟩
     · rw [if_neg (by omega),if_pos hq]
       split
       · refine ⟨fun x hx=>?_,by simp only [List.length_cons];omega⟩
         rw [List.length_cons]
         rcases List.mem_cons.1 hx with rfl | hx
         · exact zqA ht (by omega) (by omega)
         exact (h1.1 x hx).mono (by omega) (by omega)
       rename_i hne
       refine ⟨fun x hx=>?_,?_⟩
       · simp only [List.length_cons,List.length_append]
         rcases List.mem_cons.1 hx with rfl | hx
         · exact zqA ht (by omega) (by omega)
         rcases List.mem_append.1 hx with hx | hx
         · exact (h1.1 x hx).mono (by omega) (by omega)
         rcases List.mem_cons.1 hx with rfl | hx
         · exact zsT (by omega) (by omega)
         exact (h2.1 x hx).mono (by omega) (by omega)
       have:=zkV e
       simp only [List.length_cons,List.length_append];omega
     rw [if_pos hq]
     refine ⟨fun x hx=>?_,by simp only [List.length_cons,List.length_append,List.length_nil];omega⟩
     simp only [List.length_cons,List.length_append,List.length_nil]
     rcases List.mem_cons.1 hx with rfl | hx
     · exact zqA ht (by omega) (by omega)
     rcases List.mem_append.1 hx with hx | hx
     · exact (h1.1 x hx).mono (by omega) (by omega)
     simp only [List.mem_cons,List.not_mem_nil,or_false] at hx
     subst hx
     exact zsT (by omega) (by omega)
   exact ⟨hs,hl (n+1) hs⟩
end
def ztF:DIns:=⟨9,0,term0,0⟩
section
variable (G L P:List ByteArray)
def emP:List DProc→Nat→List DIns
 | [],_=>[]
 | x :: l,a=>emL G L P x.body a++(ztF :: emP l (a+(emL G L P x.body a).length+1))
def zl9:List DProc→Nat→List Int
 | [],_=>[]
 | x :: l,a=>(a:Int) :: zl9 l (a+(emL G L P x.body a).length+1)
end
def zcv (p:DProg):DCode:=
 ⟨p.globals,p.locks,p.procs.map DProc.name,zl9 p.globals p.locks (p.procs.map DProc.name) p.procs 0,emP p.globals p.locks (p.procs.map DProc.name) p.procs 0⟩
theorem zk3 (G L P:List ByteArray):∀ (l:List DProc) (a:Nat),(zl9 G L P l a).length=l.length
 | [],_=>by rw [zl9];rfl
 | x :: l,a=>by rw [zl9,List.length_cons,List.length_cons,zk3 G L P l]
theorem zsU (G L P:List ByteArray):∀ (l:List DProc) (a i:Nat) (hi:i<l.length),∃ s,(zl9 G L P l a)[i]?=some ((a+s:Nat):Int)∧s+(emL G L P l[i].body (a+s)).length+1≤(emP G L P l a).length ∧
   (∀ k,k<(emL G L P l[i].body (a+s)).length→(emP G L P l a)[s+k]?=(emL G L P l[i].body (a+s))[k]?)∧(emP G L P l a)[s+(emL G L P l[i].body (a+s)).length]?=some ztF ∧
   (i=0→s=0)∧(i+1<l.length→(zl9 G L P l a)[i+1]?=some ((a+s+(emL G L P l[i].body (a+s)).length+1:Nat):Int))∧(i+1=l.length→s+(emL G L P l[i].body (a+s)).length+1=(emP G L P l a).length)
 | x :: l,a,0,hi=>by
   refine ⟨0,?_⟩
   simp only [Nat.add_zero,Nat.zero_add,List.getElem_cons_zero]
   rw [zl9,emP]
   generalize emL G L P x.body a=u
   refine ⟨by simp,by simp,fun k hk=>List.getElem?_append_left hk,by simp,by simp,fun h=>?_,fun h=>?_⟩
   · cases l with
     | nil=>simp at h
     | cons y l=>rw [zl9];rfl
   have:l=[]:=List.eq_nil_of_length_eq_zero (by simpa using h)
   subst this
   rw [emP];simp
 | x :: l,a,i+1,hi=>by
   obtain ⟨s,h1,h2,h3,h4,h5,h6,h7⟩:=zsU G L P l (a+(emL G L P x.body a).length+1) i (by simpa using hi)
   refine ⟨(emL G L P x.body a).length+1+s,?_⟩
   simp only [List.getElem_cons_succ]
   rw [zl9,emP]
   have e:a+((emL G L P x.body a).length+1+s)=a+(emL G L P x.body a).length+1+s:=by omega
   rw [e]
   generalize emL G L P x.body a=u at *
   have hil:i<l.length:=by simpa using hi
   generalize emL G L P (l[i]'hil).body (a+u.length+1+s)=v at *
   have sh:∀ (q:Nat) (m:List DIns),(u++ztF :: m)[u.length+1+q]?=m[q]?:=by
     intro q m
     rw [List.getElem?_append_right (by omega),show u.length+1+q-u.length=q+1 by omega,List.getElem?_cons_succ]
   refine ⟨by simpa using h1,by simp only [List.length_append,List.length_cons];omega,fun k hk=>?_,?_,fun h=>by omega,fun h=>?_,fun h=>?_⟩
   · rw [show u.length+1+s+k=u.length+1+(s+k) by omega,sh];exact h3 k hk
   · rw [show u.length+1+s+v.length=u.length+1+(s+v.length) by omega,sh];exact h4
   · rw [List.getElem?_cons_succ];exact h6 (by simpa using h)
   have:=h7 (by simpa using h)
   simp only [List.length_append,List.length_cons];omega
theorem zqB (G L P:List ByteArray) {m:Nat}:∀ (l:List DProc) (a:Nat),(∀ x∈l,∀ b,(emL G L P x.body b).length≤m)→(emP G L P l a).length≤l.length*(m+1)
 | [],_,_=>by rw [emP];simp
 | x :: l,a,h=>by
   have h1:=h x (by simp) a
   have h2:=zqB G L P l (a+(emL G L P x.body a).length+1) fun y hy=>h y (by simp [hy])
   rw [emP,List.length_append,List.length_cons,List.length_cons,Nat.add_mul,Nat.one_mul]
   omega
theorem zk4 {α:Type} {l:List α} {i:Nat} {x d:α} (h:l[i]?=some x):l.getD i d=x:=by rw [List.getD_eq_getElem?_getD,h];rfl
theorem zma:∀ k,k<3→(prc4.take (2+k)).length≤4∧(prc4.take (2+k)).all za8=true∧(prc4.take (2+k)).Nodup∧zgo∈prc4.take (2+k)
 | 0,_=>by decide
 | 1,_=>by decide
 | 2,_=>by decide
 | k+3,h=>absurd h (by omega)
theorem code_at {p:DProg} (hp:ProgR p) {i:Nat} (hi:i<p.procs.length):∃ s n:Nat,en (zcv p) i=(s:Int)∧zdk (zcv p) i=((s+n+1:Nat):Int)∧s+n+1≤(zcv p).ins.length ∧
   (∀ k,k<n→InsQ (zcv p).globals (zcv p).locks (zcv p).procs (zak (zcv p) (s+k)) s (s+n))∧zak (zcv p) (s+n)=ztF∧(i=0→s=0):=by
 obtain ⟨s,h1,h2,h3,h4,h5,h6,h7⟩:=zsU p.globals p.locks (p.procs.map DProc.name) p.procs 0 i hi
 simp only [Nat.zero_add] at h1 h2 h3 h4 h5 h6 h7
 have hb:=hp.b _ (List.getElem_mem hi)
 have hr:=(zvt (G:=p.globals) (L:=p.locks) (P:=p.procs.map DProc.name) (pr:=(p.procs.map DProc.name).drop 1) hp.g hp.l (fun x hx=>List.mem_of_mem_drop hx) 2).2 p.procs[i].body s hb.1
 generalize emL p.globals p.locks (p.procs.map DProc.name) p.procs[i].body s=u at *
 refine ⟨s,u.length,zk4 h1,?_,h2,fun k hk=>?_,zk4 h4,h5⟩
 · unfold zdk
   have hl:(zcv p).entry.length=p.procs.length:=zk3 _ _ _ _ _
   split
   · rename_i hh;exact zk4 (h6 (by omega))
   rename_i hh;show ((emP _ _ _ _ _).length:Int)=_;rw [←h7 (by omega)]
 have e:zak (zcv p) (s+k)=u[k]:=zk4 (by
   have:=h3 k hk
   rw [List.getElem?_eq_getElem hk] at this
   exact this)
 rw [e]
 exact (hr.1 _ (List.getElem_mem hk)).mono (Nat.le_refl _) (Nat.le_refl _)
theorem zj0 {p:DProg} (hp:ProgR p):CodeR (zcv p)∧(zcv p).ins.length≤436:=by
 obtain ⟨k,hk,hn⟩:=hp.n
 obtain ⟨n1,n2,n3,n4⟩:=zma k hk
 have hl:(zcv p).entry.length=p.procs.length:=zk3 _ _ _ _ _
 have hpl:(p.procs.map DProc.name).length=p.procs.length:=List.length_map _
 have hp4:p.procs.length≤4:=by rw [←hpl,hn];exact n1
 have hN:NamesR (zcv p):=by
   refine ⟨?_,?_,?_,?_,?_,?_,?_⟩
   · show (decide ((p.globals.length:Int)≤6)&&p.globals.all za8)=true
     rw [hp.g];decide
   · show (decide ((p.locks.length:Int)≤6)&&p.locks.all za8)=true
     rw [hp.l];decide
   · show (decide (((p.procs.map DProc.name).length:Int)≤8)&&(p.procs.map DProc.name).all za8)=true
     rw [hn,n2,decide_eq_true (by omega)];rfl
   · show p.globals.Nodup
     rw [hp.g];decide
   · show p.locks.Nodup
     rw [hp.l];decide
   · show (p.procs.map DProc.name).Nodup
     rw [hn];exact n3
   show zgo∈p.procs.map DProc.name
   rw [hn];exact n4
 have hil:(zcv p).ins.length≤436:=by
   have:=zqB p.globals p.locks (p.procs.map DProc.name) (m:=108) p.procs 0 fun x hx b=>by
     have hb:=hp.b x hx
     have hr:=(zvt (G:=p.globals) (L:=p.locks) (P:=p.procs.map DProc.name) (pr:=(p.procs.map DProc.name).drop 1) hp.g hp.l (fun x hx=>List.mem_of_mem_drop hx) 2).2 x.body b hb.1
     have:=hb.2
     omega
   show (emP _ _ _ _ _).length≤436
   omega
 have h0:0<p.procs.length:=by
   rw [←hpl,hn];exact List.length_pos_of_mem n4
 have hF:EntF (zcv p):=by
   refine ⟨by rw [hl];exact hpl.symm,by omega,?_,fun i hi=>?_⟩
   · obtain ⟨s,n,e1,_,_,_,_,e0⟩:=code_at hp h0
     rw [e1,e0 rfl];rfl
   obtain ⟨s,n,e1,e2,e3,_,_,_⟩:=code_at hp (i:=i) (by omega)
   rw [e1,e2];omega
 have hpp:0<(zcv p).procs.length:=by show 0<(p.procs.map DProc.name).length;omega
 have hfind:∀ j:Nat,j<(zcv p).ins.length→∃ i s n:Nat,i<p.procs.length∧en (zcv p) i=(s:Int)∧zdk (zcv p) i=((s+n+1:Nat):Int)∧s≤j∧j≤s+n∧zar (zcv p) j=i ∧
     (∀ k,k<n→InsQ (zcv p).globals (zcv p).locks (zcv p).procs (zak (zcv p) (s+k)) s (s+n))∧zak (zcv p) (s+n)=ztF:=by
   intro j hj
   obtain ⟨i,hi,a1,a2,a3⟩:=hF.find hpp (a:=(j:Int)) (by omega) (by omega)
   obtain ⟨s,n,e1,e2,e3,e4,e5,_⟩:=code_at hp (i:=i) (by omega)
   rw [e1] at a1
   rw [e2] at a2
   exact ⟨i,s,n,by omega,e1,e2,by omega,by omega,a3,e4,e5⟩
 have hends:∀ (i:Nat),zeF (zcv p) i=zdk (zcv p) i-1:=fun i=>zdH _ i
 refine ⟨⟨hN,⟨hF.len,hF.ins,fun i hi=>⟨fun h=>by subst h;exact hF.zero,fun h=>?_,?_⟩,fun j hj=>?_⟩,fun j hj=>?_⟩,hil⟩
 · have h1:=(hF.lt (i-1) (by omega)).1
   rw [hF.step (by omega),show i-1+1=i by omega] at h1
   exact h1
 · have:=hF.lt i hi;omega
 · obtain ⟨i,s,n,hi,e1,e2,a1,a2,a3,e4,e5⟩:=hfind j hj
   rw [a3,hends,e2]
   constructor
   · intro h9
     by_cases hjn:j=s+n
     · omega
     have:=e4 (j-s) (by omega)
     rw [show s+(j-s)=j by omega] at this
     have:=this.2.1
     omega
   intro h9
   have:j=s+n:=by omega
   rw [this,e5];rfl
 obtain ⟨i,s,n,hi,e1,e2,a1,a2,a3,e4,e5⟩:=hfind j hj
 rw [a3,hends,e2]
 simp only [Int.toNat_natCast]
 rw [e1]
 by_cases hjn:j=s+n
 · rw [hjn,e5]
   have ha:(0:Int)<zbM (zcv p) 9:=by
     unfold zbM
     rw [if_neg (by decide),if_neg (by decide),if_neg (by decide)];decide
   refine ⟨by decide,⟨by decide,ha⟩,by rw [if_neg (by decide)];rfl,by rw [if_neg (by decide)];rfl⟩
 have hq:=e4 (j-s) (by omega)
 rw [show s+(j-s)=j by omega] at hq
 generalize zak (zcv p) j=x at *
 obtain ⟨q1,q2,q3,q4,q5⟩:=hq
 refine ⟨⟨q1,by omega⟩,?_,?_,?_⟩
 · unfold zbM;exact q3
 · split at q4
   · rename_i hh
     rw [if_pos hh]
     refine ⟨q4.1,fun y hy=>?_⟩
     show y∈p.globals
     rw [hp.g];exact q4.2.1 y hy
   rename_i hh;rw [if_neg hh];exact q4
 split at q5
 · rename_i hh;rw [if_pos hh];omega
 rename_i hh;rw [if_neg hh];exact q5
end Go.Proofs.YtbnjpfjjmhodnaaGreat
namespace Go.Sh
open Rep (rep)
structure UpG (g lo:Nat) (w w':World):Prop where
 os:w'.os=w.os
 tape:w'.tape=w.tape
 output:w'.output=w.output
 size:w.heap.size≤w'.heap.size
 block:∀ b,b<w.heap.size→b<lo→b≠g→w'.heap[b]?=w.heap[b]?
section
variable {g lo:Nat} {w w' w2:World} {α:Type} [Rep α]
theorem UpG.refl (g lo:Nat) (w:World):UpG g lo w w:=⟨rfl,rfl,rfl,Nat.le_refl _,fun _ _ _ _=>rfl⟩
theorem UpG.trans (h:UpG g lo w w') (k:UpG g lo w' w2):UpG g lo w w2:=
 ⟨k.os.trans h.os,k.tape.trans h.tape,k.output.trans h.output,Nat.le_trans h.size k.size,fun b h1 h2 h3=>(k.block b (Nat.lt_of_lt_of_le h1 h.size) h2 h3).trans (h.block b h1 h2 h3)⟩
theorem UpG.mono {lo2:Nat} (h:UpG g lo w w') (hl:lo2≤lo):UpG g lo2 w w':=⟨h.os,h.tape,h.output,h.size,fun b h1 h2 h3=>h.block b h1 (by omega) h3⟩
theorem Ext.upG (h:Ext w w'):UpG g lo w w':=⟨h.os,h.tape,h.output,h.size,fun b h1 _ _=>h.block b h1⟩
theorem ChgI.upG1 (h:ChgI g (g+1) w w'):UpG g lo w w':=⟨h.os,h.tape,h.output,h.size,fun b h1 _ h3=>h.block b h1 (by omega)⟩
theorem ChgI.upG {a b:Nat} (h:ChgI a b w w') (ha:lo≤a):UpG g lo w w':=⟨h.os,h.tape,h.output,h.size,fun c h1 h2 _=>h.block c h1 (by omega)⟩
theorem Chg.upG {F:List Nat} (h:Chg (g :: F) w w') (hF:∀ c∈F,lo≤c):UpG g lo w w':=⟨h.os,h.tape,h.output,h.size,fun c h1 h2 h3=>h.block c h1 fun hm=>by
 rcases List.mem_cons.1 hm with e | hm
 · exact h3 e
 have:=hF c hm;omega⟩
theorem UpG.toI (h:UpG g lo w w') (hl:w.heap.size≤lo):ChgI g (g+1) w w':=⟨h.os,h.tape,h.output,h.size,fun b h1 h2=>h.block b h1 (by omega) (by omega)⟩
theorem Blk.upG {b e:Nat} {cs:List Value} (h:Blk b e w cs) (hu:UpG g lo w w') (h1:b<lo) (h2:b≠g):Blk b e w' cs:=h.keep (hu.block b h.lt h1 h2)
theorem OwnI.upG {a b:Nat} {v:Value} {x:α} (h:OwnI a b w v x) (hu:UpG g lo w w') (h1:b≤lo) (h2:g<a∨b≤g):OwnI a b w' v x:=by
 obtain ⟨F,hm,hF⟩:=h
 exact ⟨F,hm.keep fun c hc=>hu.block c (hm.lt c hc) (by have:=hF c hc;omega) (by have:=hF c hc;omega),hF⟩
theorem RowI.upG {a b e:Nat} {v:Value} {l:List α} (h:RowI a b e w v l) (hu:UpG g lo w w') (h1:b≤lo) (h2:g<a∨b≤g):RowI a b e w' v l:=by
 obtain ⟨F,hm,hn,hF⟩:=zfX.1 h
 exact zfX.2 ⟨F,hm.keep fun c hc=>hu.block c (hm.lt c hc) (by have:=hF c hc;omega) (by have:=hF c hc;omega),hn,hF⟩
theorem IsK.upG {a b:Nat} {v:Value} {x:α} (h:IsK a b w v x) (hu:UpG g lo w w') (h1:b≤lo) (h2:g<a∨b≤g):IsK a b w' v x:=
 ⟨Nat.le_trans h.1 hu.size,fun w3 h3=>h.2 w3 fun c h4 h5=>(h3 c h4 h5).trans (hu.block c (Nat.lt_of_lt_of_le h5 h.1) (by omega) (by omega))⟩
theorem zj1 {v:Value} {x:α} (h:OwnI lo lo w v x):Mine [] w v x:=by
 obtain ⟨F,hm,hF⟩:=h
 have:F=[]:=List.eq_nil_iff_forall_not_mem.2 fun c hc=>by have:=hF c hc;omega
 subst this;exact hm
theorem zqC {hi:Nat} {n:ByteArray} {vb:Value} {l:List DStmt} (hn:n.size≤maxLen) (h:OwnI lo hi w vb l):OwnI lo hi w (.agg #[.string n,vb]) (⟨n,l⟩:DProc):=by
 obtain ⟨F,⟨⟨cs,hr,hv⟩,hnd,hw⟩,hF⟩:=h
 obtain ⟨c,rfl⟩:=zdp hr
 simp only [mkv,Rep.agg,cond_false,List.headD_cons] at hv
 subst hv
 exact ⟨F,⟨⟨[.string n,vb],zaR (F:=[]) (c1:=[.string n]) (show rep [] w [.string n] n from ⟨rfl,rfl,hn⟩) hr,rfl⟩,hnd,hw⟩,hF⟩
theorem zmb {a b c:Value} {p:DProg} {lo hi l0 h0 l1 h1 l2 h2:Nat} (m0:OwnI l0 h0 w a p.globals) (m1:OwnI l1 h1 w b p.locks) (m2:OwnI l2 h2 w c p.procs) (d01:h0≤l1∨h1≤l0) (d02:h0≤l2∨h2≤l0) (d12:h1≤l2∨h2≤l1)
   (b0:lo≤l0∧h0≤hi) (b1:lo≤l1∧h1≤hi) (b2:lo≤l2∧h2≤hi):OwnI lo hi w (.agg #[a,b,c]) p:=by
 obtain ⟨F0,M0,B0⟩:=m0
 obtain ⟨F1,M1,B1⟩:=m1
 obtain ⟨F2,M2,B2⟩:=m2
 refine ⟨F0++(F1++F2),⟨⟨[a,b,c],zaR (zcW rfl M0.own) (zaR (zcW rfl M1.own) (zcW rfl M2.own)),rfl⟩,?_,M0.wr.append (M1.wr.append M2.wr)⟩,fun x hx=>?_⟩
 · rw [List.nodup_append,List.nodup_append]
   refine ⟨M0.nodup,⟨M1.nodup,M2.nodup,fun p hp q hq e=>?_⟩,fun p hp q hq e=>?_⟩
   · subst e;have:=B1 p hp;have:=B2 p hq;omega
   subst e
   have:=B0 p hp
   rcases List.mem_append.1 hq with hq | hq
   · have:=B1 p hq;omega
   have:=B2 p hq;omega
 rcases List.mem_append.1 hx with hx | hx
 · have:=B0 x hx;omega
 rcases List.mem_append.1 hx with hx | hx
 · have:=B1 x hx;omega
 have:=B2 x hx;omega
end
end Go.Sh
namespace Go.Proofs.YtbnjpfjjmhodnaaGreat
open Go Go.Sh Go.Proofs
open Rep (rep)
def F200 (a0 a1:Value) (w:World) (R:VW):Prop:=
 oP (Instr.buildSlice 24 3 #[(0,(Value.string (ByteArray.mk #[97]))),(1,(Value.string (ByteArray.mk #[98]))),(2,(Value.string (ByteArray.mk #[109])))]) w fun x9 w=>
 cL 95 [a0,x9] w fun x10 w=>
 oP (Instr.buildSlice 24 3 #[(0,(Value.string (ByteArray.mk #[97]))),(1,(Value.string (ByteArray.mk #[98]))),(2,(Value.string (ByteArray.mk #[109])))]) w fun x12 w=>
 cL 95 [a0,x12] w fun x13 w=>
 rD (Instr.build 209 #[(0,(iV 6)),(1,x10)]) w fun x15=>
 oP (Instr.buildSlice 162 1 #[(0,x15)]) w fun x16 w=>
 JOIN [7] (fun J6=>
 rB .neq 9 T0 T0 x10 x13 w fun x19=>
 BR x19
 (cL 92 [a0,(iV 2)] w fun x22 w=>
 BR x22
 (rD (Instr.build 209 #[(0,(iV 6)),(1,x13)]) w fun x26=>
 oP (Instr.buildSlice 162 1 #[(0,x26)]) w fun x27 w=>
 oP (Builtin.append_ #[162,162] 162 [x16,x27].toArray) w fun x28 w=>
 J6 [x28] w)
 (J6 [x16] w))
 (J6 [x16] w)) (fun u6 w=>
 oP (Builtin.append_ #[162,162] 162 [(u6 7),a1].toArray) w fun x31 w=>
 rD (Instr.build 209 #[(0,(iV 7)),(1,x10)]) w fun x34=>
 oP (Instr.buildSlice 162 1 #[(0,x34)]) w fun x35 w=>
 oP (Builtin.append_ #[162,162] 162 [x31,x35].toArray) w fun x36 w=>
 R x36 w)
def cfg200:Cfg:=⟨extL,[(6,536739968,[7])],[],[],[],[],[]⟩
theorem F200_call {a0 a1:Value} {w:World} {R:VW} (h:F200 a0 a1 w R):cL 200 [a0,a1] w R:=co (g:=cfg200) Tryz.func200 (by kernel_rfl) (by kernel_rfl) (by kernel_rfl) h
section
variable {w:World} {K:Value→World→Prop}
theorem zqD (k:∀ v w',Ext w w'→OwnI w.heap.size w'.heap.size w' v lks→K v w'):OP Tryz.prog (Instr.buildSlice 24 3 #[(0,(Value.string (ByteArray.mk #[97]))),(1,(Value.string (ByteArray.mk #[98]))),(2,(Value.string (ByteArray.mk #[109])))]) w K:=
 zfC (vs:=lks.map Value.string) (l:=lks) u24 ty9 zb2 (by decide) (by kernel_rfl) rfl (fun w=>zcb (by decide)) k
theorem zuH (k:∀ v w',Ext w w'→OwnI w.heap.size w'.heap.size w' v glb→K v w'):OP Tryz.prog (Instr.buildSlice 24 4 #[(0,(Value.string (ByteArray.mk #[120]))),(1,(Value.string (ByteArray.mk #[121]))),(2,(Value.string (ByteArray.mk #[122]))),(3,(Value.string (ByteArray.mk #[117])))]) w K:=
 zfC (vs:=glb.map Value.string) (l:=glb) u24 ty9 zb2 (by decide) (by kernel_rfl) rfl (fun w=>zcb (by decide)) k
theorem zuI (k:∀ v w',Ext w w'→OwnI w.heap.size w'.heap.size w' v prc4→K v w'):OP Tryz.prog (Instr.buildSlice 24 4 #[(0,(Value.string (ByteArray.mk #[109,97,105,110]))),(1,(Value.string (ByteArray.mk #[112]))),(2,(Value.string (ByteArray.mk #[113]))),(3,(Value.string (ByteArray.mk #[114])))]) w K:=
 zfC (vs:=prc4.map Value.string) (l:=prc4) u24 ty9 zb2 (by decide) (by kernel_rfl) rfl (fun w=>zcb (by decide)) k
end
mutual
theorem ztG:∀ (x:DStmt) (n:Int),0≤n→-1≤zpH x n∧zpH x n≤n
  | .mk k s t b e,n,hn=>by
    rw [zpH]
    have h1:=zi7 b (n-1) (by omega)
    have h2:=zi7 e (zhZ b (n-1)) h1.1
    omega
theorem zi7:∀ (l:List DStmt) (n:Int),-1≤n→-1≤zhZ l n∧zhZ l n≤n
  | [],n,hn=>by rw [zhZ];omega
  | x :: l,n,hn=>by
    rw [zhZ]
    split
    · rename_i h
      have h1:=ztG x n h
      have h2:=zi7 l (zpH x n) h1.1
      omega
    omega
end
theorem zsc (x:DStmt) (n:Int):zpH x n=zhZ x.els (zhZ x.body (n-1)):=by cases x;rw [zpH];rfl
def ztH (l:List DStmt):Prop:=∀ {w W:World} {v:Value} {n:Int},Is W v l→Ext W w→-1≤n→n≤1000→CALL Tryz.prog 199 [v,.int .i64 n] w fun r w'=>Ext w w'∧(r=.int .i64 (zhZ l n))
def F199 (a0 a1:Value) (w:World) (R:VW):Prop:=
 LOOPI [1,5] [a1,(iV 0)] w fun u2 w next2=>
 rN 162 3 a0 w fun x8=>
 rC (u2 5) x8 w fun x9=>
 BR x9
 (rB .geq 3 T0 U0 (u2 1) (iV 0) w fun x12=>
 BR x12
 ((fun w=>rX 162 a0 (u2 5) w fun x18=>
 rF 209 x18 4 w fun x19=>
 rL 162 x19 w fun x20=>
 rX 162 a0 (u2 5) w fun x23=>
 rF 209 x23 3 w fun x24=>
 rL 162 x24 w fun x25=>
 rB .sub 3 T0 U0 (u2 1) (iV 1) w fun x27=>
 (fun w_=>cL 199 [x25,x27] w_ fun x28 w=>
 Ext w_ w ∧
 cL 199 [x20,x28] w fun x29 w=>
 rA (u2 5) (iV 1) w fun x15=>
 next2 [x29,x15] w) w) (World.drew1 w))
 (R (u2 1) w))
 (R (u2 1) w)
def cfg199:Cfg:=⟨extL,[],[(2,1073741794,[1,5])],[(4,[0,1,2,3,4,5,6,7,8,9,10,11,12,13,14],4096)],[],[],[]⟩
theorem F199_call {a0 a1:Value} {w:World} {R:VW} (h:F199 a0 a1 w R):cL 199 [a0,a1] w R:=co (g:=cfg199) Tryz.func199 (by kernel_rfl) (by kernel_rfl) (by kernel_rfl) h
theorem ze9 {w:World} {v0:Value} {W0:World} {l:(List DStmt)} {n:Int}  (h0:Is W0 v0 l) (e0:Ext W0 w) (ih:∀ x∈l,ztH x.body∧ztH x.els) (hn0:-1≤n) (hn1:n≤1000) :
   CALL Tryz.prog 199 [v0,.int .i64 n] w fun r w'=>Ext w w'∧(r=.int .i64 (zhZ l n)):=by
 refine F199_call ?_
 unfold F199
 refine zas (l.length) (fun k us w'=>∃ (n1:Int),us=[.int .i64 n1,.int .i64 (k:Int)]∧Ext w w'∧(zhZ l n=zhZ (l.drop k) n1∧-1≤n1∧n1≤1000∧k≤l.length)) (0) (by omega) ⟨n,rfl,Ext.refl w,by simp,hn0,hn1,by omega⟩ ?_
 rintro k m2 uu2 w1_ hk2 ⟨n1,hu,hx1_,hcl,hm0,hm1,hkl⟩
 obtain ⟨hu0,hu1⟩:=zcC hu
 try rw [hu0]
 try rw [hu1]
 try clear hu0 hu1
 have hln8:=zan h0
 refine zag zeE h0 ?_
 refine zah ?_
 refine br (fun c1=>?_) (fun c1=>?_)
 · refine zck ?_
   refine br (fun c2=>?_) (fun c2=>?_)
   · have hx2_:=zaj w1_
     have hk:k<l.length:=by omega
     have hcb:=zi7 (l[k]).body (n1-1) (by omega)
     refine zad zeE zbC h0 (by omega) fun b18 o18 h18=>?_
     refine zaa zcZ ?_
     refine zab zcY (zb9 h18) (e0.trans (hx1_.trans hx2_)) fun v20 h20=>?_
     refine zad zeE zbC h0 (by omega) fun b23 o23 h23=>?_
     refine zaa zdB ?_
     refine zab zcY (zcy h23) (e0.trans (hx1_.trans hx2_)) fun v25 h25=>?_
     refine zbp (by unfold I64;omega) ?_
     refine ((ih _ (List.getElem_mem hk)).1 h25 (e0.trans (hx1_.trans hx2_)) (by omega) (by omega)).mono ?_
     rintro _ w3_ ⟨hx3_,rfl⟩
     refine ⟨hx3_,?_⟩
     refine ((ih _ (List.getElem_mem hk)).2 h20 (e0.trans (hx1_.trans (hx2_.trans hx3_))) hcb.1 (by omega)).mono ?_
     rintro _ w4_ ⟨hx4_,rfl⟩
     refine zaf (by omega) ?_
     refine ⟨m2-1,by omega,k+1,by omega,_,rfl,(hx1_.trans (hx2_.trans (hx3_.trans hx4_))),?_⟩
     have h2:=zi7 (l[k]).els _ hcb.1
     refine ⟨?_,by omega,by omega,by omega⟩
     rw [hcl,List.drop_eq_getElem_cons hk,zhZ,if_pos (by omega),zsc]
   refine ⟨hx1_,?_⟩
   rw [hcl]
   cases h:l.drop k with
   | nil=>rw [zhZ]
   | cons x r=>rw [zhZ,if_neg (by omega)]
 refine ⟨hx1_,?_⟩
 rw [hcl,List.drop_eq_nil_of_le (by omega),zhZ]
theorem zi8 (l:List DStmt):ztH l:=by
 have h:∀ x:DStmt,ztH x.body∧ztH x.els:=fun x=>by
   refine DStmt.ind (p:=fun x=>ztH x.body∧ztH x.els) (fun t hb he=>⟨?_,?_⟩) x
   · intro w W v n h e h0 h1;exact ze9 h e hb h0 h1
   intro w W v n h e h0 h1;exact ze9 h e he h0 h1
 intro w W v n hv e h0 h1
 exact ze9 hv e (fun x _=>h x) h0 h1
theorem zk5 {W w:World} {g lo1 hi1:Nat} {bs:List UInt8} {s:Cur} {v1:Value} {body:List DStmt} (hC:CurAt W g bs s w) (h1:OwnI lo1 hi1 w v1 body) (hlo:lo1≤w.heap.size) (hhi:hi1≤w.heap.size) (hg1:g<lo1) (hbl:body.length≤1000) :
   CALL Tryz.prog 200 [.pointer (some ⟨g,0,none⟩),v1] w fun r w'=>UpG g lo1 w w'∧CurAt W g bs (zi0 bs body s).2 w'∧RowI lo1 w'.heap.size 209 w' r (zi0 bs body s).1:=by
 have hgl:=hC.lt
 have hl3:((lks.length:Nat):Int)=3:=rfl
 refine F200_call ?_
 unfold F200
 refine zqD fun v9 w1 hx1 o9=>?_
 have hs1:=hx1.size
 refine (zcP (hC.ext hx1) o9 (by omega) (by omega) (by omega) (by decide) (by decide)).mono ?_
 rintro _ w2 ⟨hc2,hC2,rfl,hS10⟩
 have hs2:=hc2.size
 rw [hl3] at hC2
 refine zqD fun v12 w3 hx3 o12=>?_
 have hs3:=hx3.size
 refine (zcP (hC2.ext hx3) o12 (by omega) (by omega) (by omega) (by decide) (by decide)).mono ?_
 rintro _ w4 ⟨hc4,hC4,rfl,hS13⟩
 have hs4:=hc4.size
 rw [hl3] at hC4
 refine zcu (lo:=w4.heap.size) (hi:=w4.heap.size) (Nat.le_refl _) (by unfold I64;omega) hS10 fun v15 o15=>?_
 refine zbH (β:=DStmt) zeE zbC zuh (by decide) (zj1 o15) fun v16 w5 hx5 r16=>?_
 have hs5:=hx5.size
 have hu5:UpG g lo1 w w5:=(hx1.upG.trans hc2.upG1).trans ((hx3.upG.trans hc4.upG1).trans hx5.upG)
 have h15:=((((h1.ext hx1).chg hc2 (by omega)).ext hx3).chg hc4 (by omega)).ext hx5
 have hC5:=hC4.ext hx5
 obtain ⟨na,hna⟩:∃ x,x=zcs bs lks s:=⟨_,rfl⟩
 obtain ⟨nb,hnb⟩:∃ x,x=zcs bs lks (zao bs 3 s):=⟨_,rfl⟩
 rw [←hna] at hS10 o15 r16
 rw [←hnb] at hS13
 rw [←hna,←hnb]
 have hg:zi0 bs body s=(if na=nb then (zeJ na :: (body++[zdg na]),zao bs 3 (zao bs 3 s)) else if zbs bs 2 (zao bs 3 (zao bs 3 s))=0 then (zeJ na :: zeJ nb :: (body++[zdg na]),zao bs 2 (zao bs 3 (zao bs 3 s)))
     else (zeJ na :: (body++[zdg na]),zao bs 2 (zao bs 3 (zao bs 3 s)))):=by unfold zi0;rw [←hna,←hnb]
 clear hna hnb
 refine JOIN.mk (fun us w'=>∃ v l s',us=[v]∧ChgI g (g+1) w4 w'∧CurAt W g bs s' w'∧RowI w4.heap.size w'.heap.size 209 w' v l∧l.length≤2∧zi0 bs body s=(l++(body++[zdg na]),s')) ?_ ?_
 · refine zku ?_
   refine br (fun hne=>?_) (fun he=>?_)
   · refine (zfV hC5 (by omega)).mono ?_
     rintro _ w6 ⟨hc6,hC6,rfl⟩
     have hs6:=hc6.size
     have r6:=r16.chg hc6 (by omega)
     refine br (fun h0=>?_) (fun h0=>?_)
     · refine zcu (lo:=w6.heap.size) (hi:=w6.heap.size) (Nat.le_refl _) (by unfold I64;omega) hS13 fun v26 o26=>?_
       refine zbV (α:=DStmt) zeE zbC zuh zo3 (by decide) r6 (by omega) o26 (by omega) (by omega) (by rw [zap];simp) (by simp) fun v28 w7 hc7 r28=>?_
       refine ⟨v28,[zeJ na,zeJ nb],_,rfl,ChgI.out (hx5.toI.trans hc6) hc7 (by omega),hC6.chg hc7 (by omega) (by omega),r28,by simp,?_⟩
       rw [hg,if_neg hne,if_pos h0];rfl
     refine ⟨v16,[zeJ na],_,rfl,hx5.toI.trans hc6,hC6,r6.mono (by omega) (by omega),by simp,?_⟩
     rw [hg,if_neg hne,if_neg h0];rfl
   refine ⟨v16,[zeJ na],_,rfl,hx5.toI,hC5,r16,by simp,?_⟩
   rw [hg,if_pos (Decidable.not_not.1 he)];rfl
 rintro u6 w6 ⟨v,l,s',hu,hc6,hC6,r6,hll,hgd⟩
 simp only [List.map_cons,List.map_nil,List.cons.injEq,and_true] at hu
 rw [hu,hgd]
 have hs6:=hc6.size
 have h16:=(((((h1.ext hx1).chg hc2 (by omega)).ext hx3).chg hc4 (by omega))).chg hc6 (by omega)
 refine zhv (α:=DStmt) (lo0:=lo1) zeE zbC zo3 r6 (by omega) h16 (by omega) (by omega) (by omega) (by rw [zap];omega) (by omega) fun v31 w7 hc7 r31=>?_
 have hs7:=hc7.size
 refine zcu (lo:=w7.heap.size) (hi:=w7.heap.size) (Nat.le_refl _) (by unfold I64;omega) hS10 fun v34 o34=>?_
 refine zbV (α:=DStmt) zeE zbC zuh zo3 (by decide) r31 (by omega) o34 (by omega) (by omega) (by rw [zap,List.length_append];omega) (by rw [List.length_append];omega) fun v36 w8 hc8 r36=>?_
 refine ⟨(((hx1.upG.trans hc2.upG1).trans (hx3.upG.trans hc4.upG1)).trans hc6.upG1).trans ((hc7.upG (by omega)).trans (hc8.upG (by omega))),(hC6.chg hc7 (by omega) (by omega)).chg hc8 (by omega) (by omega),?_⟩
 simpa [zdg] using r36
theorem zsd {P:Program} {X:Nat→Prop} {m:Sem Value} {w:World} {v:Value} {K:Value→Prop} (h:∀ w':World,m.run P w'=.ok v w') (k:K v):RDX P X m w K:=⟨v,fun w' _=>h w',k⟩
theorem zqE (bs:List UInt8) (s:Cur):2≤(zi1 bs s).length∧(zi1 bs s).length≤4:=by
 have:=zqv bs s
 unfold zi1
 rw [List.length_take]
 show 2≤min _ 4∧min _ 4≤4
 omega
end Go.Proofs.YtbnjpfjjmhodnaaGreat
namespace Go.Sh
open Rep (rep)
section
variable {P:Program} {w w0 w':World} {α:Type} [Rep α] {lo hi e:Nat} {v:Value} {l:List α}
theorem RowG.flat [Flat α] {F:List Nat} (h:RowG F e w v l):F=[]∨∃ b,F=[b]:=by
 rcases h with ⟨_,_,_,rfl⟩ | ⟨xs,Fi,_,hc,rfl,_⟩
 · exact .inl rfl
 have:=Cells.flat (xs:=xs) hc
 subst this
 rcases hv:v.ownBlock with _ | b
 · exact .inl (by simp)
 exact .inr ⟨b,by simp⟩
theorem zqF [RepZ α]:OwnI lo hi w (mkv α (RepZ.zc α)) (RepZ.zv:α):=⟨[],⟨⟨RepZ.zc α,RepZ.zr w,rfl⟩,List.nodup_nil,Wr.nil w⟩,by simp⟩
theorem Chg.ofI {F:List Nat} (h:Chg F w w') (hF:∀ b∈F,lo≤b∧b<hi):ChgI lo hi w w':=
 ⟨h.os,h.tape,h.output,h.size,fun b hb hx=>h.block b hb fun hm=>by have:=hF b hm;omega⟩
theorem ChgI.ext_left {w1:World} (hx:Ext w w1) (h:ChgI lo hi w1 w'):ChgI lo hi w w':=
 ⟨h.os.trans hx.os,h.tape.trans hx.tape,h.output.trans hx.output,Nat.le_trans hx.size h.size,fun b hb ho=>by rw [h.block b (Nat.lt_of_lt_of_le hb hx.size) ho,hx.block b hb]⟩
theorem zd6 [Flat α] {t ty:TypeId} {by_:Nat} {u:Value} {x:α} {lo2 hi2:Nat} {K:Value→World→Prop} (ht:P.underlying t=some (.slice e)) (he:tyI P e=some (Rep.size α,by_,Rep.agg α)) (hz:zbI P e=true)
   (hzc:(P.info? e).map (fun i=>(i.zero.map (·.cells.size)))=some (some (Rep.size α))) (hsz:Rep.size α≤1000) (hv:RowI lo hi e w v l) (hx:OwnI lo2 hi2 w u x) (hm:l.length+1≤maxLen) (hb:(l.length+1)*by_≤140737488355328)
   (k:∀ v' w' lo' hi',ChgI lo hi w w'→RowI lo' hi' e w' v' (l++[x])→(lo'=lo∧hi'=hi∨lo'=w.heap.size∧hi'=w'.heap.size)→K v' w'):OP P (Instr.buildSlice t 1 #[(0,u)]) w fun s w1=>OP P (Builtin.append_ #[t,t] ty [v,s].toArray) w1 K:=by
 obtain ⟨F,h1,h2,h3⟩:=zfX.1 hv
 obtain ⟨G,hmx,hG⟩:=hx
 have hGn:G=[]:=by obtain ⟨cs,hr,_⟩:=hmx.own;exact Flat.flat hr
 subst hGn
 refine ze8 (K:=fun _=>K) ht he hz hzc hsz h1 h2 hmx (by simp) hm hb (fun w1 v' w' G' hx1 hc hR hN hs=>?_) fun _ _ _ h=>h
 have hcI:=ChgI.ext_left hx1 (hc.ofI h3)
 have hlt:=hR.lt
 rcases hR.flat with rfl | ⟨b,rfl⟩
 · exact k v' w' lo hi hcI (zfX.2 ⟨[],hR,hN,by simp⟩) (.inl ⟨rfl,rfl⟩)
 rcases hs b (by simp) with h | h | h
 · exact k v' w' lo hi hcI (zfX.2 ⟨[b],hR,hN,fun c hc=>by simp at hc;subst hc;exact h3 _ h⟩) (.inl ⟨rfl,rfl⟩)
 · cases h
 exact k v' w' w.heap.size w'.heap.size hcI (zfX.2 ⟨[b],hR,hN,fun c hc=>by simp at hc;subst hc;exact ⟨h,hlt _ (by simp)⟩⟩) (.inr ⟨rfl,rfl⟩)
end
end Go.Sh
namespace Go.Proofs.YtbnjpfjjmhodnaaGreat
open Go Go.Sh Go.Proofs
open Rep (rep)
def F316 (a0 a1:Value) (w:World) (R:VW):Prop:=
 LOOPI [5] [(iV 0)] w fun u2 w next2=>
 rN 162 3 a0 w fun x10=>
 rC (u2 5) x10 w fun x11=>
 BR x11
 (rX 162 a0 (u2 5) w fun x16=>
 rL 209 x16 w fun x17=>
 oP (Instr.alloc 209 true (.tuple #[])) w fun x6 w=>
 oS 209 x6 x17 w fun w=>
 JOIN [7] (fun J6=>
 rF 209 x6 0 w fun x18=>
 rL 3 x18 w fun x19=>
 rB .eql 3 T0 U0 x19 (iV 2) w fun x20=>
 BR x20
 (J6 [(Value.bool true)] w)
 (rF 209 x6 0 w fun x22=>
 rL 3 x22 w fun x23=>
 rB .eql 3 T0 U0 x23 (iV 3) w fun x24=>
 J6 [x24] w)) (fun u6 w=>
 rL 209 x6 w fun x26=>
 cL 340 [x26] w fun x27 w=>
 rD (Op.unary .not x27) w fun x28=>
 BR x28
 (R (Value.bool false) w)
 (GBR (u6 7)
 (rB .eql 3 T0 U0 a1 (iV 0) w fun x33=>
 BR x33
 (R (Value.bool false) w)
 (GBR (u6 7)
 (rF 209 x6 3 w fun x39=>
 rL 162 x39 w fun x40=>
 rB .sub 3 T0 U0 a1 (iV 1) w fun x42=>
 cL 316 [x40,x42] w fun x43 w=>
 rD (Op.unary .not x43) w fun x44=>
 GBR x44
 (R (Value.bool false) w)
 (rF 209 x6 4 w fun x46=>
 rL 162 x46 w fun x47=>
 rB .sub 3 T0 U0 a1 (iV 1) w fun x49=>
 cL 316 [x47,x49] w fun x50 w=>
 rD (Op.unary .not x50) w fun x51=>
 BR x51
 (R (Value.bool false) w)
 (rA (u2 5) (iV 1) w fun x13=>
 next2 [x13] w))
 (BR undef
 (R (Value.bool false) w)
 (BR undef
 (R (Value.bool false) w)
 (rA (u2 5) (iV 1) w fun x13=>
 next2 [x13] w))))
 (rA (u2 5) (iV 1) w fun x13=>
 next2 [x13] w)
 (BR undef
 (BR undef
 (R (Value.bool false) w)
 (rA (u2 5) (iV 1) w fun x13=>
 next2 [x13] w))
 (rA (u2 5) (iV 1) w fun x13=>
 next2 [x13] w))))
 (GBR (u6 7)
 (rF 209 x6 3 w fun x39=>
 rL 162 x39 w fun x40=>
 rB .sub 3 T0 U0 a1 (iV 1) w fun x42=>
 cL 316 [x40,x42] w fun x43 w=>
 rD (Op.unary .not x43) w fun x44=>
 GBR x44
 (R (Value.bool false) w)
 (rF 209 x6 4 w fun x46=>
 rL 162 x46 w fun x47=>
 rB .sub 3 T0 U0 a1 (iV 1) w fun x49=>
 cL 316 [x47,x49] w fun x50 w=>
 rD (Op.unary .not x50) w fun x51=>
 BR x51
 (R (Value.bool false) w)
 (rA (u2 5) (iV 1) w fun x13=>
 next2 [x13] w))
 (BR undef
 (R (Value.bool false) w)
 (BR undef
 (R (Value.bool false) w)
 (rA (u2 5) (iV 1) w fun x13=>
 next2 [x13] w))))
 (rA (u2 5) (iV 1) w fun x13=>
 next2 [x13] w)
 (BR undef
 (BR undef
 (R (Value.bool false) w)
 (rA (u2 5) (iV 1) w fun x13=>
 next2 [x13] w))
 (rA (u2 5) (iV 1) w fun x13=>
 next2 [x13] w)))
 (BR undef
 (BR undef
 (R (Value.bool false) w)
 (GBR (u6 7)
 (rF 209 x6 3 w fun x39=>
 rL 162 x39 w fun x40=>
 rB .sub 3 T0 U0 a1 (iV 1) w fun x42=>
 cL 316 [x40,x42] w fun x43 w=>
 rD (Op.unary .not x43) w fun x44=>
 GBR x44
 (R (Value.bool false) w)
 (rF 209 x6 4 w fun x46=>
 rL 162 x46 w fun x47=>
 rB .sub 3 T0 U0 a1 (iV 1) w fun x49=>
 cL 316 [x47,x49] w fun x50 w=>
 rD (Op.unary .not x50) w fun x51=>
 BR x51
 (R (Value.bool false) w)
 (rA (u2 5) (iV 1) w fun x13=>
 next2 [x13] w))
 (BR undef
 (R (Value.bool false) w)
 (BR undef
 (R (Value.bool false) w)
 (rA (u2 5) (iV 1) w fun x13=>
 next2 [x13] w))))
 (rA (u2 5) (iV 1) w fun x13=>
 next2 [x13] w)
 (BR undef
 (BR undef
 (R (Value.bool false) w)
 (rA (u2 5) (iV 1) w fun x13=>
 next2 [x13] w))
 (rA (u2 5) (iV 1) w fun x13=>
 next2 [x13] w))))
 (GBR (u6 7)
 (rF 209 x6 3 w fun x39=>
 rL 162 x39 w fun x40=>
 rB .sub 3 T0 U0 a1 (iV 1) w fun x42=>
 cL 316 [x40,x42] w fun x43 w=>
 rD (Op.unary .not x43) w fun x44=>
 GBR x44
 (R (Value.bool false) w)
 (rF 209 x6 4 w fun x46=>
 rL 162 x46 w fun x47=>
 rB .sub 3 T0 U0 a1 (iV 1) w fun x49=>
 cL 316 [x47,x49] w fun x50 w=>
 rD (Op.unary .not x50) w fun x51=>
 BR x51
 (R (Value.bool false) w)
 (rA (u2 5) (iV 1) w fun x13=>
 next2 [x13] w))
 (BR undef
 (R (Value.bool false) w)
 (BR undef
 (R (Value.bool false) w)
 (rA (u2 5) (iV 1) w fun x13=>
 next2 [x13] w))))
 (rA (u2 5) (iV 1) w fun x13=>
 next2 [x13] w)
 (BR undef
 (BR undef
 (R (Value.bool false) w)
 (rA (u2 5) (iV 1) w fun x13=>
 next2 [x13] w))
 (rA (u2 5) (iV 1) w fun x13=>
 next2 [x13] w)))))))
 (R (Value.bool true) w)
def cfg316:Cfg:=⟨extL,[(6,66846848,[7])],[(2,36028797018963952,[5])],[],[],[],[]⟩
theorem F316_call {a0 a1:Value} {w:World} {R:VW} (h:F316 a0 a1 w R):cL 316 [a0,a1] w R:=co (g:=cfg316) Tryz.func316 (by kernel_rfl) (by kernel_rfl) (by kernel_rfl) h
def F274 (a0:Value) (w:World) (R:VW):Prop:=
 cL 199 [a0,(iV 60)] w fun x4 w=>
 rB .geq 3 T0 U0 x4 (iV 0) w fun x5=>
 BR x5
 (cL 316 [a0,(iV 6)] w fun x8 w=>
 R x8 w)
 (R (Value.bool false) w)
def cfg274:Cfg:=⟨extL,[],[],[],[],[],[]⟩
theorem F274_call {a0:Value} {w:World} {R:VW} (h:F274 a0 w R):cL 274 [a0] w R:=co (g:=cfg274) Tryz.func274 (by kernel_rfl) (by kernel_rfl) (by kernel_rfl) h
def F223 (a0:Value) (w:World) (R:VW):Prop:=
 oP (Instr.box 112 a0) w fun x1 w=>
 oP (Instr.buildSlice 24 0 #[]) w fun x5 w=>
 LOOPI [3,4] [x5,(iV 0)] w fun u3 w next3=>
 rF 112 x1 2 w fun x7=>
 rL 110 x7 w fun x8=>
 rN 110 3 x8 w fun x9=>
 rC (u3 4) x9 w fun x10=>
 BR x10
 (rF 112 x1 2 w fun x14=>
 rL 110 x14 w fun x15=>
 rX 110 x15 (u3 4) w fun x17=>
 rF 164 x17 0 w fun x18=>
 rL 9 x18 w fun x19=>
 oP (Instr.buildSlice 24 1 #[(0,x19)]) w fun x20 w=>
 oP (Builtin.append_ #[24,24] 24 [(u3 3),x20].toArray) w fun x21 w=>
 rA (u3 4) (iV 1) w fun x12=>
 next3 [x21,x12] w)
 (R (u3 3) w)
def cfg223:Cfg:=⟨extL,[],[(3,4194264,[3,4])],[],[],[],[]⟩
theorem F223_call {a0:Value} {w:World} {R:VW} (h:F223 a0 w R):cL 223 [a0] w R:=co (g:=cfg223) Tryz.func223 (by kernel_rfl) (by kernel_rfl) (by kernel_rfl) h
def F317 (a0 a1 a2:Value) (w:World) (R:VW):Prop:=
 cL 233 [a1,a2] w fun x9 w=>
 BR x9
 (R a0 w)
 (cL 233 [a0,a2] w fun x13 w=>
 BR x13
 (R a0 w)
 (oP (Instr.buildSlice 24 1 #[(0,a2)]) w fun x18 w=>
 oP (Builtin.append_ #[24,24] 24 [a0,x18].toArray) w fun x19 w=>
 R x19 w))
def cfg317:Cfg:=⟨extL,[],[],[],[],[],[]⟩
theorem F317_call {a0 a1 a2:Value} {w:World} {R:VW} (h:F317 a0 a1 a2 w R):cL 317 [a0,a1,a2] w R:=co (g:=cfg317) Tryz.func317 (by kernel_rfl) (by kernel_rfl) (by kernel_rfl) h
def F275 (a0 a1 a2:Value) (w:World) (R:VW):Prop:=
 oP (Instr.box 112 a0) w fun x3 w=>
 LOOPI [2,7] [a2,(iV 0)] w fun u2 w next2=>
 rN 162 3 a1 w fun x13=>
 rC (u2 7) x13 w fun x14=>
 BR x14
 (rX 162 a1 (u2 7) w fun x19=>
 rL 209 x19 w fun x20=>
 oP (Instr.alloc 209 true (.tuple #[])) w fun x8 w=>
 oS 209 x8 x20 w fun w=>
 JOIN [2] (fun J14=>
 rF 209 x8 0 w fun x21=>
 rL 3 x21 w fun x22=>
 rB .eql 3 T0 U0 x22 (iV 1) w fun x24=>
 BR x24
 (rF 112 x3 0 w fun x26=>
 rL 24 x26 w fun x27=>
 rF 209 x8 1 w fun x28=>
 rL 9 x28 w fun x29=>
 cL 317 [(u2 2),x27,x29] w fun x30 w=>
 J14 [x30] w)
 (rB .eql 3 T0 U0 x22 (iV 6) w fun x32=>
 BR x32
 (rF 112 x3 1 w fun x35=>
 rL 24 x35 w fun x36=>
 rF 209 x8 1 w fun x37=>
 rL 9 x37 w fun x38=>
 cL 317 [(u2 2),x36,x38] w fun x39 w=>
 J14 [x39] w)
 (rB .eql 3 T0 U0 x22 (iV 7) w fun x33=>
 BR x33
 (rF 112 x3 1 w fun x35=>
 rL 24 x35 w fun x36=>
 rF 209 x8 1 w fun x37=>
 rL 9 x37 w fun x38=>
 cL 317 [(u2 2),x36,x38] w fun x39 w=>
 J14 [x39] w)
 (rB .eql 3 T0 U0 x22 (iV 4) w fun x41=>
 BR x41
 ((fun w=>rL 112 x3 w fun x44=>
 rF 209 x8 1 w fun x46=>
 rL 9 x46 w fun x47=>
 (fun w_=>cL 223 [x44] w_ fun x45 w=>
 Ext w_ w ∧
 cL 317 [(u2 2),x45,x47] w fun x48 w=>
 J14 [x48] w) w) (World.drew1 w))
 (rB .eql 3 T0 U0 x22 (iV 5) w fun x42=>
 BR x42
 ((fun w=>rL 112 x3 w fun x44=>
 rF 209 x8 1 w fun x46=>
 rL 9 x46 w fun x47=>
 (fun w_=>cL 223 [x44] w_ fun x45 w=>
 Ext w_ w ∧
 cL 317 [(u2 2),x45,x47] w fun x48 w=>
 J14 [x48] w) w) (World.drew1 w))
 (J14 [(u2 2)] w)))))) (fun u14 w=>
 JOIN [2] (fun J20=>
 rF 209 x8 0 w fun x49=>
 rL 3 x49 w fun x50=>
 rB .eql 3 T0 U0 x50 (iV 1) w fun x51=>
 BR x51
 (rF 209 x8 2 w fun x62=>
 rL 75 x62 w fun x63=>
 cL 215 [x63] w fun x64 w=>
 LOOPI [2,10] [(u14 2),(iV 0)] w fun u17 w next17=>
 rN 24 3 x64 w fun x67=>
 rC (u17 10) x67 w fun x68=>
 BR x68
 ((fun w=>rF 112 x3 0 w fun x72=>
 rL 24 x72 w fun x73=>
 rX 24 x64 (u17 10) w fun x76=>
 rL 9 x76 w fun x77=>
 cL 317 [(u17 2),x73,x77] w fun x78 w=>
 rA (u17 10) (iV 1) w fun x70=>
 next17 [x78,x70] w) (World.drew1 w))
 (J20 [(u17 2)] w))
 (rF 209 x8 0 w fun x53=>
 rL 3 x53 w fun x54=>
 rB .eql 3 T0 U0 x54 (iV 2) w fun x55=>
 BR x55
 (rF 209 x8 2 w fun x62=>
 rL 75 x62 w fun x63=>
 cL 215 [x63] w fun x64 w=>
 LOOPI [2,10] [(u14 2),(iV 0)] w fun u17 w next17=>
 rN 24 3 x64 w fun x67=>
 rC (u17 10) x67 w fun x68=>
 BR x68
 ((fun w=>rF 112 x3 0 w fun x72=>
 rL 24 x72 w fun x73=>
 rX 24 x64 (u17 10) w fun x76=>
 rL 9 x76 w fun x77=>
 cL 317 [(u17 2),x73,x77] w fun x78 w=>
 rA (u17 10) (iV 1) w fun x70=>
 next17 [x78,x70] w) (World.drew1 w))
 (J20 [(u17 2)] w))
 (rF 209 x8 0 w fun x58=>
 rL 3 x58 w fun x59=>
 rB .eql 3 T0 U0 x59 (iV 3) w fun x60=>
 BR x60
 (rF 209 x8 2 w fun x62=>
 rL 75 x62 w fun x63=>
 cL 215 [x63] w fun x64 w=>
 LOOPI [2,10] [(u14 2),(iV 0)] w fun u17 w next17=>
 rN 24 3 x64 w fun x67=>
 rC (u17 10) x67 w fun x68=>
 BR x68
 ((fun w=>rF 112 x3 0 w fun x72=>
 rL 24 x72 w fun x73=>
 rX 24 x64 (u17 10) w fun x76=>
 rL 9 x76 w fun x77=>
 cL 317 [(u17 2),x73,x77] w fun x78 w=>
 rA (u17 10) (iV 1) w fun x70=>
 next17 [x78,x70] w) (World.drew1 w))
 (J20 [(u17 2)] w))
 (J20 [(u14 2)] w)))) (fun u20 w=>
 rL 112 x3 w fun x79=>
 rF 209 x8 3 w fun x80=>
 rL 162 x80 w fun x81=>
 cL 275 [x79,x81,(u20 2)] w fun x83 w=>
 rL 112 x3 w fun x84=>
 rF 209 x8 4 w fun x85=>
 rL 162 x85 w fun x86=>
 cL 275 [x84,x86,x83] w fun x88 w=>
 rA (u2 7) (iV 1) w fun x16=>
 next2 [x88,x16] w)))
 (R (u2 2) w)
def cfg275:Cfg:=⟨extL,[(14,562949951324164,[2]),(20,604462909244364633933316,[2])],[(2,618970019642690137449561988,[2,7]),(17,604426016319167168250884,[2,10])],[(13,[0,1,3,4,2,5,6],4),(19,[0,1,2,3,4,5,6,7,8],0)],[],[],[]⟩
theorem F275_call {a0 a1 a2:Value} {w:World} {R:VW} (h:F275 a0 a1 a2 w R):cL 275 [a0,a1,a2] w R:=co (g:=cfg275) Tryz.func275 (by kernel_rfl) (by kernel_rfl) (by kernel_rfl) h
def F222 (a0:Value) (w:World) (R:VW):Prop:=
 oP (Instr.box 112 a0) w fun x1 w=>
 rF 112 x1 0 w fun x4=>
 rL 24 x4 w fun x5=>
 cL 211 [x5,(iV 6)] w fun x6 w=>
 rD (Op.unary .not x6) w fun x7=>
 BR x7
 (R (Value.bool false) w)
 (rF 112 x1 1 w fun x9=>
 rL 24 x9 w fun x10=>
 cL 211 [x10,(iV 6)] w fun x11 w=>
 rD (Op.unary .not x11) w fun x12=>
 BR x12
 (R (Value.bool false) w)
 (rF 112 x1 2 w fun x15=>
 rL 110 x15 w fun x16=>
 rN 110 3 x16 w fun x17=>
 rB .gtr 3 T0 U0 x17 (iV 8) w fun x18=>
 BR x18
 (R (Value.bool false) w)
 (LOOPI [3] [(iV 0)] w fun u4 w next4=>
 rF 112 x1 2 w fun x21=>
 rL 110 x21 w fun x22=>
 rN 110 3 x22 w fun x23=>
 rC (u4 3) x23 w fun x24=>
 BR x24
 (rF 112 x1 2 w fun x27=>
 rL 110 x27 w fun x28=>
 rX 110 x28 (u4 3) w fun x30=>
 rF 164 x30 0 w fun x31=>
 rL 9 x31 w fun x32=>
 cL 261 [x32] w fun x33 w=>
 rD (Op.unary .not x33) w fun x34=>
 BR x34
 (R (Value.bool false) w)
 (rF 112 x1 2 w fun x36=>
 rL 110 x36 w fun x37=>
 rX 110 x37 (u4 3) w fun x39=>
 rF 164 x39 1 w fun x40=>
 rL 162 x40 w fun x41=>
 cL 274 [x41] w fun x42 w=>
 rD (Op.unary .not x42) w fun x43=>
 BR x43
 (R (Value.bool false) w)
 (rA (u4 3) (iV 1) w fun x26=>
 next4 [x26] w)))
 (R (Value.bool true) w))))
def cfg222:Cfg:=⟨extL,[],[(4,35184371040268,[3])],[],[],[],[]⟩
theorem F222_call {a0:Value} {w:World} {R:VW} (h:F222 a0 w R):cL 222 [a0] w R:=co (g:=cfg222) Tryz.func222 (by kernel_rfl) (by kernel_rfl) (by kernel_rfl) h
def F224 (a0:Value) (w:World) (R:VW):Prop:=
 oP (Instr.box 112 a0) w fun x1 w=>
 oP (Instr.buildSlice 24 0 #[]) w fun x5 w=>
 LOOPI [3,4] [x5,(iV 0)] w fun u3 w next3=>
 rL 112 x1 w fun x6=>
 cL 222 [x6] w fun x7 w=>
 BR x7
 (rF 112 x1 2 w fun x10=>
 rL 110 x10 w fun x11=>
 rN 110 3 x11 w fun x12=>
 rC (u3 4) x12 w fun x13=>
 BR x13
 ((fun w=>rL 112 x1 w fun x17=>
 rF 112 x1 2 w fun x18=>
 rL 110 x18 w fun x19=>
 rX 110 x19 (u3 4) w fun x21=>
 rF 164 x21 1 w fun x22=>
 rL 162 x22 w fun x23=>
 cL 275 [x17,x23,(u3 3)] w fun x25 w=>
 rA (u3 4) (iV 1) w fun x16=>
 next3 [x25,x16] w) (World.drew1 w))
 (R (u3 3) w))
 (R (u3 3) w)
def cfg224:Cfg:=⟨extL,[],[(3,67108824,[3,4])],[(5,[0,1,2,3,4,5,6,7,8,9],0)],[],[],[]⟩
theorem F224_call {a0:Value} {w:World} {R:VW} (h:F224 a0 w R):cL 224 [a0] w R:=co (g:=cfg224) Tryz.func224 (by kernel_rfl) (by kernel_rfl) (by kernel_rfl) h
def F158 (a0:Value) (w:World) (R:VW):Prop:=
 oP (Instr.box 112 a0) w fun x1 w=>
 rL 112 x1 w fun x4=>
 cL 222 [x4] w fun x5 w=>
 rD (Op.unary .not x5) w fun x6=>
 BR x6
 (R (iV 1) w)
 (rF 112 x1 0 w fun x8=>
 rL 24 x8 w fun x9=>
 cL 212 [x9] w fun x10 w=>
 BR x10
 (R (iV 2) w)
 (rF 112 x1 1 w fun x12=>
 rL 24 x12 w fun x13=>
 cL 212 [x13] w fun x14 w=>
 BR x14
 (R (iV 2) w)
 (rL 112 x1 w fun x17=>
 cL 223 [x17] w fun x18 w=>
 cL 212 [x18] w fun x19 w=>
 BR x19
 (R (iV 2) w)
 (rL 112 x1 w fun x22=>
 cL 224 [x22] w fun x23 w=>
 rN 24 3 x23 w fun x24=>
 rB .gtr 3 T0 U0 x24 (iV 0) w fun x25=>
 BR x25
 (R (iV 3) w)
 (rL 112 x1 w fun x27=>
 cL 225 [x27,(Value.string (ByteArray.mk #[109,97,105,110]))] w fun x28 w=>
 rB .lss 3 T0 U0 x28 (iV 0) w fun x29=>
 BR x29
 (R (iV 4) w)
 (R (iV 0) w))))))
def cfg158:Cfg:=⟨extL,[],[],[],[],[],[]⟩
theorem F158_call {a0:Value} {w:World} {R:VW} (h:F158 a0 w R):cL 158 [a0] w R:=co (g:=cfg158) Tryz.func158 (by kernel_rfl) (by kernel_rfl) (by kernel_rfl) h
def zvk (t:DStmt):Prop:=(t.kind=1∧za8 t.name=true∧zbg 6 t.term=true∧t.body=[]∧t.els=[])∨((t.kind=4∨t.kind=5∨t.kind=6∨t.kind=7)∧za8 t.name=true∧t.term=term0∧t.body=[]∧t.els=[]) ∨
 (t.kind=8∧t.name=ByteArray.mk #[]∧t.term=term0∧t.body=[]∧t.els=[])∨(t.kind=2∧t.name=ByteArray.mk #[]∧zbg 6 t.term=true)∨(t.kind=3∧t.name=ByteArray.mk #[]∧zbg 6 t.term=true∧t.els=[])
theorem StR.one {pr:List ByteArray} {n:Nat} {t:DStmt} (hp:∀ x∈pr,za8 x=true) (h:StR pr n t):zvk t:=by
 have h0:St0 pr t→zvk t:=fun h=>by
   rcases h with ⟨h1,h2,h3,h4,h5⟩ | ⟨h1,h2,h3,h4,h5⟩ | ⟨h1,h2,h3,h4,h5⟩ | ⟨h1,h2,h3,h4,h5⟩
   · exact .inl ⟨h1,zn8 h2,h3.1,h4,h5⟩
   · exact .inr (.inl ⟨by omega,hp _ h2,h3,h4,h5⟩)
   · exact .inr (.inl ⟨by omega,zr5 h2,h3,h4,h5⟩)
   exact .inr (.inr (.inl ⟨h1,h2,h3,h4,h5⟩))
 cases n with
 | zero=>exact h0 h.zero
 | succ n=>
   rcases h.succ with h | ⟨h1,h2,h3,h4,h5⟩
   · exact h0 h
   rcases h1 with h1 | ⟨h1,h6⟩
   · exact .inr (.inr (.inr (.inl ⟨h1,h2,h3.1⟩)))
   exact .inr (.inr (.inr (.inr ⟨h1,h2,h3.1,h6⟩)))
def F340 (a0:Value) (w:World) (R:VW):Prop:=
 oP (Instr.box 209 a0) w fun x1 w=>
 rF 209 x1 2 w fun x4=>
 rL 75 x4 w fun x5=>
 rD (Instr.build 75 #[]) w fun x6=>
 cL 216 [x5,x6] w fun x7 w=>
 rF 209 x1 0 w fun x8=>
 rL 3 x8 w fun x9=>
 rB .eql 3 T0 U0 x9 (iV 1) w fun x11=>
 BR x11
 (rF 209 x1 1 w fun x12=>
 rL 9 x12 w fun x13=>
 cL 261 [x13] w fun x14 w=>
 BR x14
 (rF 209 x1 2 w fun x16=>
 rL 75 x16 w fun x17=>
 cL 214 [x17] w fun x18 w=>
 BR x18
 (rF 209 x1 3 w fun x21=>
 rL 162 x21 w fun x22=>
 rN 162 3 x22 w fun x23=>
 rF 209 x1 4 w fun x24=>
 rL 162 x24 w fun x25=>
 rN 162 3 x25 w fun x26=>
 rB .add 3 T0 T0 x23 x26 w fun x27=>
 rB .eql 3 T0 U0 x27 (iV 0) w fun x28=>
 R x28 w)
 (R (Value.bool false) w))
 (R (Value.bool false) w))
 (rB .eql 3 T0 U0 x9 (iV 2) w fun x31=>
 BR x31
 (rF 209 x1 1 w fun x32=>
 rL 9 x32 w fun x33=>
 rB .eql 9 T0 U0 x33 (Value.string (ByteArray.mk #[])) w fun x34=>
 BR x34
 (rF 209 x1 2 w fun x36=>
 rL 75 x36 w fun x37=>
 cL 214 [x37] w fun x38 w=>
 R x38 w)
 (R (Value.bool false) w))
 (rB .eql 3 T0 U0 x9 (iV 3) w fun x41=>
 BR x41
 (rF 209 x1 1 w fun x42=>
 rL 9 x42 w fun x43=>
 rB .eql 9 T0 U0 x43 (Value.string (ByteArray.mk #[])) w fun x44=>
 BR x44
 (rF 209 x1 2 w fun x46=>
 rL 75 x46 w fun x47=>
 cL 214 [x47] w fun x48 w=>
 BR x48
 (rF 209 x1 4 w fun x51=>
 rL 162 x51 w fun x52=>
 rN 162 3 x52 w fun x53=>
 rB .eql 3 T0 U0 x53 (iV 0) w fun x54=>
 R x54 w)
 (R (Value.bool false) w))
 (R (Value.bool false) w))
 (rB .eql 3 T0 U0 x9 (iV 4) w fun x57=>
 BR x57
 (rF 209 x1 1 w fun x61=>
 rL 9 x61 w fun x62=>
 cL 261 [x62] w fun x63 w=>
 BR x63
 (BR x7
 (rF 209 x1 3 w fun x68=>
 rL 162 x68 w fun x69=>
 rN 162 3 x69 w fun x70=>
 rF 209 x1 4 w fun x71=>
 rL 162 x71 w fun x72=>
 rN 162 3 x72 w fun x73=>
 rB .add 3 T0 T0 x70 x73 w fun x74=>
 rB .eql 3 T0 U0 x74 (iV 0) w fun x75=>
 R x75 w)
 (R (Value.bool false) w))
 (R (Value.bool false) w))
 (rB .eql 3 T0 U0 x9 (iV 5) w fun x58=>
 BR x58
 (rF 209 x1 1 w fun x61=>
 rL 9 x61 w fun x62=>
 cL 261 [x62] w fun x63 w=>
 BR x63
 (BR x7
 (rF 209 x1 3 w fun x68=>
 rL 162 x68 w fun x69=>
 rN 162 3 x69 w fun x70=>
 rF 209 x1 4 w fun x71=>
 rL 162 x71 w fun x72=>
 rN 162 3 x72 w fun x73=>
 rB .add 3 T0 T0 x70 x73 w fun x74=>
 rB .eql 3 T0 U0 x74 (iV 0) w fun x75=>
 R x75 w)
 (R (Value.bool false) w))
 (R (Value.bool false) w))
 (rB .eql 3 T0 U0 x9 (iV 6) w fun x59=>
 BR x59
 (rF 209 x1 1 w fun x61=>
 rL 9 x61 w fun x62=>
 cL 261 [x62] w fun x63 w=>
 BR x63
 (BR x7
 (rF 209 x1 3 w fun x68=>
 rL 162 x68 w fun x69=>
 rN 162 3 x69 w fun x70=>
 rF 209 x1 4 w fun x71=>
 rL 162 x71 w fun x72=>
 rN 162 3 x72 w fun x73=>
 rB .add 3 T0 T0 x70 x73 w fun x74=>
 rB .eql 3 T0 U0 x74 (iV 0) w fun x75=>
 R x75 w)
 (R (Value.bool false) w))
 (R (Value.bool false) w))
 (rB .eql 3 T0 U0 x9 (iV 7) w fun x60=>
 BR x60
 (rF 209 x1 1 w fun x61=>
 rL 9 x61 w fun x62=>
 cL 261 [x62] w fun x63 w=>
 BR x63
 (BR x7
 (rF 209 x1 3 w fun x68=>
 rL 162 x68 w fun x69=>
 rN 162 3 x69 w fun x70=>
 rF 209 x1 4 w fun x71=>
 rL 162 x71 w fun x72=>
 rN 162 3 x72 w fun x73=>
 rB .add 3 T0 T0 x70 x73 w fun x74=>
 rB .eql 3 T0 U0 x74 (iV 0) w fun x75=>
 R x75 w)
 (R (Value.bool false) w))
 (R (Value.bool false) w))
 (rB .eql 3 T0 U0 x9 (iV 8) w fun x78=>
 BR x78
 (rF 209 x1 1 w fun x79=>
 rL 9 x79 w fun x80=>
 rB .eql 9 T0 U0 x80 (Value.string (ByteArray.mk #[])) w fun x81=>
 BR x81
 (BR x7
 (rF 209 x1 3 w fun x86=>
 rL 162 x86 w fun x87=>
 rN 162 3 x87 w fun x88=>
 rF 209 x1 4 w fun x89=>
 rL 162 x89 w fun x90=>
 rN 162 3 x90 w fun x91=>
 rB .add 3 T0 T0 x88 x91 w fun x92=>
 rB .eql 3 T0 U0 x92 (iV 0) w fun x93=>
 R x93 w)
 (R (Value.bool false) w))
 (R (Value.bool false) w))
 (R (Value.bool false) w))))))))
def cfg340:Cfg:=⟨extL,[],[],[],[],[],[]⟩
theorem F340_call {a0:Value} {w:World} {R:VW} (h:F340 a0 w R):cL 340 [a0] w R:=co (g:=cfg340) Tryz.func340 (by kernel_rfl) (by kernel_rfl) (by kernel_rfl) h
theorem zqG {w:World} {v0:Value} {W0:World} {t:DStmt}  (h0:Is W0 v0 t) (e0:Ext W0 w) (hr:zvk t) :
   CALL Tryz.prog 340 [v0] w fun r w'=>Ext w w'∧(r=.bool true):=by
 refine F340_call ?_
 unfold F340
 have hbe:t.kind≠2→t.kind≠3→t.body=[]∧t.els=[]:=fun n2 n3=>by
   rcases hr with ⟨k1,k2,k3,k4,k5⟩ | ⟨k1,k2,k3,k4,k5⟩ | ⟨k1,k2,k3,k4,k5⟩ | ⟨k1,k2,k3⟩ | ⟨k1,k2,k3,k4⟩
   · exact ⟨k4,k5⟩
   · exact ⟨k4,k5⟩
   · exact ⟨k4,k5⟩
   · omega
   omega
 refine zaW zbC rfl h0 e0 fun w1_ hx1_ hA1 hV1=>?_
 refine zaa zfz ?_
 refine zab zc5 (zcM hA1) (Ext.refl w1_) fun v5 h5=>?_
 refine zaS (cells:=#[.int .i64 0,.int .i64 0,.string ByteArray.empty,.slice none 0 0]) (by kernel_rfl) ?_
 have o6:OwnI (α:=DTerm) w1_.heap.size w1_.heap.size w1_ (.agg #[.int .i64 0,.int .i64 0,.string ByteArray.empty,.slice none 0 0]) RepZ.zv:=zqF
 refine (zhY h5 (Ext.refl w1_) o6.is (Ext.refl w1_) rfl).mono ?_
 rintro _ w2_ ⟨hx2_,rfl⟩
 refine zaa zes ?_
 refine zac ty3 (zb8 hA1) hx2_ fun hI9=>?_
 refine zai ?_
 refine br (fun c1=>?_) (fun c1=>?_)
 · refine zaa zcq ?_
   refine zav ty9 (zbd hA1) hx2_ fun hS13=>?_
   refine (zbJ ).mono ?_
   rintro _ w3_ ⟨hx3_,rfl⟩
   refine zbw (fun c2=>?_) (fun c2=>?_)
   · refine zaa zfz ?_
     refine zab zc5 (zcM hA1) (hx2_.trans hx3_) fun v17 h17=>?_
     refine (zcz h17 (hx2_.trans hx3_)).mono ?_
     rintro _ w4_ ⟨hx4_,rfl⟩
     refine zbw (fun c3=>?_) (fun c3=>?_)
     · refine zaa zdB ?_
       refine zab zcY (zcy hA1) (hx2_.trans (hx3_.trans hx4_)) fun v22 h22=>?_
       have hln23:=zan h22
       refine zag zeE h22 ?_
       refine zaa zcZ ?_
       refine zab zcY (zb9 hA1) (hx2_.trans (hx3_.trans hx4_)) fun v25 h25=>?_
       have hln26:=zan h25
       refine zag zeE h25 ?_
       refine zdo (by obtain ⟨q1,q2⟩:=hbe (by omega) (by omega);rw [q1,q2];simp [I64]) ?_
       refine zai ?_
       refine ⟨(hx1_.trans (hx2_.trans (hx3_.trans hx4_))),?_⟩
       rcases hr with ⟨k1,k2,k3,k4,k5⟩ | ⟨k1,k2,k3,k4,k5⟩ | ⟨k1,k2,k3,k4,k5⟩ | ⟨k1,k2,k3⟩ | ⟨k1,k2,k3,k4⟩<;>first | (exfalso;omega) | simp_all
     refine ⟨(hx1_.trans (hx2_.trans (hx3_.trans hx4_))),?_⟩
     rcases hr with ⟨k1,k2,k3,k4,k5⟩ | ⟨k1,k2,k3,k4,k5⟩ | ⟨k1,k2,k3,k4,k5⟩ | ⟨k1,k2,k3⟩ | ⟨k1,k2,k3,k4⟩<;>first | (exfalso;omega) | simp_all
   refine ⟨(hx1_.trans (hx2_.trans hx3_)),?_⟩
   rcases hr with ⟨k1,k2,k3,k4,k5⟩ | ⟨k1,k2,k3,k4,k5⟩ | ⟨k1,k2,k3,k4,k5⟩ | ⟨k1,k2,k3⟩ | ⟨k1,k2,k3,k4⟩<;>first | (exfalso;omega) | simp_all
 refine zai ?_
 refine br (fun c4=>?_) (fun c4=>?_)
 · refine zaa zcq ?_
   refine zav ty9 (zbd hA1) hx2_ fun hS33=>?_
   refine zaQ ?_
   refine br (fun c5=>?_) (fun c5=>?_)
   · refine zaa zfz ?_
     refine zab zc5 (zcM hA1) hx2_ fun v37 h37=>?_
     refine (zcz h37 hx2_).mono ?_
     rintro _ w5_ ⟨hx5_,rfl⟩
     refine ⟨(hx1_.trans (hx2_.trans hx5_)),?_⟩
     rcases hr with ⟨k1,k2,k3,k4,k5⟩ | ⟨k1,k2,k3,k4,k5⟩ | ⟨k1,k2,k3,k4,k5⟩ | ⟨k1,k2,k3⟩ | ⟨k1,k2,k3,k4⟩<;>first | (exfalso;omega) | simp_all
   refine ⟨(hx1_.trans hx2_),?_⟩
   rcases hr with ⟨k1,k2,k3,k4,k5⟩ | ⟨k1,k2,k3,k4,k5⟩ | ⟨k1,k2,k3,k4,k5⟩ | ⟨k1,k2,k3⟩ | ⟨k1,k2,k3,k4⟩<;>first | (exfalso;omega) | simp_all
 refine zai ?_
 refine br (fun c6=>?_) (fun c6=>?_)
 · refine zaa zcq ?_
   refine zav ty9 (zbd hA1) hx2_ fun hS43=>?_
   refine zaQ ?_
   refine br (fun c7=>?_) (fun c7=>?_)
   · refine zaa zfz ?_
     refine zab zc5 (zcM hA1) hx2_ fun v47 h47=>?_
     refine (zcz h47 hx2_).mono ?_
     rintro _ w6_ ⟨hx6_,rfl⟩
     refine zbw (fun c8=>?_) (fun c8=>?_)
     · refine zaa zcZ ?_
       refine zab zcY (zb9 hA1) (hx2_.trans hx6_) fun v52 h52=>?_
       have hln53:=zan h52
       refine zag zeE h52 ?_
       refine zai ?_
       refine ⟨(hx1_.trans (hx2_.trans hx6_)),?_⟩
       rcases hr with ⟨k1,k2,k3,k4,k5⟩ | ⟨k1,k2,k3,k4,k5⟩ | ⟨k1,k2,k3,k4,k5⟩ | ⟨k1,k2,k3⟩ | ⟨k1,k2,k3,k4⟩<;>first | (exfalso;omega) | simp_all
     refine ⟨(hx1_.trans (hx2_.trans hx6_)),?_⟩
     rcases hr with ⟨k1,k2,k3,k4,k5⟩ | ⟨k1,k2,k3,k4,k5⟩ | ⟨k1,k2,k3,k4,k5⟩ | ⟨k1,k2,k3⟩ | ⟨k1,k2,k3,k4⟩<;>first | (exfalso;omega) | simp_all
   refine ⟨(hx1_.trans hx2_),?_⟩
   rcases hr with ⟨k1,k2,k3,k4,k5⟩ | ⟨k1,k2,k3,k4,k5⟩ | ⟨k1,k2,k3,k4,k5⟩ | ⟨k1,k2,k3⟩ | ⟨k1,k2,k3,k4⟩<;>first | (exfalso;omega) | simp_all
 refine zai ?_
 refine br (fun c9=>?_) (fun c9=>?_)
 · refine zaa zcq ?_
   refine zav ty9 (zbd hA1) hx2_ fun hS62=>?_
   refine (zbJ ).mono ?_
   rintro _ w7_ ⟨hx7_,rfl⟩
   refine zbw (fun c10=>?_) (fun c10=>?_)
   · refine br (fun c11=>?_) (fun c11=>?_)
     · refine zaa zdB ?_
       refine zab zcY (zcy hA1) (hx2_.trans hx7_) fun v69 h69=>?_
       have hln70:=zan h69
       refine zag zeE h69 ?_
       refine zaa zcZ ?_
       refine zab zcY (zb9 hA1) (hx2_.trans hx7_) fun v72 h72=>?_
       have hln73:=zan h72
       refine zag zeE h72 ?_
       refine zdo (by obtain ⟨q1,q2⟩:=hbe (by omega) (by omega);rw [q1,q2];simp [I64]) ?_
       refine zai ?_
       refine ⟨(hx1_.trans (hx2_.trans hx7_)),?_⟩
       rcases hr with ⟨k1,k2,k3,k4,k5⟩ | ⟨k1,k2,k3,k4,k5⟩ | ⟨k1,k2,k3,k4,k5⟩ | ⟨k1,k2,k3⟩ | ⟨k1,k2,k3,k4⟩<;>first | (exfalso;omega) | simp_all
     refine ⟨(hx1_.trans (hx2_.trans hx7_)),?_⟩
     rcases hr with ⟨k1,k2,k3,k4,k5⟩ | ⟨k1,k2,k3,k4,k5⟩ | ⟨k1,k2,k3,k4,k5⟩ | ⟨k1,k2,k3⟩ | ⟨k1,k2,k3,k4⟩<;>first | (exfalso;omega) | simp_all
   refine ⟨(hx1_.trans (hx2_.trans hx7_)),?_⟩
   rcases hr with ⟨k1,k2,k3,k4,k5⟩ | ⟨k1,k2,k3,k4,k5⟩ | ⟨k1,k2,k3,k4,k5⟩ | ⟨k1,k2,k3⟩ | ⟨k1,k2,k3,k4⟩<;>first | (exfalso;omega) | simp_all
 refine zai ?_
 refine br (fun c12=>?_) (fun c12=>?_)
 · refine zaa zcq ?_
   refine zav ty9 (zbd hA1) hx2_ fun hS62=>?_
   refine (zbJ ).mono ?_
   rintro _ w8_ ⟨hx8_,rfl⟩
   refine zbw (fun c13=>?_) (fun c13=>?_)
   · refine br (fun c14=>?_) (fun c14=>?_)
     · refine zaa zdB ?_
       refine zab zcY (zcy hA1) (hx2_.trans hx8_) fun v69 h69=>?_
       have hln70:=zan h69
       refine zag zeE h69 ?_
       refine zaa zcZ ?_
       refine zab zcY (zb9 hA1) (hx2_.trans hx8_) fun v72 h72=>?_
       have hln73:=zan h72
       refine zag zeE h72 ?_
       refine zdo (by obtain ⟨q1,q2⟩:=hbe (by omega) (by omega);rw [q1,q2];simp [I64]) ?_
       refine zai ?_
       refine ⟨(hx1_.trans (hx2_.trans hx8_)),?_⟩
       rcases hr with ⟨k1,k2,k3,k4,k5⟩ | ⟨k1,k2,k3,k4,k5⟩ | ⟨k1,k2,k3,k4,k5⟩ | ⟨k1,k2,k3⟩ | ⟨k1,k2,k3,k4⟩<;>first | (exfalso;omega) | simp_all
     refine ⟨(hx1_.trans (hx2_.trans hx8_)),?_⟩
     rcases hr with ⟨k1,k2,k3,k4,k5⟩ | ⟨k1,k2,k3,k4,k5⟩ | ⟨k1,k2,k3,k4,k5⟩ | ⟨k1,k2,k3⟩ | ⟨k1,k2,k3,k4⟩<;>first | (exfalso;omega) | simp_all
   refine ⟨(hx1_.trans (hx2_.trans hx8_)),?_⟩
   rcases hr with ⟨k1,k2,k3,k4,k5⟩ | ⟨k1,k2,k3,k4,k5⟩ | ⟨k1,k2,k3,k4,k5⟩ | ⟨k1,k2,k3⟩ | ⟨k1,k2,k3,k4⟩<;>first | (exfalso;omega) | simp_all
 refine zai ?_
 refine br (fun c15=>?_) (fun c15=>?_)
 · refine zaa zcq ?_
   refine zav ty9 (zbd hA1) hx2_ fun hS62=>?_
   refine (zbJ ).mono ?_
   rintro _ w9_ ⟨hx9_,rfl⟩
   refine zbw (fun c16=>?_) (fun c16=>?_)
   · refine br (fun c17=>?_) (fun c17=>?_)
     · refine zaa zdB ?_
       refine zab zcY (zcy hA1) (hx2_.trans hx9_) fun v69 h69=>?_
       have hln70:=zan h69
       refine zag zeE h69 ?_
       refine zaa zcZ ?_
       refine zab zcY (zb9 hA1) (hx2_.trans hx9_) fun v72 h72=>?_
       have hln73:=zan h72
       refine zag zeE h72 ?_
       refine zdo (by obtain ⟨q1,q2⟩:=hbe (by omega) (by omega);rw [q1,q2];simp [I64]) ?_
       refine zai ?_
       refine ⟨(hx1_.trans (hx2_.trans hx9_)),?_⟩
       rcases hr with ⟨k1,k2,k3,k4,k5⟩ | ⟨k1,k2,k3,k4,k5⟩ | ⟨k1,k2,k3,k4,k5⟩ | ⟨k1,k2,k3⟩ | ⟨k1,k2,k3,k4⟩<;>first | (exfalso;omega) | simp_all
     refine ⟨(hx1_.trans (hx2_.trans hx9_)),?_⟩
     rcases hr with ⟨k1,k2,k3,k4,k5⟩ | ⟨k1,k2,k3,k4,k5⟩ | ⟨k1,k2,k3,k4,k5⟩ | ⟨k1,k2,k3⟩ | ⟨k1,k2,k3,k4⟩<;>first | (exfalso;omega) | simp_all
   refine ⟨(hx1_.trans (hx2_.trans hx9_)),?_⟩
   rcases hr with ⟨k1,k2,k3,k4,k5⟩ | ⟨k1,k2,k3,k4,k5⟩ | ⟨k1,k2,k3,k4,k5⟩ | ⟨k1,k2,k3⟩ | ⟨k1,k2,k3,k4⟩<;>first | (exfalso;omega) | simp_all
 refine zai ?_
 refine br (fun c18=>?_) (fun c18=>?_)
 · refine zaa zcq ?_
   refine zav ty9 (zbd hA1) hx2_ fun hS62=>?_
   refine (zbJ ).mono ?_
   rintro _ w10_ ⟨hx10_,rfl⟩
   refine zbw (fun c19=>?_) (fun c19=>?_)
   · refine br (fun c20=>?_) (fun c20=>?_)
     · refine zaa zdB ?_
       refine zab zcY (zcy hA1) (hx2_.trans hx10_) fun v69 h69=>?_
       have hln70:=zan h69
       refine zag zeE h69 ?_
       refine zaa zcZ ?_
       refine zab zcY (zb9 hA1) (hx2_.trans hx10_) fun v72 h72=>?_
       have hln73:=zan h72
       refine zag zeE h72 ?_
       refine zdo (by obtain ⟨q1,q2⟩:=hbe (by omega) (by omega);rw [q1,q2];simp [I64]) ?_
       refine zai ?_
       refine ⟨(hx1_.trans (hx2_.trans hx10_)),?_⟩
       rcases hr with ⟨k1,k2,k3,k4,k5⟩ | ⟨k1,k2,k3,k4,k5⟩ | ⟨k1,k2,k3,k4,k5⟩ | ⟨k1,k2,k3⟩ | ⟨k1,k2,k3,k4⟩<;>first | (exfalso;omega) | simp_all
     refine ⟨(hx1_.trans (hx2_.trans hx10_)),?_⟩
     rcases hr with ⟨k1,k2,k3,k4,k5⟩ | ⟨k1,k2,k3,k4,k5⟩ | ⟨k1,k2,k3,k4,k5⟩ | ⟨k1,k2,k3⟩ | ⟨k1,k2,k3,k4⟩<;>first | (exfalso;omega) | simp_all
   refine ⟨(hx1_.trans (hx2_.trans hx10_)),?_⟩
   rcases hr with ⟨k1,k2,k3,k4,k5⟩ | ⟨k1,k2,k3,k4,k5⟩ | ⟨k1,k2,k3,k4,k5⟩ | ⟨k1,k2,k3⟩ | ⟨k1,k2,k3,k4⟩<;>first | (exfalso;omega) | simp_all
 refine zai ?_
 refine br (fun c21=>?_) (fun c21=>?_)
 · refine zaa zcq ?_
   refine zav ty9 (zbd hA1) hx2_ fun hS80=>?_
   refine zaQ ?_
   refine br (fun c22=>?_) (fun c22=>?_)
   · refine br (fun c23=>?_) (fun c23=>?_)
     · refine zaa zdB ?_
       refine zab zcY (zcy hA1) hx2_ fun v87 h87=>?_
       have hln88:=zan h87
       refine zag zeE h87 ?_
       refine zaa zcZ ?_
       refine zab zcY (zb9 hA1) hx2_ fun v90 h90=>?_
       have hln91:=zan h90
       refine zag zeE h90 ?_
       refine zdo (by obtain ⟨q1,q2⟩:=hbe (by omega) (by omega);rw [q1,q2];simp [I64]) ?_
       refine zai ?_
       refine ⟨(hx1_.trans hx2_),?_⟩
       rcases hr with ⟨k1,k2,k3,k4,k5⟩ | ⟨k1,k2,k3,k4,k5⟩ | ⟨k1,k2,k3,k4,k5⟩ | ⟨k1,k2,k3⟩ | ⟨k1,k2,k3,k4⟩<;>first | (exfalso;omega) | simp_all
     refine ⟨(hx1_.trans hx2_),?_⟩
     rcases hr with ⟨k1,k2,k3,k4,k5⟩ | ⟨k1,k2,k3,k4,k5⟩ | ⟨k1,k2,k3,k4,k5⟩ | ⟨k1,k2,k3⟩ | ⟨k1,k2,k3,k4⟩<;>first | (exfalso;omega) | simp_all
   refine ⟨(hx1_.trans hx2_),?_⟩
   rcases hr with ⟨k1,k2,k3,k4,k5⟩ | ⟨k1,k2,k3,k4,k5⟩ | ⟨k1,k2,k3,k4,k5⟩ | ⟨k1,k2,k3⟩ | ⟨k1,k2,k3,k4⟩<;>first | (exfalso;omega) | simp_all
 refine ⟨(hx1_.trans hx2_),?_⟩
 rcases hr with ⟨k1,k2,k3,k4,k5⟩ | ⟨k1,k2,k3,k4,k5⟩ | ⟨k1,k2,k3,k4,k5⟩ | ⟨k1,k2,k3⟩ | ⟨k1,k2,k3,k4⟩<;>first | (exfalso;omega) | simp_all
def zqH (pr:List ByteArray) (n:Nat) (l:List DStmt):Prop:=∀ {w W:World} {v:Value} {d:Int},Is W v l→Ext W w→(∀ x∈l,StR pr n x)→(n:Int)≤d→d≤6 →
 CALL Tryz.prog 316 [v,.int .i64 d] w fun r w'=>Ext w w'∧r=.bool true
theorem zgR {pr:List ByteArray} {n:Nat} {l:List DStmt} (hp:∀ x∈pr,za8 x=true) (ih:∀ m l,m+1=n→zqH pr m l):zqH pr n l:=by
 intro w W v d h e hs hd0 hd1
 have hln:=zan h
 refine F316_call ?_
 unfold F316
 refine zas l.length (fun k us w'=>us=[.int .i64 (k:Int)]∧Ext w w'∧k≤l.length) 0 (Nat.zero_le _) ⟨rfl,Ext.refl w,Nat.zero_le _⟩ ?_
 rintro k m u w1 hkm ⟨hu,hx1,hkl⟩
 simp only [List.map_cons,List.map_nil,List.cons.injEq,and_true] at hu
 rw [hu]
 refine zag zeE h ?_
 refine zah ?_
 refine br (fun hlt=>?_) (fun hge=>?_)
 · have hk:k<l.length:=by omega
   obtain ⟨x,hx⟩:∃ x,x=l[k]:=⟨_,rfl⟩
   have hxs:StR pr n x:=by rw [hx];exact hs _ (List.getElem_mem hk)
   refine zad zeE zbC h hk fun b16 o16 hA16=>?_
   rw [←hx] at hA16
   refine zab zbC hA16 (e.trans hx1) fun v17 h17=>?_
   refine zce zqe rfl zbC rfl h17 (e.trans hx1) fun w2 hx2 hA6 hV6=>?_
   refine JOIN.mk (fun us w'=>us=[.bool (decide (x.kind=2∨x.kind=3))]∧Ext w2 w') ?_ ?_
   · refine zaa zes ?_
     refine zac ty3 (zb8 hA6) (Ext.refl _) fun hI=>?_
     refine zai ?_
     refine br (fun h2=>?_) (fun h2=>?_)
     · exact ⟨by rw [decide_eq_true (.inl h2)],Ext.refl _⟩
     refine zaa zes ?_
     refine zac ty3 (zb8 hA6) (Ext.refl _) fun hI=>?_
     refine zai ?_
     exact ⟨by simp [h2],Ext.refl _⟩
   rintro u6 w3 ⟨hu,hx3⟩
   simp only [List.map_cons,List.map_nil,List.cons.injEq,and_true] at hu
   rw [hu]
   refine zco hV6 hx3 ?_
   refine (zqG h17 ((e.trans hx1).trans (hx2.trans hx3)) (hxs.one hp)).mono ?_
   rintro _ w4 ⟨hx4,rfl⟩
   have hx24:=hx3.trans hx4
   refine zaJ ?_
   refine zbw (fun hc=>by simp at hc) (fun _=>?_)
   refine gbr (fun hm=>?_) (fun hm=>?_)
   · have hn0:0<n:=by
       rcases Nat.eq_zero_or_pos n with h0 | h0
       · subst h0
         rcases hxs.zero with q | q | q | q<;>(have:=q.1;omega)
       exact h0
     have hkid:(∀ y∈x.body,StR pr (n-1) y)∧∀ y∈x.els,StR pr (n-1) y:=by
       obtain ⟨q,rfl⟩:∃ q,n=q+1:=⟨n-1,by omega⟩
       rcases hxs.succ with h | ⟨_,_,_,h4,h5⟩
       · exfalso
         rcases h with q | q | q | q<;>(have:=q.1;omega)
       exact ⟨h4,h5⟩
     refine zai ?_
     refine br (fun hc=>by omega) (fun _=>?_)
     refine gbr (fun _=>?_) (fun hc=>absurd hm hc)
     refine zaa zdB ?_
     refine zab zcY (zcy hA6) hx24 fun v40 h40=>?_
     refine zbp (by unfold I64;omega) ?_
     refine (ih (n-1) _ (by omega) h40 hx24 hkid.1 (by omega) (by omega)).mono ?_
     rintro _ w5 ⟨hx5,rfl⟩
     refine zaJ ?_
     refine ztj (fun hc=>by simp at hc) (fun _=>?_)
     refine zaa zcZ ?_
     refine zab zcY (zb9 hA6) (hx24.trans hx5) fun v47 h47=>?_
     refine zbp (by unfold I64;omega) ?_
     refine (ih (n-1) _ (by omega) h47 (hx24.trans hx5) hkid.2 (by omega) (by omega)).mono ?_
     rintro _ w6 ⟨hx6,rfl⟩
     refine zaJ ?_
     refine zbw (fun hc=>by simp at hc) (fun _=>?_)
     refine zaf (by omega) ?_
     exact ⟨m-1,by omega,k+1,by omega,rfl,hx1.trans (hx2.trans (hx24.trans (hx5.trans hx6))),by omega⟩
   refine gbr (fun hc=>absurd hc hm) (fun _=>?_)
   refine zaf (by omega) ?_
   exact ⟨m-1,by omega,k+1,by omega,rfl,hx1.trans (hx2.trans hx24),by omega⟩
 exact ⟨hx1,rfl⟩
theorem zi9 {pr:List ByteArray} (hp:∀ x∈pr,za8 x=true):∀ (n:Nat) (l:List DStmt),zqH pr n l
 | 0,l=>zgR (n:=0) (l:=l) hp (fun m l h=>absurd h (by omega))
 | n + 1, l => zgR (n := n + 1) (l := l) hp fun m l h => by
     obtain rfl:m=n:=by omega
     exact zi9 hp m l
theorem zse {pr:List ByteArray} {w W:World} {v:Value} {l:List DStmt} (hp:∀ x∈pr,za8 x=true) (h:Is W v l) (e:Ext W w) (hb:zqt pr l):CALL Tryz.prog 274 [v] w fun r w'=>Ext w w'∧r=.bool true:=by
 refine F274_call ?_
 unfold F274
 refine (zi8 l h e (by omega) (by omega)).mono ?_
 rintro _ w1 ⟨hx1,rfl⟩
 refine zck ?_
 have hc:=(zhr l 60).1 (by have:=hb.2;omega)
 refine br (fun _=>?_) (fun hn=>by have:=hb.2;omega)
 refine (zi9 hp 2 l h (e.trans hx1) hb.1 (by omega) (by omega)).mono ?_
 rintro _ w2 ⟨hx2,rfl⟩
 exact ⟨hx1.trans hx2,rfl⟩
theorem zja {w W:World} {v:Value} {p:DProg} (h:Is W v p) (e:Ext W w) (hn:p.procs.length≤1000):CALL Tryz.prog 223 [v] w fun r w'=>Ext w w'∧Own w.heap.size w' r (p.procs.map DProc.name):=by
 refine F223_call ?_
 unfold F223
 refine zaV h e fun w1 hx1 hA=>?_
 have hs1:=hx1.size
 refine zaP (α:=ByteArray) u24 ty9 fun v5 w2 hx2 r5=>?_
 have hs2:=hx2.size
 refine zas p.procs.length (fun k us w'=>∃ v hi,us=[v,.int .i64 (k:Int)]∧k≤p.procs.length∧Ext w1 w'∧RowI w2.heap.size hi 9 w' v ((p.procs.take k).map DProc.name)∧hi≤w'.heap.size∧w2.heap.size≤hi) 0 (Nat.zero_le _)
   ⟨.slice (some v5) 0 0,w2.heap.size,rfl,Nat.zero_le _,hx2,r5,Nat.le_refl _,Nat.le_refl _⟩ ?_
 rintro k m u w3 hkm ⟨v3,hi,hu,hkl,hx3,r3,hhi,hlo⟩
 obtain ⟨hu0,hu1⟩:=zcC hu
 rw [hu0,hu1]
 refine zaa zcK ?_
 refine zab zgh (zbB hA) hx3 fun v8 h8=>?_
 refine zag znZ h8 ?_
 refine zah ?_
 refine br (fun hlt=>?_) (fun hge=>?_)
 · have hk:k<p.procs.length:=by omega
   refine zaa zcK ?_
   refine zab zgh (zbB hA) hx3 fun v15 h15=>?_
   refine zad znZ zlT h15 hk fun b17 o17 hA17=>?_
   refine zaa zkD ?_
   refine zav ty9 (zfQ hA17) hx3 fun hS=>?_
   have hs3:=hx3.size
   refine zbV (α:=ByteArray) (lo2:=w3.heap.size) (hi2:=w3.heap.size) u24 ty9 z9 zc9 (by decide) r3 (by omega) (zrW hS) (by omega) (by omega) (by rw [zap,List.length_map,List.length_take];omega) (by rw [List.length_map,List.length_take];omega) fun v21 w4 hc4 r4=>?_
   have hs4:=hc4.size
   refine zaf (by omega) ?_
   refine ⟨m-1,by omega,k+1,by omega,v21,w4.heap.size,rfl,by omega,Ext.chgI hx3 hc4 (by omega),?_,Nat.le_refl _,by omega⟩
   rw [List.take_succ_eq_append_getElem hk,List.map_append]
   exact r4
 refine ⟨hx1.trans hx3,?_⟩
 rw [List.take_of_length_le (by omega)] at r3
 exact r3.own.own.mono (by omega)
theorem zgS {w W:World} {vo vk:Value} {l:List ByteArray} {s:ByteArray} (h:Is W vk l) (e:Ext W w) (hm:s∈l):CALL Tryz.prog 317 [vo,vk,.string s] w fun r w'=>Ext w w'∧r=vo:=by
 refine F317_call ?_
 unfold F317
 refine (ziR h e).mono ?_
 rintro _ w1 ⟨hx1,rfl⟩
 exact br (fun _=>⟨hx1,rfl⟩) (fun hn=>absurd hm hn)
def zui (p:DProg) (pr:List ByteArray) (n:Nat) (l:List DStmt):Prop:=∀ {w W W':World} {v vp vo:Value},Is W vp p→Ext W w→Is W' v l→Ext W' w→(∀ x∈l,StR pr n x) →
 CALL Tryz.prog 275 [vp,v,vo] w fun r w'=>Ext w w'∧r=vo
theorem zfE {p:DProg} {pr:List ByteArray} {n:Nat} {l:List DStmt} (hg:p.globals=glb) (hl:p.locks=lks) (hpp:∀ x∈pr,x∈p.procs.map DProc.name) (hpn:p.procs.length≤1000) (ih:∀ m l,m+1=n→zui p pr m l):zui p pr n l:=by
 intro w W W' v vp vo hP eP h e hs
 have hln:=zan h
 refine F275_call ?_
 unfold F275
 refine zaV hP eP fun w0 hx0 hAp=>?_
 refine zas l.length (fun k us w'=>us=[vo,.int .i64 (k:Int)]∧Ext w0 w'∧k≤l.length) 0 (Nat.zero_le _) ⟨rfl,Ext.refl _,Nat.zero_le _⟩ ?_
 rintro k m u w1 hkm ⟨hu,hx1,hkl⟩
 obtain ⟨hu0,hu1⟩:=zcC hu;clear hu
 rw [hu0,hu1]
 refine zag zeE h ?_
 refine zah ?_
 refine br (fun hlt=>?_) (fun hge=>⟨hx0.trans hx1,rfl⟩)
 have hk:k<l.length:=by omega
 obtain ⟨x,hx⟩:∃ x,x=l[k]:=⟨_,rfl⟩
 have hxs:StR pr n x:=by rw [hx];exact hs _ (List.getElem_mem hk)
 have hst:(x.kind=1→x.name∈glb)∧(x.kind=6∨x.kind=7→x.name∈lks)∧(x.kind=4∨x.kind=5→x.name∈pr)∧(x.kind=1∨x.kind=2∨x.kind=3→TmR x.term):=by
   have h0:St0 pr x→(x.kind=1→x.name∈glb)∧(x.kind=6∨x.kind=7→x.name∈lks)∧(x.kind=4∨x.kind=5→x.name∈pr)∧(x.kind=1∨x.kind=2∨x.kind=3→TmR x.term):=fun q=>by
     rcases q with q | q | q | q
     · exact ⟨fun _=>q.2.1,fun _=>by have:=q.1;omega,fun _=>by have:=q.1;omega,fun _=>q.2.2.1⟩
     · exact ⟨fun _=>by have:=q.1;omega,fun _=>by have:=q.1;omega,fun _=>q.2.1,fun _=>by have:=q.1;omega⟩
     · exact ⟨fun _=>by have:=q.1;omega,fun _=>q.2.1,fun _=>by have:=q.1;omega,fun _=>by have:=q.1;omega⟩
     exact ⟨fun _=>by have:=q.1;omega,fun _=>by have:=q.1;omega,fun _=>by have:=q.1;omega,fun _=>by have:=q.1;omega⟩
   cases n with
   | zero=>exact h0 hxs.zero
   | succ n=>
     rcases hxs.succ with q | ⟨h1,h2,h3,_,_⟩
     · exact h0 q
     exact ⟨fun _=>by omega,fun _=>by omega,fun _=>by omega,fun _=>h3⟩
 obtain ⟨hs1,hs2,hs3,hs4⟩:=hst
 refine zad zeE zbC h hk fun b19 o19 hA19=>?_
 rw [←hx] at hA19
 have eW':=e.trans (hx0.trans hx1)
 refine zab zbC hA19 eW' fun v20 h20=>?_
 refine zce zqe rfl zbC rfl h20 eW' fun w2 hx2 hA8 hV8=>?_
 have hx02:=hx1.trans hx2
 refine JOIN.mk (fun us w'=>us=[vo]∧Ext w2 w') ?_ ?_
 · refine zaa zes ?_
   refine zac ty3 (zb8 hA8) (Ext.refl _) fun hI=>?_
   refine zai ?_
   refine br (fun h1=>?_) (fun h1=>?_)
   · refine zaa zhj ?_
     refine zab zcj (zeB hAp) hx02 fun v27 h27=>?_
     refine zaa zcq ?_
     refine zav ty9 (zbd hA8) (Ext.refl _) fun hS=>?_
     refine (zgS h27 hx02 (by rw [hg];exact hs1 h1)).mono ?_
     rintro _ w3 ⟨hx3,rfl⟩
     exact ⟨rfl,hx3⟩
   refine zai ?_
   refine zog (Q:=x.kind=6∨x.kind=7) .inl (fun hQ=>?_) (fun key h6=>?_)
   · refine zaa ziI ?_
     refine zab zcj (zfR hAp) hx02 fun v27 h27=>?_
     refine zaa zcq ?_
     refine zav ty9 (zbd hA8) (Ext.refl _) fun hS=>?_
     refine (zgS h27 hx02 (by rw [hl];exact hs2 hQ)).mono ?_
     rintro _ w3 ⟨hx3,rfl⟩
     exact ⟨rfl,hx3⟩
   refine zai ?_
   refine br (fun h7=>key (.inr h7)) (fun h7=>?_)
   refine zai ?_
   refine zog (Q:=x.kind=4∨x.kind=5) .inl (fun hQ=>?_) (fun key2 h4=>?_)
   · have hx3:=zaj w2
     refine zab zfx hAp (hx02.trans hx3) fun v44 h44=>?_
     refine zaa zcq ?_
     refine zav ty9 (zbd hA8) hx3 fun hS=>?_
     refine (zja h44 (hx02.trans hx3) hpn).mono ?_
     rintro v45 w4 ⟨hx4,o45⟩
     refine ⟨hx4,?_⟩
     refine (zgS o45.is (Ext.refl _) (hpp _ (hs3 hQ))).mono ?_
     rintro _ w5 ⟨hx5,rfl⟩
     exact ⟨rfl,hx3.trans (hx4.trans hx5)⟩
   refine zai ?_
   exact br (fun h5=>key2 (.inr h5)) fun h5=>⟨rfl,Ext.refl _⟩
 rintro u14 w6 ⟨hu,hx6⟩
 simp only [List.map_cons,List.map_nil,List.cons.injEq,and_true] at hu
 rw [hu]
 refine JOIN.mk (fun us w'=>us=[vo]∧Ext w6 w') ?_ ?_
 · refine zaa zes ?_
   refine zac ty3 (zb8 hA8) hx6 fun hI=>?_
   refine zai ?_
   refine zog (Q:=x.kind=1∨x.kind=2∨x.kind=3) .inl (fun hQ=>?_) (fun key h1=>?_)
   · have hT:=hs4 hQ
     refine zaa zfz ?_
     refine zab zc5 (zcM hA8) hx6 fun v63 h63=>?_
     refine (zdj h63 hx6).mono ?_
     rintro v64 w7 ⟨hx7,h64⟩
     have hrl:=zm5 x.term
     refine zas (zbk x.term).length (fun q us w'=>us=[vo,.int .i64 (q:Int)]∧Ext w7 w'∧q≤(zbk x.term).length) 0 (Nat.zero_le _) ⟨rfl,Ext.refl _,Nat.zero_le _⟩ ?_
     rintro q mq uq w8 hqm ⟨hu,hx8,hql⟩
     obtain ⟨hu0,hu1⟩:=zcC hu;clear hu
     rw [hu0,hu1]
     refine zag u24 h64 ?_
     refine zah ?_
     refine br (fun hlt=>?_) (fun hge=>⟨rfl,hx7.trans hx8⟩)
     have hq:q<(zbk x.term).length:=by omega
     have hx9:=zaj w8
     have hx89:=hx8.trans hx9
     have hx09:=hx02.trans (hx6.trans (hx7.trans hx89))
     refine zaa zhj ?_
     refine zab zcj (zeB hAp) hx09 fun v73 h73=>?_
     refine zad u24 ty9 h64 hq fun b76 o76 hA76=>?_
     refine zav ty9 hA76 hx89 fun hS=>?_
     refine (zgS h73 hx09 (by rw [hg];exact hT.2.1 _ (List.getElem_mem hq))).mono ?_
     rintro _ w10 ⟨hx10,rfl⟩
     refine zaf (by omega) ?_
     exact ⟨mq-1,by omega,q+1,by omega,rfl,hx89.trans hx10,by omega⟩
   refine zaa zes ?_
   refine zac ty3 (zb8 hA8) hx6 fun hI=>?_
   refine zai ?_
   refine br (fun h2=>key (.inr (.inl h2))) (fun h2=>?_)
   refine zaa zes ?_
   refine zac ty3 (zb8 hA8) hx6 fun hI=>?_
   refine zai ?_
   exact br (fun h3=>key (.inr (.inr h3))) (fun h3=>⟨rfl,Ext.refl _⟩)
 rintro u20 w11 ⟨hu,hx11⟩
 simp only [List.map_cons,List.map_nil,List.cons.injEq,and_true] at hu
 rw [hu]
 have hx211:=hx6.trans hx11
 have hx011:=hx02.trans hx211
 have hkid:∃ q,(∀ y∈x.body,StR pr q y)∧(∀ y∈x.els,StR pr q y)∧(q+1=n∨(x.body=[]∧x.els=[])):=by
   have h0:St0 pr x→x.body=[]∧x.els=[]:=fun h=>by rcases h with q | q | q | q<;>exact ⟨q.2.2.2.1,q.2.2.2.2⟩
   cases n with
   | zero=>
     obtain ⟨h1,h2⟩:=h0 hxs.zero
     exact ⟨0,by rw [h1];simp,by rw [h2];simp,.inr ⟨h1,h2⟩⟩
   | succ n=>
     rcases hxs.succ with q | ⟨_,_,_,h4,h5⟩
     · obtain ⟨h1,h2⟩:=h0 q
       exact ⟨0,by rw [h1];simp,by rw [h2];simp,.inr ⟨h1,h2⟩⟩
     exact ⟨n,h4,h5,.inl rfl⟩
 obtain ⟨q,hb,he,hq⟩:=hkid
 have hnil:zui p pr q []:=by
   intro w W W' v vp vo hP eP h e hs
   refine F275_call ?_
   unfold F275
   refine zaV hP eP fun w0 hx0 hAp=>?_
   refine zas 0 (fun k us w'=>us=[vo,.int .i64 (k:Int)]∧Ext w0 w') 0 (Nat.zero_le _) ⟨rfl,Ext.refl _⟩ ?_
   rintro k m u w1 hkm ⟨hu,hx1⟩
   obtain ⟨hu0,hu1⟩:=zcC hu
   rw [hu0,hu1]
   refine zag zeE h ?_
   refine zah ?_
   exact br (fun hlt=>by simp at hlt;omega) (fun hge=>⟨hx0.trans hx1,rfl⟩)
 have ihb:zui p pr q x.body:=by
   rcases hq with hq | ⟨h1,_⟩
   · exact ih q _ hq
   rw [h1];exact hnil
 have ihe:zui p pr q x.els:=by
   rcases hq with hq | ⟨_,h1⟩
   · exact ih q _ hq
   rw [h1];exact hnil
 refine zab zfx hAp hx011 fun v79 h79=>?_
 refine zaa zdB ?_
 refine zab zcY (zcy hA8) hx211 fun v81 h81=>?_
 refine (ihb h79 hx011 h81 hx211 hb).mono ?_
 rintro _ w12 ⟨hx12,rfl⟩
 refine zab zfx hAp (hx011.trans hx12) fun v84 h84=>?_
 refine zaa zcZ ?_
 refine zab zcY (zb9 hA8) (hx211.trans hx12) fun v86 h86=>?_
 refine (ihe h84 (hx011.trans hx12) h86 (hx211.trans hx12) he).mono ?_
 rintro _ w13 ⟨hx13,rfl⟩
 refine zaf (by omega) ?_
 exact ⟨m-1,by omega,k+1,by omega,rfl,hx011.trans (hx12.trans hx13),by omega⟩
theorem zgT {p:DProg} {pr:List ByteArray} (hg:p.globals=glb) (hl:p.locks=lks) (hpp:∀ x∈pr,x∈p.procs.map DProc.name) (hpn:p.procs.length≤1000):∀ (n:Nat) (l:List DStmt),zui p pr n l
 | 0,l=>zfE (n:=0) (l:=l) hg hl hpp hpn (fun m l h=>absurd h (by omega))
 | n + 1, l => zfE (n := n + 1) (l := l) hg hl hpp hpn fun m l h => by
     obtain rfl:m=n:=by omega
     exact zgT hg hl hpp hpn m l
theorem ProgR.facts {p:DProg} (hp:ProgR p):p.procs.length≤4∧(∀ x∈p.procs.map DProc.name,za8 x=true)∧(p.procs.map DProc.name).Nodup∧zgo∈p.procs.map DProc.name:=by
 obtain ⟨k,hk,hn⟩:=hp.n
 obtain ⟨n1,n2,n3,n4⟩:=zma k hk
 rw [←hn] at n1 n2 n3 n4
 rw [List.length_map] at n1
 exact ⟨n1,fun x hx=>List.all_eq_true.1 n2 x hx,n3,n4⟩
theorem zmc {w W:World} {v:Value} {p:DProg} (h:Is W v p) (e:Ext W w) (hp:ProgR p):CALL Tryz.prog 222 [v] w fun r w'=>Ext w w'∧r=.bool true:=by
 obtain ⟨f1,f2,f3,f4⟩:=hp.facts
 refine F222_call ?_
 unfold F222
 refine zaV h e fun w1 hx1 hA=>?_
 refine zaa zhj ?_
 refine zab zcj (zeB hA) (Ext.refl _) fun v5 h5=>?_
 refine (zd1 h5 (Ext.refl _)).mono ?_
 rintro _ w2 ⟨hx2,rfl⟩
 refine zaJ ?_
 refine zbw (fun hc=>by rw [hp.g] at hc;exact absurd hc (by decide)) (fun _=>?_)
 refine zaa ziI ?_
 refine zab zcj (zfR hA) hx2 fun v10 h10=>?_
 refine (zd1 h10 hx2).mono ?_
 rintro _ w3 ⟨hx3,rfl⟩
 refine zaJ ?_
 refine zbw (fun hc=>by rw [hp.l] at hc;exact absurd hc (by decide)) (fun _=>?_)
 have hx13:=hx2.trans hx3
 refine zaa zcK ?_
 refine zab zgh (zbB hA) hx13 fun v16 h16=>?_
 refine zag znZ h16 ?_
 refine zc8 ?_
 refine br (fun hc=>by omega) (fun _=>?_)
 refine zas p.procs.length (fun k us w'=>us=[.int .i64 (k:Int)]∧Ext w1 w'∧k≤p.procs.length) 0 (Nat.zero_le _) ⟨rfl,hx13,Nat.zero_le _⟩ ?_
 rintro k m u w4 hkm ⟨hu,hx4,hkl⟩
 simp only [List.map_cons,List.map_nil,List.cons.injEq,and_true] at hu
 rw [hu]
 refine zaa zcK ?_
 refine zab zgh (zbB hA) hx4 fun v22 h22=>?_
 refine zag znZ h22 ?_
 refine zah ?_
 refine br (fun hlt=>?_) (fun hge=>⟨hx1.trans hx4,rfl⟩)
 have hk:k<p.procs.length:=by omega
 have hkm':p.procs[k]∈p.procs:=List.getElem_mem hk
 refine zaa zcK ?_
 refine zab zgh (zbB hA) hx4 fun v28 h28=>?_
 refine zad znZ zlT h28 hk fun b30 o30 hA30=>?_
 refine zaa zkD ?_
 refine zav ty9 (zfQ hA30) hx4 fun hS=>?_
 refine (zbJ (w:=w4)).mono ?_
 rintro _ w5 ⟨hx5,rfl⟩
 refine zaJ ?_
 refine zbw (fun hc=>by rw [f2 _ (List.mem_map.2 ⟨_,hkm',rfl⟩)] at hc;cases hc) (fun _=>?_)
 refine zaa zcK ?_
 refine zab zgh (zbB hA) (hx4.trans hx5) fun v37 h37=>?_
 refine zad znZ zlT h37 hk fun b39 o39 hA39=>?_
 refine zaa zm0 ?_
 refine zab zcY (zhi hA39) (hx4.trans hx5) fun v41 h41=>?_
 refine (zse (fun x hx=>f2 x (List.mem_of_mem_drop hx)) h41 (hx4.trans hx5) (hp.b _ hkm')).mono ?_
 rintro _ w6 ⟨hx6,rfl⟩
 refine zaJ ?_
 refine zbw (fun hc=>by cases hc) (fun _=>?_)
 refine zaf (by omega) ?_
 exact ⟨m-1,by omega,k+1,by omega,rfl,hx4.trans (hx5.trans hx6),by omega⟩
theorem zmd {w W:World} {v:Value} {p:DProg} (h:Is W v p) (e:Ext W w) (hp:ProgR p):CALL Tryz.prog 224 [v] w fun r w'=>Ext w w'∧Is w' r ([]:List ByteArray):=by
 obtain ⟨f1,f2,f3,f4⟩:=hp.facts
 refine F224_call ?_
 unfold F224
 refine zaV h e fun w1 hx1 hA=>?_
 refine zaP (α:=ByteArray) u24 ty9 fun v5 w2 hx2 r5=>?_
 refine zas p.procs.length (fun k us w'=>us=[.slice (some v5) 0 0,.int .i64 (k:Int)]∧Ext w2 w'∧k≤p.procs.length) 0 (Nat.zero_le _) ⟨rfl,Ext.refl _,Nat.zero_le _⟩ ?_
 rintro k m u w3 hkm ⟨hu,hx3,hkl⟩
 obtain ⟨hu0,hu1⟩:=zcC hu
 rw [hu0,hu1]
 have hx13:=hx2.trans hx3
 refine zab zfx hA hx13 fun v6 h6=>?_
 refine (zmc h6 hx13 hp).mono ?_
 rintro _ w4 ⟨hx4,rfl⟩
 have hx14:=hx13.trans hx4
 refine zbw (fun _=>?_) (fun hc=>by cases hc)
 refine zaa zcK ?_
 refine zab zgh (zbB hA) hx14 fun v11 h11=>?_
 refine zag znZ h11 ?_
 refine zah ?_
 refine br (fun hlt=>?_) (fun hge=>⟨hx1.trans hx14,r5.is.ext (hx3.trans hx4)⟩)
 have hk:k<p.procs.length:=by omega
 have hkm':p.procs[k]∈p.procs:=List.getElem_mem hk
 have hx5:=zaj w4
 have hx15:=hx14.trans hx5
 refine zab zfx hA hx15 fun v17 h17=>?_
 refine zaa zcK ?_
 refine zab zgh (zbB hA) hx15 fun v19 h19=>?_
 refine zad znZ zlT h19 hk fun b21 o21 hA21=>?_
 refine zaa zm0 ?_
 refine zab zcY (zhi hA21) hx15 fun v23 h23=>?_
 refine (zgT hp.g hp.l (fun x hx=>List.mem_of_mem_drop hx) (by omega) 2 _ h17 hx15 h23 hx15 (hp.b _ hkm').1).mono ?_
 rintro _ w6 ⟨hx6,rfl⟩
 refine zaf (by omega) ?_
 exact ⟨m-1,by omega,k+1,by omega,rfl,hx3.trans (hx4.trans (hx5.trans hx6)),by omega⟩
def F225 (a0 a1:Value) (w:World) (R:VW):Prop:=
 oP (Instr.box 112 a0) w fun x2 w=>
 LOOPI [5] [(iV 0)] w fun u2 w next2=>
 rF 112 x2 2 w fun x7=>
 rL 110 x7 w fun x8=>
 rN 110 3 x8 w fun x9=>
 rC (u2 5) x9 w fun x10=>
 BR x10
 (rF 112 x2 2 w fun x13=>
 rL 110 x13 w fun x14=>
 rX 110 x14 (u2 5) w fun x16=>
 rF 164 x16 0 w fun x17=>
 rL 9 x17 w fun x18=>
 rB .eql 9 T0 T0 x18 a1 w fun x20=>
 BR x20
 (R (u2 5) w)
 (rA (u2 5) (iV 1) w fun x12=>
 next2 [x12] w))
 (R (iV (-1)) w)
def cfg225:Cfg:=⟨extL,[],[(2,4194288,[5])],[],[],[],[]⟩
theorem F225_call {a0 a1:Value} {w:World} {R:VW} (h:F225 a0 a1 w R):cL 225 [a0,a1] w R:=co (g:=cfg225) Tryz.func225 (by kernel_rfl) (by kernel_rfl) (by kernel_rfl) h
theorem zjb {w:World} {v0:Value} {W0:World} {p:DProg} {s:ByteArray}  (h0:Is W0 v0 p) (e0:Ext W0 w)  :
   CALL Tryz.prog 225 [v0,.string s] w fun r w'=>Ext w w'∧(r=.int .i64 (plc s (p.procs.map DProc.name))):=by
 refine F225_call ?_
 unfold F225
 refine zaW zfx rfl h0 e0 fun w1_ hx1_ hA2 hV2=>?_
 refine zas (p.procs.length) (fun k us w'=>us=[.int .i64 (k:Int)]∧Ext w1_ w'∧(s∉(p.procs.map DProc.name).take k)) (0) (by omega) ⟨by simp,Ext.refl w1_,by simp⟩ ?_
 rintro k m2 uu2 w2_ hk2 ⟨hu,hx2_,hinv⟩
 simp only [List.map_cons,List.map_nil,List.cons.injEq,and_true] at hu
 try rw [hu]
 try clear hu
 refine zaa zcK ?_
 refine zab zgh (zbB hA2) hx2_ fun v8 h8=>?_
 have hln9:=zan h8
 refine zag znZ h8 ?_
 refine zah ?_
 refine br (fun c1=>?_) (fun c1=>?_)
 · refine zaa zcK ?_
   refine zab zgh (zbB hA2) hx2_ fun v14 h14=>?_
   refine zad znZ zlT h14 (by omega) fun b16 o16 h16=>?_
   refine zaa zkD ?_
   refine zav ty9 (zfQ h16) hx2_ fun hS18=>?_
   refine zaQ ?_
   refine br (fun c2=>?_) (fun c2=>?_)
   · refine ⟨(hx1_.trans hx2_),?_⟩
     rw [zn3 (k:=k) (by rw [List.length_map];omega) hinv (by rw [List.getElem_map];assumption)]
   refine zaf (by omega) ?_
   refine ⟨m2-1,by omega,k+1,by omega,by simp,hx2_,?_⟩
   refine zcE (by rw [List.length_map];omega) hinv ?_
   rw [List.getElem_map];assumption
 refine ⟨(hx1_.trans hx2_),?_⟩
 rw [zkM (by rw [List.take_of_length_le (by rw [List.length_map];omega)] at hinv;exact hinv)]
theorem zme {w W:World} {v:Value} {p:DProg} (h:Is W v p) (e:Ext W w) (hp:ProgR p):CALL Tryz.prog 158 [v] w fun r w'=>Ext w w'∧r=.int .i64 0:=by
 obtain ⟨f1,f2,f3,f4⟩:=hp.facts
 refine F158_call ?_
 unfold F158
 refine zaV h e fun w1 hx1 hA=>?_
 refine zab zfx hA (Ext.refl _) fun v4 h4=>?_
 refine (zmc h4 (Ext.refl _) hp).mono ?_
 rintro _ w2 ⟨hx2,rfl⟩
 refine zaJ ?_
 refine zbw (fun hc=>by cases hc) (fun _=>?_)
 refine zaa zhj ?_
 refine zab zcj (zeB hA) hx2 fun v9 h9=>?_
 refine (zdd h9 hx2).mono ?_
 rintro _ w3 ⟨hx3,rfl⟩
 have hx13:=hx2.trans hx3
 refine br (fun hc=>by rw [hp.g] at hc;exact absurd (by decide) hc) (fun _=>?_)
 refine zaa ziI ?_
 refine zab zcj (zfR hA) hx13 fun v13 h13=>?_
 refine (zdd h13 hx13).mono ?_
 rintro _ w4 ⟨hx4,rfl⟩
 have hx14:=hx13.trans hx4
 refine br (fun hc=>by rw [hp.l] at hc;exact absurd (by decide) hc) (fun _=>?_)
 refine zab zfx hA hx14 fun v17 h17=>?_
 refine (zja h17 hx14 (by omega)).mono ?_
 rintro v18 w5 ⟨hx5,o18⟩
 refine (zdd o18.is (Ext.refl _)).mono ?_
 rintro _ w6 ⟨hx6,rfl⟩
 have hx16:=hx14.trans (hx5.trans hx6)
 refine br (fun hc=>absurd f3 hc) (fun _=>?_)
 refine zab zfx hA hx16 fun v22 h22=>?_
 refine (zmd h22 hx16 hp).mono ?_
 rintro v23 w7 ⟨hx7,h23⟩
 have hx17:=hx16.trans hx7
 refine zag u24 h23 ?_
 refine zc8 ?_
 refine br (fun hc=>by simp at hc) (fun _=>?_)
 refine zab zfx hA hx17 fun v27 h27=>?_
 refine (zjb h27 hx17).mono ?_
 rintro _ w8 ⟨hx8,rfl⟩
 refine zah ?_
 have hm:=zet.2 f4
 refine br (fun hc=>by unfold zgo at hm;omega) (fun _=>?_)
 exact ⟨hx1.trans (hx17.trans hx8),rfl⟩
end Go.Proofs.YtbnjpfjjmhodnaaGreat
namespace Go.Sh
open Rep (rep)
open Go.Sort Go.Proofs
section
variable {α:Type} [Inhabited α] {enc:α→List Value} {k:Nat}
theorem zoh (hk:∀ x,(enc x).length=k):∀ (l:List α),(l.flatMap enc).length=l.length*k
 | []=>by simp
 | x :: l=>by rw [List.flatMap_cons,List.length_append,hk,zoh hk l,List.length_cons,Nat.add_mul];omega
theorem zoi (hk:∀ x,(enc x).length=k) (h0:0<k):∀ {l:List α} {t:Nat},t<l.length*k→(l.flatMap enc)[t]?=some ((enc l[t / k]!)[t%k]!)
 | [],t,h=>by simp at h
 | x :: l,t,h=>by
   rw [List.flatMap_cons]
   rcases Nat.lt_or_ge t k with ht | ht
   · rw [List.getElem?_append_left (by rw [hk];exact ht),Nat.div_eq_of_lt ht,Nat.mod_eq_of_lt ht]
     have:t<(enc x).length:=by rw [hk];exact ht
     rw [List.getElem?_eq_getElem this]
     simp [this]
   rw [List.getElem?_append_right (by rw [hk];exact ht),hk]
   have h':t-k<l.length*k:=by rw [List.length_cons,Nat.add_mul] at h;omega
   rw [zoi hk h0 h']
   have e1:t / k=(t-k) / k+1:=by
     have:t=(t-k)+k:=by omega
     conv=>lhs;rw [this]
     rw [Nat.add_div_right _ h0]
   have e2:t%k=(t-k)%k:=by
     have:t=(t-k)+k:=by omega
     conv=>lhs;rw [this]
     rw [Nat.add_mod_right]
   rw [e1,e2]
   simp
theorem zmf (hk:∀ x,(enc x).length=k) (h0:0<k) {l:List α} {t:Nat} (h:t<l.length*k):(l.flatMap enc)[t]?=some (flatK enc k l.toArray)[t]!:=by
 rw [zoi hk h0 h,get_flatK enc k l.toArray t (by simpa using h)]
 simp
end
section
variable {α:Type} [Rep α] [Flat α] [Inhabited α] {w:World} {enc:α→List Value} {b o n cap:Nat} {l:List α}
theorem zmg (henc:∀ {F w cs} {x:α},rep F w cs x→cs=enc x):∀ {l:List α} {F:List Nat} {xs:List Value},Cells F w xs l→xs=l.flatMap enc
 | [],_,_,⟨_,h⟩=>by simp [h]
 | y :: ys,_,_,⟨F1,F2,c1,c2,_,h,h1,h2⟩=>by rw [h,henc h1,zmg henc h2,List.flatMap_cons]
theorem zmh {w':World} (henc:∀ {F w cs} {x:α},rep F w cs x→cs=enc x):∀ {l:List α},(∀ x∈l,∃ F cs,rep F w cs x)→Cells [] w' (l.flatMap enc) l
 | [],_=>⟨rfl,rfl⟩
 | y :: ys,h=>by
   obtain ⟨F,cs,hr⟩:=h y (by simp)
   have hF:=Flat.flat hr
   subst hF
   have hc:=henc hr
   subst hc
   exact ⟨[],[],enc y,ys.flatMap enc,rfl,rfl,Rep.keep hr (by simp),zmh henc fun x hx=>h x (by simp [hx])⟩
theorem zmi:∀ {l:List α} {F:List Nat} {xs:List Value},Cells F w xs l→∀ x∈l,∃ F cs,rep F w cs x
 | y :: ys,_,_,⟨F1,F2,c1,c2,_,h,h1,h2⟩,x,hx=>by
   rcases List.mem_cons.1 hx with rfl | hx
   · exact ⟨_,_,h1⟩
   exact zmi h2 x hx
theorem zmj (henc:∀ {F w cs} {x:α},rep F w cs x→cs=enc x) (hk:∀ x,(enc x).length=Rep.size α) (hw:∃ c e,w.heap[b]?=some (.cells c e (0,0))) {xs:List Value} (hc:Cells [] w xs l) (hr:w.rangeAt b o xs):HoldsK enc (Rep.size α) w b o l.toArray:=by
 intro j hj
 rw [size_flatK] at hj
 have hj':j<l.length*Rep.size α:=by simpa using hj
 have:=zmg henc hc
 subst this
 have h1:=hr j _ (zmf hk Rep.pos hj')
 refine ⟨h1,?_⟩
 obtain ⟨c,e,he⟩:=hw
 simp [World.frozen?,he]
theorem zne (henc:∀ {F w cs} {x:α},rep F w cs x→cs=enc x) (hk:∀ x,(enc x).length=Rep.size α) {d':Array α} {m:Nat} {os:Array Obj} {w3:World} (hw3:w3=sortWorldK enc (Rep.size α) w b o m d' os) (hw:∃ c e,w.heap[b]?=some (.cells c e (0,0))) {xs:List Value} (hc:Cells [] w xs l) (hr:w.rangeAt b o xs)
   (h1:l.length≤cap) (h2:cap≤maxLen) (hl:d'.size=l.length) (hp:∀ x∈d'.toList,x∈l):Chg [b] w w3∧Mine [b] w3 (.slice (some ⟨b,o,none⟩) l.length cap) d'.toList:=by
 subst hw3
 have hH:=zmj henc hk hw hc hr
 obtain ⟨c,e,he⟩:=hw
 have hb:b<w.heap.size:=(Array.getElem?_eq_some_iff.1 he).1
 have hsz:(putRowK enc (Rep.size α) (Sort.ahead w m) b o d').heap.size=w.heap.size:=by simp [putRowK,putRow,mapBlock,Sort.ahead]
 have hblk:∀ i,i<w.heap.size→i≠b→(sortWorldK enc (Rep.size α) w b o m d' os).heap[i]?=w.heap[i]?:=fun i hi hne=>by
   unfold sortWorldK
   rw [heap_grow_old _ _ (by rw [hsz];exact hi)]
   simp [putRowK,putRow,mapBlock,Sort.ahead,Array.getElem?_modify,hne.symm]
 have hbb:∃ c',(sortWorldK enc (Rep.size α) w b o m d' os).heap[b]?=some (.cells c' e (0,0)):=by
   unfold sortWorldK
   rw [heap_grow_old _ _ (by rw [hsz];exact hb)]
   exact ⟨_,by simp [putRowK,putRow,mapBlock,Sort.ahead,Array.getElem?_modify,he,onCells];rfl⟩
 have hsz2:w.heap.size≤(sortWorldK enc (Rep.size α) w b o m d' os).heap.size:=by
   unfold sortWorldK grow
   rw [Array.size_append,hsz];omega
 refine ⟨⟨rfl,rfl,rfl,hsz2,fun i hi hm=>hblk i hi fun e=>hm (by simp [e])⟩,⟨⟨_,⟨some ⟨b,o,none⟩,cap,[],d'.toList.flatMap enc,rfl,by simpa [hl] using h1,h2,?_,.inr ⟨b,o,rfl,rfl,?_,by omega⟩⟩,by simp [mkv,Rep.agg,hl]⟩,by simp,fun i hi=>?_⟩⟩
 · exact zmh (w:=w) henc fun x hx=>zmi hc x (hp x hx)
 · intro j v hv
   have hj:j<d'.toList.length*Rep.size α:=by
     have:=(List.getElem?_eq_some_iff.1 hv).1
     rwa [zoh hk] at this
   rw [zmf hk Rep.pos hj,Option.some.injEq] at hv
   have hj2:j<(flatK enc (Rep.size α) d').size:=by rw [size_flatK];simpa using hj
   have:=cell?_putRow id (Sort.ahead w m) b o (flatK enc (Rep.size α) l.toArray) (flatK enc (Rep.size α) d') hH (by simp [hl]) j hj2
   unfold sortWorldK
   rw [cell?_grow _ _ _ (by rw [hsz];exact hb)]
   show (putRow id (Sort.ahead w m) b o (flatK enc (Rep.size α) d')).cell? _=_
   rw [this,←hv]
   simp
 simp only [List.mem_cons,List.not_mem_nil,or_false] at hi
 subst hi
 obtain ⟨c',hc'⟩:=hbb
 exact ⟨c',e,hc'⟩
end
end Go.Sh
namespace Go.Sh
open Rep (rep)
section
variable {P:Program} {w:World} {α:Type} [Rep α] [Flat α] {b o n cap k:Nat} {l:List α}
theorem zeN {F:List Nat} {v:Value} (hm:Mine F w v l) (hl:l≠[]):∃ b o cap xs,v=.slice (some ⟨b,o,none⟩) l.length cap∧F=[b]∧l.length≤cap∧cap≤maxLen∧Cells [] w xs l∧w.rangeAt b o xs∧(∃ c e,w.heap[b]?=some (.cells c e (0,0))):=by
 obtain ⟨⟨cs,⟨a,cap,Fi,xs,rfl,h1,h2,hc,h4⟩,rfl⟩,hn,hw⟩:=hm
 rcases h4 with ⟨h4,_⟩ | ⟨b,o,rfl,rfl,hr,hb⟩
 · exact absurd h4 hl
 have hFi:=Cells.flat (xs:=xs) hc
 subst hFi
 exact ⟨b,o,cap,xs,rfl,rfl,h1,h2,hc,hr,hw b (by simp)⟩
theorem zfa {xs:List Value} (h1:l.length≤cap) (h2:cap≤maxLen) (hc:Cells [] w xs l) (hr:w.rangeAt b o xs) (hw:∃ c e,w.heap[b]?=some (.cells c e (0,0))):Mine [b] w (.slice (some ⟨b,o,none⟩) l.length cap) l:=
 ⟨⟨_,⟨some ⟨b,o,none⟩,cap,[],xs,rfl,h1,h2,hc,.inr ⟨b,o,rfl,rfl,hr,by obtain ⟨c,e,h⟩:=hw;exact (Array.getElem?_eq_some_iff.1 h).1⟩⟩,rfl⟩,by simp,fun i hi=>by simp at hi;subst hi;exact hw⟩
theorem ztI {t e:TypeId} {by_:Nat} {K:Value→Prop} (ht:P.underlying t=some (.slice e)) (he:tyI P e=some (Rep.size α,by_,Rep.agg α)) (hk:k≤n) (hn:n≤cap) (kk:K (.slice (some ⟨b,o,none⟩) k cap)) :
   RD P (Instr.sliceAt t (.slice (some ⟨b,o,none⟩) n cap) none (some (.int .i64 (k:Int))) none) w K:=by
 refine za3 (fun w' _=>?_) kk
 have hbd:(Instr.sliceBounds true n cap none (some (.int .i64 (k:Int))) none).run P w'=.ok (0,k,cap) w':=by
   have h5:(k:Int)≤(cap:Int):=by omega
   simp [Instr.sliceBounds,Instr.sliceBound,asIntOf,h5]
   intro h6
   omega
 simp only [Instr.sliceAt,Instr.slice,Sem.run_bind,run_underlying ht,Result.andThen_ok,hbd,zaE he]
 simp [Addr.add_mid]
theorem zoj {t e:TypeId} {by_:Nat} {K:Value→Prop} (ht:P.underlying t=some (.slice e)) (he:tyI P e=some (Rep.size α,by_,Rep.agg α)) (hk:k≤n) (hn:n≤cap) (kk:K (.slice (if cap=k then some ⟨b,o,none⟩ else some ⟨b,o+k*Rep.size α,none⟩) (n-k) (cap-k))) :
   RD P (Instr.sliceAt t (.slice (some ⟨b,o,none⟩) n cap) (some (.int .i64 (k:Int))) none none) w K:=by
 refine za3 (fun w' _=>?_) kk
 have hb:(Instr.sliceBounds true n cap (some (.int .i64 (k:Int))) none none).run P w'=.ok (k,n,cap) w':=by
   have:(k:Int)≤(n:Int):=by omega
   simp [Instr.sliceBounds,Instr.sliceBound,asIntOf,this]
   try (intro h;omega)
 simp [Instr.sliceAt,Instr.slice,run_underlying ht,hb,zaE he,Addr.add_mid]
theorem zok {t e:TypeId} {by_ j:Nat} {K:Value→Prop} (ht:P.underlying t=some (.slice e)) (he:tyI P e=some (Rep.size α,by_,Rep.agg α)) (hk:k≤j) (hn:j≤cap) {a:Option Addr} (kk:∀ a',(k≠0→a'=a)→K (.slice a' k j)) :
   RD P (Instr.sliceAt t (.slice a n cap) none (some (.int .i64 (k:Int))) (some (.int .i64 (j:Int)))) w K:=by
 have hb:∀ w',(Instr.sliceBounds true n cap none (some (.int .i64 (k:Int))) (some (.int .i64 (j:Int)))).run P w'=.ok (0,k,j) w':=fun w'=>by
   have h1:(j:Int)≤(cap:Int):=by omega
   have h2:(k:Int)≤(j:Int):=by omega
   simp [Instr.sliceBounds,Instr.sliceBound,asIntOf,h1,h2]
   try (intro h;omega)
 have:∃ a',(∀ w',(Instr.sliceAt t (.slice a n cap) none (some (.int .i64 (k:Int))) (some (.int .i64 (j:Int)))).run P w'=.ok (.slice a' k j) w')∧(k≠0→a'=a):=by
   cases a with
   | none=>exact ⟨none,fun w'=>by simp [Instr.sliceAt,Instr.slice,run_underlying ht,hb,zaE he],fun _=>rfl⟩
   | some a=>exact ⟨some a,fun w'=>by simp [Instr.sliceAt,Instr.slice,run_underlying ht,hb,zaE he,Addr.add],fun _=>rfl⟩
 obtain ⟨a',h1,h2⟩:=this
 exact za3 (fun w' _=>h1 w') (kk a' h2)
theorem zqI [RepZ α] {t e ty:TypeId} {K:Value→World→Prop} (ht:P.underlying t=some (.slice e)) (hz:zcJ P e=some (RepZ.zc α)) (hm:Mine [b] w (.slice (some ⟨b,o,none⟩) n cap) l) (hl:l.length=n) (hk:k≤n) (hk0:0<k) (hn:n≤cap)
   (kk:∀ w',Chg [b] w w'→Mine [b] w' (.slice (some ⟨b,o,none⟩) k cap) (l.take k)→K (.tuple #[]) w') :
   OP P (Builtin.clear_ #[t] ty [Value.slice (if cap=k then some ⟨b,o,none⟩ else some ⟨b,o+k*Rep.size α,none⟩) (n-k) (cap-k)].toArray) w K:=by
 have hne:l≠[]:=fun e=>by rw [e] at hl;simp at hl;omega
 obtain ⟨b',o',cap',xs,hv,hb',h1,h2,hc,hr,hw⟩:=zeN hm hne
 simp only [Value.slice.injEq,Option.some.injEq,Addr.mk.injEq] at hv
 obtain ⟨⟨rfl,rfl,_⟩,hnl,rfl⟩:=hv
 have htk:(l.take k).length=k:=by simp;omega
 have e0:l=l.take k++l.drop k:=by simp
 have hc':=hc
 rw [e0] at hc'
 obtain ⟨F1,F2,x1,x2,hFF,rfl,c1,c2⟩:=Cells.split hc'
 obtain ⟨rfl,rfl⟩:=List.append_eq_nil_iff.1 hFF.symm
 have hx1:x1.length=k*Rep.size α:=by rw [Cells.len c1,htk]
 have hr1:=(zaD hr).1
 by_cases hnk:n=k
 · subst hnk
   refine ⟨.tuple #[],w,?_,kk w (Chg.refl _ _) ?_⟩
   · rw [Nat.sub_self]
     by_cases hck:cap=n
     · rw [if_pos hck];simp [Builtin.clear_,run_underlying ht]
     rw [if_neg hck];simp [Builtin.clear_,run_underlying ht]
   have:=zfa (l:=l.take n) (cap:=cap) (by omega) h2 c1 hr1 hw
   rwa [htk] at this
 have hck:¬cap=k:=by omega
 rw [if_neg hck]
 obtain ⟨c,e',he⟩:=hw
 unfold zcJ at hz
 cases hi:P.info? e with
 | none=>simp [hi] at hz
 | some i=>
   simp only [hi] at hz
   obtain ⟨z,hzz,hzc⟩:=Option.map_eq_some_iff.1 hz
   have hzl:z.cells.size=Rep.size α:=by
     rw [←Array.length_toList,hzc];exact Rep.len (RepZ.zr (α:=α) w)
   have hpos:=Rep.pos (α:=α)
   obtain ⟨m,hm'⟩:∃ m,n-k=m+1:=⟨n-k-1,by omega⟩
   have hzs:(Builtin.zeroCells z.cells (n-k)).toList.length=(n-k)*Rep.size α:=by simp [Builtin.zeroCells,hzl]
   have hfit:o+(k*Rep.size α)+0+(Builtin.zeroCells z.cells (n-k)).toList.length≤c.size:=by
     rw [hzs]
     have hx:(x1++x2).length=n*Rep.size α:=by rw [Cells.len hc,hl]
     have hlast:=hr (n*Rep.size α-1) ((x1++x2)[n*Rep.size α-1]'(by rw [hx];have:=Nat.mul_pos (show 0<n by omega) hpos;omega)) (List.getElem?_eq_getElem _)
     simp only [World.cell?,he] at hlast
     have:=(Array.getElem?_eq_some_iff.1 (by simpa using hlast)).1
     have h3:(n-k)*Rep.size α+k*Rep.size α=n*Rep.size α:=by rw [←Nat.add_mul];congr 1;omega
     have h4:=Nat.mul_pos (show 0<n by omega) hpos
     omega
   have hone:∀ v∈(Builtin.zeroCells z.cells (n-k)).toList,v.oneCell'=true:=fun v hv=>by
     simp only [Builtin.zeroCells,Array.toList_map,Array.toList_range,List.mem_map,List.mem_range] at hv
     obtain ⟨i,_,rfl⟩:=hv
     have hlt:i%z.cells.size<z.cells.size:=Nat.mod_lt _ (by omega)
     have e3:z.cells[i%z.cells.size]! = z.cells[i%z.cells.size]'hlt:=by simp [hlt]
     rw [e3]
     refine Rep.one (RepZ.zr (α:=α) w) _ ?_
     rw [←hzc]
     exact Array.getElem_mem_toList hlt
   have hst:=run_storeCells_at (P:=P) b (o+k*Rep.size α) e' (Builtin.zeroCells z.cells (n-k)).toList 0 c w he hfit hone
   simp only [Nat.add_zero] at hst
   refine ⟨.tuple #[],_,?_,kk _ (zdP w b (c.toList.take (o+k*Rep.size α)++(Builtin.zeroCells z.cells (n-k)).toList++c.toList.drop (o+k*Rep.size α+(Builtin.zeroCells z.cells (n-k)).toList.length)).toArray) ?_⟩
   · rw [hm'] at hst ⊢
     simp [Builtin.clear_,run_underlying ht,zeroValue,typeInfo,hi,hzz,hst]
   have hB:=setRow_heap w b c (c.toList.take (o+k*Rep.size α)++(Builtin.zeroCells z.cells (n-k)).toList++c.toList.drop (o+k*Rep.size α+(Builtin.zeroCells z.cells (n-k)).toList.length)).toArray e' _ he
   have:=zfa (w:=w.setRow b (c.toList.take (o+k*Rep.size α)++(Builtin.zeroCells z.cells (n-k)).toList++c.toList.drop (o+k*Rep.size α+(Builtin.zeroCells z.cells (n-k)).toList.length)).toArray) (b:=b) (o:=o) (l:=l.take k) (cap:=cap) (xs:=x1) (by omega) h2 (c1.keep (by simp)) (fun j v hv=>?_) ⟨_,_,hB⟩
   · rwa [htk] at this
   have hj:=(List.getElem?_eq_some_iff.1 hv).1
   rw [hx1] at hj
   have h5:=hr1 j v hv
   simp only [World.cell?,he] at h5
   have h6:c[o+j]?=some v:=by simpa using h5
   simp only [World.cell?,hB]
   simp only [Option.isSome_none,Bool.false_eq_true,if_false,List.getElem?_toArray]
   rw [List.append_assoc,List.getElem?_append_left (by simp;have:=(Array.getElem?_eq_some_iff.1 h6).1;omega),List.getElem?_take,if_pos (by omega)]
   simpa using h6
end
end Go.Sh
namespace Go.Proofs.YtbnjpfjjmhodnaaGreat
open Go Go.Sh Go.Proofs
open Rep (rep)
set_option maxRecDepth 20000 in
theorem zjc {w w0 w1:World} {K:Value→Prop} {x y:Operand} {v1 v2:Value} {a b:DRace} (h1:Is w0 v1 a) (h2:Is w1 v2 b) (k:K (.bool (decide (a=b)))):RD Tryz.prog (bin .eql 60 x y v1 v2) w K:=by
  obtain ⟨rfl,_⟩:=ziD.1 h1
  obtain ⟨rfl,_⟩:=ziD.1 h2
  refine za3 (fun w' _=>?_) k
  have hg:Tryz.prog.eqGuardType Tryz.prog.depth 60=false:=by kernel_rfl
  have e0:∀ xs ys w,(eqGuard .eql 60 x y (.agg xs) (.agg ys)).run Tryz.prog w=.ok () w:=fun xs ys w=>run_eqGuard_agg (P:=Tryz.prog) w .eql 60 x y xs ys hg
  have e1:∀ xs ys w,(Op.equalIn 10000 60 (.agg xs) (.agg ys)).run Tryz.prog w=(Op.eqFields 9999 xs ys (Tryz.prog.fieldsOf 60).toList).run Tryz.prog w:=fun xs ys w=>run_equalIn_struct w 9999 60 xs ys (by kernel_rfl) (by kernel_rfl)
  have e2:(Tryz.prog.fieldsOf 60).toList.map (fun f=>(f.name,f.type,f.offset))=[("Global", 3,0),("A", 3,1),("B", 3,2)]:=by kernel_rfl
  have e3:∀ (c d:Int) (w:World),(Op.equalIn 9999 3 (.int .i64 c) (.int .i64 d)).run Tryz.prog w=.ok (c == d) w:=fun c d w=>run_equalIn_int w 9998 3 .i64 .i64 c d u3
  have hd:(a=b)↔(a.g=b.g∧a.a=b.a∧a.b=b.b):=⟨fun e=>by rw [e];exact ⟨rfl,rfl,rfl⟩,fun ⟨x,y,z⟩=>by cases a;cases b;simp only at x y z;rw [x,y,z]⟩
  generalize hF:(Tryz.prog.fieldsOf 60).toList=fs at e1 e2
  match fs,e2 with
  | [f0,f1,f2],e2=>
    simp only [List.map_cons,List.map_nil,List.cons.injEq,Prod.mk.injEq,and_true] at e2
    obtain ⟨⟨n0,t0,o0⟩,⟨n1,t1,o1⟩,⟨n2,t2,o2⟩⟩:=e2
    have p0:∀ (a b c:Value) (w:World),(part 3 #[a,b,c] 0).run Tryz.prog w=.ok a w:=fun a b c w=>by simp [part,zcl ty3]
    have p1:∀ (a b c:Value) (w:World),(part 3 #[a,b,c] 1).run Tryz.prog w=.ok b w:=fun a b c w=>by simp [part,zcl ty3]
    have p2:∀ (a b c:Value) (w:World),(part 3 #[a,b,c] 2).run Tryz.prog w=.ok c w:=fun a b c w=>by simp [part,zcl ty3]
    simp only [bin,Sem.run_bind,e0,Result.andThen_ok,run_eql_struct,e1,Op.eqFields,n0,n1,n2,t0,t1,t2,o0,o1,o2]
    simp only [ne_eq,String.reduceEq,not_false_eq_true,if_true,Sem.run_bind,p0,p1,p2,Result.andThen_ok,e3,Sem.run_ite,Sem.run_pure,hd]
    by_cases x0:a.g=b.g<;>by_cases x1:a.a=b.a<;>by_cases x2:a.b=b.b<;>simp [x0,x1,x2]
set_option maxRecDepth 20000 in
theorem zjd {w w0 w1:World} {K:Value→Prop} {x y:Operand} {v1 v2:Value} {a b:DRace} (h1:Is w0 v1 a) (h2:Is w1 v2 b) (k:K (.bool (decide (a≠b)))):RD Tryz.prog (bin .neq 60 x y v1 v2) w K:=by
  obtain ⟨rfl,_⟩:=ziD.1 h1
  obtain ⟨rfl,_⟩:=ziD.1 h2
  refine za3 (fun w' _=>?_) k
  have hg:Tryz.prog.eqGuardType Tryz.prog.depth 60=false:=by kernel_rfl
  have e0:∀ xs ys w,(eqGuard .neq 60 x y (.agg xs) (.agg ys)).run Tryz.prog w=.ok () w:=fun xs ys w=>run_eqGuard_agg (P:=Tryz.prog) w .neq 60 x y xs ys hg
  have e1:∀ xs ys w,(Op.equalIn 10000 60 (.agg xs) (.agg ys)).run Tryz.prog w=(Op.eqFields 9999 xs ys (Tryz.prog.fieldsOf 60).toList).run Tryz.prog w:=fun xs ys w=>run_equalIn_struct w 9999 60 xs ys (by kernel_rfl) (by kernel_rfl)
  have e2:(Tryz.prog.fieldsOf 60).toList.map (fun f=>(f.name,f.type,f.offset))=[("Global", 3,0),("A", 3,1),("B", 3,2)]:=by kernel_rfl
  have e3:∀ (c d:Int) (w:World),(Op.equalIn 9999 3 (.int .i64 c) (.int .i64 d)).run Tryz.prog w=.ok (c == d) w:=fun c d w=>run_equalIn_int w 9998 3 .i64 .i64 c d u3
  have hd:(a=b)↔(a.g=b.g∧a.a=b.a∧a.b=b.b):=⟨fun e=>by rw [e];exact ⟨rfl,rfl,rfl⟩,fun ⟨x,y,z⟩=>by cases a;cases b;simp only at x y z;rw [x,y,z]⟩
  generalize hF:(Tryz.prog.fieldsOf 60).toList=fs at e1 e2
  match fs,e2 with
  | [f0,f1,f2],e2=>
    simp only [List.map_cons,List.map_nil,List.cons.injEq,Prod.mk.injEq,and_true] at e2
    obtain ⟨⟨n0,t0,o0⟩,⟨n1,t1,o1⟩,⟨n2,t2,o2⟩⟩:=e2
    have p0:∀ (a b c:Value) (w:World),(part 3 #[a,b,c] 0).run Tryz.prog w=.ok a w:=fun a b c w=>by simp [part,zcl ty3]
    have p1:∀ (a b c:Value) (w:World),(part 3 #[a,b,c] 1).run Tryz.prog w=.ok b w:=fun a b c w=>by simp [part,zcl ty3]
    have p2:∀ (a b c:Value) (w:World),(part 3 #[a,b,c] 2).run Tryz.prog w=.ok c w:=fun a b c w=>by simp [part,zcl ty3]
    simp only [bin,Sem.run_bind,e0,Result.andThen_ok,run_neq_struct,e1,Op.eqFields,n0,n1,n2,t0,t1,t2,o0,o1,o2]
    simp only [ne_eq,String.reduceEq,not_false_eq_true,if_true,Sem.run_bind,p0,p1,p2,Result.andThen_ok,e3,Sem.run_ite,Sem.run_pure,hd]
    by_cases x0:a.g=b.g<;>by_cases x1:a.a=b.a<;>by_cases x2:a.b=b.b<;>simp [x0,x1,x2,hd]
end Go.Proofs.YtbnjpfjjmhodnaaGreat
namespace Go.Sh
open Rep (rep)
abbrev RInts:=RV Int 3
abbrev RIntss:=RV RInts 25
structure DStV where
 vars:List Int
 owner:List Int
 stacks:RIntss
theorem DStV.ext_iff {x y:DStV}:x=y↔(x.vars=y.vars∧x.owner=y.owner∧x.stacks=y.stacks):=⟨fun h=>by rw [h];exact ⟨rfl,rfl,rfl⟩,fun h=>by obtain ⟨h0,h1,h2⟩:=h;cases x;cases y;simp only at h0 h1 h2;simp only [h0,h1,h2]⟩
instance:Rep DStV:=Rep.via fun x=>(x.vars,x.owner,x.stacks)
instance:RepZ DStV:=⟨⟨(RepZ.zv:List Int),(RepZ.zv:List Int),(RepZ.zv:RIntss)⟩,RepZ.zc ((List Int)×(List Int)×RIntss),fun w=>RepZ.zr (α:=(List Int)×(List Int)×RIntss) w⟩
section
variable {w:World}
end
end Go.Sh
namespace Go.Proofs.YtbnjpfjjmhodnaaGreat
open Go Go.Sh Go.Proofs
open Rep (rep)
theorem zmk {lo hi:Nat} {w:World} {v:Value} {α:Type} [Rep α] {l:List α} (h:OwnI lo hi w v l):∃ a n c,v=.slice a n c:=by
 obtain ⟨a,cap,Fi,xs,hv,_⟩:=zcU h.is
 exact ⟨a,_,cap,hv⟩
theorem zj2 {P:Program} {w w0:World} {α:Type} [Rep α] [Flat α] {t ty e:TypeId} {by_:Nat} {a:Option Addr} {src:Value} {m:List α} {K:Value→World→Prop} (ht:P.underlying t=some (.slice e)) (he:tyI P e=some (Rep.size α,by_,Rep.agg α))
   (hzc:(P.info? e).map (fun i=>(i.zero.map (·.cells.size)))=some (some (Rep.size α))) (hs:Is w0 src m) (hx:Ext w0 w) (hm:m.length≤maxLen) (hb:m.length*by_≤140737488355328)
   (k:∀ v' w',Ext w w'→RowI w.heap.size w'.heap.size e w' v' m→K v' w'):OP P (Builtin.append_ #[t,t] ty [.slice a 0 0,src].toArray) w K:=
 zdR (lo:=w.heap.size) (hi:=w.heap.size) (l:=([]:List α)) ht he hzc (zcD _ _ _ _ _) (Nat.le_refl _) hs hx (by simpa using hm) (by simpa using hb) fun v' w' hc hr=>k v' w' ((Ext.refl w).chgI hc (Nat.le_refl _)) (by simpa using hr)
def F231 (a0:Value) (w:World) (R:VW):Prop:=
 rN 57 3 a0 w fun x7=>
 rB .lss 3 T0 U0 x7 (iV 2) w fun x8=>
 BR x8
 (R a0 w)
 (LOOPI [3] [(iV 1)] w fun u4 w next4=>
 rN 57 3 a0 w fun x12=>
 rC (u4 3) x12 w fun x13=>
 BR x13
 ((fun w=>rX 57 a0 (u4 3) w fun x18=>
 rL 60 x18 w fun x19=>
 rB .sub 3 T0 U0 (u4 3) (iV 1) w fun x22=>
 rX 57 a0 x22 w fun x23=>
 rL 60 x23 w fun x24=>
 rB .eql 60 T0 T0 x19 x24 w fun x25=>
 BR x25
 (rD (Instr.sliceAt 57 a0 (some (u4 3)) none none) w fun x28=>
 LOOPI [3,5] [(u4 3),(iV 1)] w fun u9 w next9=>
 rN 57 3 x28 w fun x31=>
 rC (u9 5) x31 w fun x32=>
 BR x32
 ((fun w=>rX 57 x28 (u9 5) w fun x37=>
 rL 60 x37 w fun x38=>
 rB .sub 3 T0 U0 (u9 5) (iV 1) w fun x41=>
 rX 57 x28 x41 w fun x42=>
 rL 60 x42 w fun x43=>
 rB .neq 60 T0 T0 x38 x43 w fun x44=>
 BR x44
 (rX 57 x28 (u9 5) w fun x49=>
 rL 60 x49 w fun x50=>
 rX 57 a0 (u9 3) w fun x51=>
 oS 60 x51 x50 w fun w=>
 rA (u9 3) (iV 1) w fun x53=>
 rA (u9 5) (iV 1) w fun x34=>
 next9 [x53,x34] w)
 (rA (u9 5) (iV 1) w fun x34=>
 next9 [(u9 3),x34] w)) (World.drew1 w))
 (rD (Instr.sliceAt 57 a0 (some (u9 3)) none none) w fun x56=>
 oP (Builtin.clear_ #[57] 0 [x56].toArray) w fun _ w=>
 rD (Instr.sliceAt 57 a0 none (some (u9 3)) none) w fun x59=>
 R x59 w))
 (rA (u4 3) (iV 1) w fun x15=>
 next4 [x15] w)) (World.drew1 w))
 (R a0 w))
def cfg231:Cfg:=⟨extL,[],[(4,1152921504606846012,[3]),(9,18014397972611112,[3,5])],[(6,[0,1,2,3,4,5,6,7,8,9],0),(11,[0,1,2,3,4,5,6,7,8,9],0)],[],[],[]⟩
theorem F231_call {a0:Value} {w:World} {R:VW} (h:F231 a0 w R):cL 231 [a0] w R:=co (g:=cfg231) Tryz.func231 (by kernel_rfl) (by kernel_rfl) (by kernel_rfl) h
def F228 (a0:Value) (w:World) (R:VW):Prop:=
 rB .eql 57 T0 U0 a0 (Value.slice none 0 0) w fun x4=>
 BR x4
 (R (Value.slice none 0 0) w)
 (oP (Instr.buildSlice 57 0 #[]) w fun x5 w=>
 oP (Builtin.append_ #[57,57] 57 [x5,a0].toArray) w fun x7 w=>
 R x7 w)
def cfg228:Cfg:=⟨extL,[],[],[],[],[],[]⟩
theorem F228_call {a0:Value} {w:World} {R:VW} (h:F228 a0 w R):cL 228 [a0] w R:=co (g:=cfg228) Tryz.func228 (by kernel_rfl) (by kernel_rfl) (by kernel_rfl) h
def F230 (a0:Value) (w:World) (R:VW):Prop:=
 rN 57 3 a0 w fun x5=>
 rN 57 3 a0 w fun x7=>
 rD (Instr.sliceAt 57 a0 none (some x5) (some x7)) w fun x8=>
 R x8 w
def cfg230:Cfg:=⟨extL,[],[],[],[],[],[]⟩
theorem F230_call {a0:Value} {w:World} {R:VW} (h:F230 a0 w R):cL 230 [a0] w R:=co (g:=cfg230) Tryz.func230 (by kernel_rfl) (by kernel_rfl) (by kernel_rfl) h
theorem zk6 {P:Program} {w:World} {t e:TypeId} {b a n cap sz by_ k:Nat} {ag:Bool} {u:Value} {K:Value→Prop} (ht:P.underlying t=some (.slice e)) (he:tyI P e=some (sz,by_,ag)) (hu:u=.slice (some ⟨b,a,none⟩) n cap) (hk:k<n) (kk:K (.pointer (some ⟨b,a+k*sz,none⟩))) :
   RD P (Instr.indexAt t u (.int .i64 (k:Int))) w K:=by
 subst hu
 exact za3 (fun w' _=>by rw [zcm ht he (by omega) (by omega)];simp) kk
instance:Flat DRace:=⟨fun h=>by obtain ⟨F1,F2,c1,c2,rfl,rfl,⟨rfl,_⟩,⟨F3,F4,c3,c4,rfl,rfl,⟨rfl,_⟩,⟨rfl,_⟩⟩⟩:=h;rfl⟩
section
variable {α:Type} [DecidableEq α]
def ddg (x:α):List α→List α
 | []=>[]
 | y :: l=>if y=x then ddg x l else y :: ddg y l
def ddp:List α→List α
 | []=>[]
 | x :: l=>x :: ddg x l
theorem zk7 (y:α):∀ (l:List α) (x:α),ddg x (l++[y])=if y=l.getLastD x then ddg x l else ddg x l++[y]
 | [],x=>rfl
 | a :: l,x=>by
   rw [List.cons_append,ddg,ddg,List.getLastD_cons]
   by_cases h:a=x
   · rw [if_pos h,if_pos h,zk7 y l x,h]
   rw [if_neg h,if_neg h,zk7 y l a]
   split<;>rfl
theorem zk8 {l:List α} {k:Nat} (h0:0<k) (hk:k<l.length):ddp (l.take (k+1))=if l[k]=l[k-1] then ddp (l.take k) else ddp (l.take k)++[l[k]]:=by
 rw [List.take_succ_eq_append_getElem hk]
 cases l with
 | nil=>simp at hk
 | cons x l=>
   obtain ⟨j,rfl⟩:∃ j,k=j+1:=⟨k-1,by omega⟩
   have hj:j<l.length:=by simpa using hk
   have e:(l.take j).getLastD x=(x :: l)[j+1-1]:=by
     rw [List.getLastD_eq_getLast?,List.getLast?_eq_getElem?,List.length_take,Nat.min_eq_left (by omega)]
     cases j with
     | zero=>simp
     | succ j=>simp [List.getElem?_take];rw [List.getElem?_eq_getElem (by omega)];rfl
   rw [List.take_succ_cons,List.cons_append,ddp,ddp,zk7,e]
   split<;>rfl
end
theorem zpf {w:World} {lo hi:Nat} {v:Value} {l:List DRace} (h:OwnI lo hi w v l) (hn:l.length≤1073741824) :
   CALL Tryz.prog 231 [v] w fun r w'=>ChgI lo hi w w'∧OwnI lo hi w' r (ddp l):=by
 obtain ⟨F,hM,hF⟩:=h
 refine F231_call ?_
 unfold F231
 refine zag u57 hM.is ?_
 refine zah ?_
 refine br (fun hlt=>?_) (fun hge=>?_)
 · refine ⟨ChgI.refl w,F,?_,hF⟩
   have:ddp l=l:=by
     match l,hlt with
     | [],_=>rfl
     | [x],_=>rfl
     | _ :: _ :: _,h=>simp only [List.length_cons] at h;omega
   rw [this];exact hM
 have hne:l≠[]:=fun e=>by rw [e] at hge;simp at hge
 obtain ⟨b,o,cap,xs,rfl,rfl,h1,h2,hcc,hrr,hww⟩:=zeN hM hne
 have hln:=hM.is
 refine zas l.length (fun k us w'=>us=[.int .i64 (k:Int)]∧Ext w w'∧1≤k∧k≤l.length∧ddp (l.take k)=l.take k) 1 (by omega) ⟨rfl,Ext.refl w,Nat.le_refl _,by omega,?_⟩ ?_
 · cases l with
   | nil=>exact absurd rfl hne
   | cons x l=>rfl
 rintro k0 mk u w1 hkm ⟨hu,hx1,hk1,hkl,hd0⟩
 simp only [List.map_cons,List.map_nil,List.cons.injEq,and_true] at hu
 rw [hu]
 refine zag u57 hln ?_
 refine zah ?_
 refine br (fun hlt=>?_) (fun hge1=>?_)
 case refine_2=>
   have:k0=l.length:=by omega
   subst this
   rw [List.take_length] at hd0
   rw [hd0]
   exact ⟨hx1.toI,[b],hM.ext hx1,hF⟩
 have hk:k0<l.length:=by omega
 have hx2:=zaj w1
 have hx12:=hx1.trans hx2
 generalize World.drew1 w1=w2 at *
 refine zad u57 zcG hln hk fun b1 o1 hA1=>?_
 refine zab zcG hA1 hx12 fun v19 h19=>?_
 refine zbp (by unfold I64;omega) ?_
 rw [show ((k0:Int)-1)=((k0-1:Nat):Int) by omega]
 refine zad (i:=k0-1) u57 zcG hln (by omega) fun b2 o2 hA2=>?_
 refine zab zcG hA2 hx12 fun v24 h24=>?_
 refine zjc h19 h24 ?_
 refine br (fun heq=>?_) (fun hneq=>?_)
 case refine_2=>
   refine zaf (by omega) ?_
   refine ⟨mk-1,by omega,k0+1,by omega,rfl,hx12,by omega,by omega,?_⟩
   rw [zk8 (by omega) hk,if_neg hneq,hd0,←List.take_succ_eq_append_getElem hk]
 refine zoj (α:=DRace) u57 zcG (by omega) h1 ?_
 rw [if_neg (by omega)]
 have e3:Rep.size DRace=3:=rfl
 rw [e3]
 refine zas (l.length-k0) (fun k2 us w'=>∃ (k:Nat) (cur:List DRace),us=[.int .i64 (k:Int),.int .i64 (k2:Int)]∧Chg [b] w w'∧Mine [b] w' (.slice (some ⟨b,o,none⟩) l.length cap) cur∧cur.length=l.length∧1≤k2∧k2≤l.length-k0∧k0≤k∧k+1≤k0+k2 ∧
     cur.take k=ddp (l.take (k0+k2))∧∀ j,k≤j→cur[j]?=l[j]?) 1 (by omega)
   ⟨k0,l,rfl,hx12.chg _,hM.ext hx12,rfl,Nat.le_refl _,by omega,Nat.le_refl _,by omega,by rw [zk8 (by omega) hk,if_pos heq,hd0],fun _ _=>rfl⟩ ?_
 rintro k2 mk2 u9 w3 hkm2 ⟨k,cur,hu9,hc3,hm3,hl3,hk21,hk22,hk0,hkk,htk,hrest⟩
 obtain ⟨hu91,hu92⟩:=zcC hu9
 rw [hu91,hu92]
 refine za3 (v:=.int .i64 ((l.length-k0:Nat):Int)) (fun w' _=>by simp [Builtin.len_,run_underlying u57];rfl) ?_
 refine zah ?_
 refine br (fun hlt2=>?_) (fun hge2=>?_)
 · have hp:k0+k2<l.length:=by omega
   have hx4:=zaj w3
   have hm4:=hm3.ext hx4
   have hc4:=hc3.trans (hx4.chg _)
   generalize World.drew1 w3=w4 at *
   have hcne:cur≠[]:=fun e=>by rw [e] at hl3;simp at hl3;omega
   obtain ⟨b',o',cap',xs',hv',hb',_,_,hcc',hrr',hww'⟩:=zeN hm4 hcne
   simp only [Value.slice.injEq,Option.some.injEq,Addr.mk.injEq] at hv'
   obtain ⟨⟨rfl,rfl,_⟩,_,rfl⟩:=hv'
   have hat:∀ i (hi:i<cur.length),At w4 b (o+i*3) cur[i]:=fun i hi=>hcc'.at hrr' hi
   have hget:∀ i (hi:i<l.length) (hki:k≤i),cur[i]'(by omega)=l[i]:=fun i hi hki=>by
     have:=hrest i hki
     rw [List.getElem?_eq_getElem (by omega),List.getElem?_eq_getElem hi] at this
     exact Option.some.inj this
   have hA3:=hat (k0+k2) (by omega)
   have hA4:=hat (k0+k2-1) (by omega)
   rw [hget _ hp (by omega)] at hA3
   rw [hget _ (by omega) (by omega)] at hA4
   refine zk6 (k:=k2) u57 zcG rfl (by omega) ?_
   rw [show o+k0*3+k2*3=o+(k0+k2)*3 by omega]
   refine zab zcG hA3 (Ext.refl _) fun v38 h38=>?_
   refine zbp (by unfold I64;omega) ?_
   rw [show ((k2:Int)-1)=((k2-1:Nat):Int) by omega]
   refine zk6 (k:=k2-1) u57 zcG rfl (by omega) ?_
   rw [show o+k0*3+(k2-1)*3=o+(k0+k2-1)*3 by omega]
   refine zab zcG hA4 (Ext.refl _) fun v43 h43=>?_
   refine zjd h38 h43 ?_
   have hdt:=zk8 (l:=l) (k:=k0+k2) (by omega) hp
   refine br (fun hne2=>?_) (fun heq2=>?_)
   · refine zk6 (k:=k2) u57 zcG rfl (by omega) ?_
     rw [show o+k0*3+k2*3=o+(k0+k2)*3 by omega]
     refine zab zcG hA3 (Ext.refl _) fun v50 h50=>?_
     obtain ⟨F5,cs5,hr5,hv5⟩:=h50
     have hF5:=Flat.flat hr5
     subst hF5
     refine zrU (α:=DRace) u57 zcG hm4 (k:=k) (by omega) ⟨cs5,hr5,hv5⟩ fun w5 hc5 hm5=>?_
     refine zaf (by omega) ?_
     refine zaf (by omega) ?_
     refine ⟨mk2-1,by omega,k2+1,by omega,k+1,_,rfl,hc4.trans hc5,hm5,by simp [hl3],by omega,by omega,by omega,by omega,?_,fun j hj=>?_⟩
     · rw [show k0+(k2+1)=k0+k2+1 by omega,hdt,if_neg hne2,←htk]
       rw [List.take_succ_eq_append_getElem (by simp;omega),List.getElem_set_self,List.take_set_of_le (Nat.le_refl _)]
     rw [List.getElem?_set_ne (by omega)]
     exact hrest j (by omega)
   have heq2:=Decidable.not_not.1 heq2
   refine zaf (by omega) ?_
   refine ⟨mk2-1,by omega,k2+1,by omega,k,cur,rfl,hc4,hm4,hl3,by omega,by omega,hk0,by omega,?_,hrest⟩
   rw [show k0+(k2+1)=k0+k2+1 by omega,hdt,if_pos heq2,htk]
 have hk2:k0+k2=l.length:=by omega
 rw [hk2,List.take_length] at htk
 refine zoj (α:=DRace) u57 zcG (by omega) h1 ?_
 refine zqI (α:=DRace) u57 zvc hm3 hl3 (by omega) (by omega) h1 fun w5 hc5 hm5=>?_
 refine ztI (α:=DRace) u57 zcG (by omega) h1 ?_
 rw [htk] at hm5
 exact ⟨(hc3.trans hc5).toI hF,[b],hm5,hF⟩
theorem zqJ {w W:World} {v:Value} {l:List DRace} (h:Is W v l) (e:Ext W w) (hn:l.length≤1073741824) :
   CALL Tryz.prog 228 [v] w fun r w'=>Ext w w'∧Own w.heap.size w' r l:=by
 refine F228_call ?_
 unfold F228
 obtain ⟨a,cap,Fi,xs,rfl,h1,h2,h3,h4⟩:=zcU h
 refine zlF u57 ?_
 refine zbw (fun hnil=>?_) (fun _=>?_)
 · have:l=[]:=by
     rcases h4 with h4 | ⟨b,o,rfl,_⟩
     · exact h4
     simp at hnil
   subst this
   exact ⟨Ext.refl w,zkv rfl⟩
 refine zaP (α:=DRace) u57 zcG fun a5 w1 hx1 r5=>?_
 have hs1:=hx1.size
 refine zdR (α:=DRace) u57 zcG zue r5 (Nat.le_refl _) h (e.trans hx1) (by rw [zap];simp;omega) (by simp;omega) fun v7 w2 hc2 r7=>?_
 rw [List.nil_append] at r7
 exact ⟨Ext.chgI hx1 hc2 (by omega),r7.own.own.mono (by omega)⟩
theorem zsf {w:World} {lo hi:Nat} {v:Value} {l:List DRace} (h:OwnI lo hi w v l) :
   CALL Tryz.prog 230 [v] w fun r w'=>Ext w w'∧OwnI lo hi w' r l:=by
 obtain ⟨F,hM,hF⟩:=h
 refine F230_call ?_
 unfold F230
 refine zag u57 hM.is ?_
 refine zag u57 hM.is ?_
 by_cases hne:l=[]
 · subst hne
   obtain ⟨a,cap,Fi,xs,rfl,h1,h2,h3,h4⟩:=zcU hM.is
   refine zok (α:=DRace) (k:=0) (j:=0) u57 zcG (Nat.le_refl _) h1 fun a' _=>⟨Ext.refl w,ziL a'⟩
 obtain ⟨b,o,cap,xs,rfl,rfl,h1,h2,hc,hr,hw⟩:=zeN hM hne
 refine zok (α:=DRace) (k:=l.length) (j:=l.length) u57 zcG (Nat.le_refl _) h1 fun a' ha=>?_
 rw [ha (fun e=>hne (List.eq_nil_of_length_eq_zero e))]
 exact ⟨Ext.refl w,[b],zfa (Nat.le_refl _) (by omega) hc hr hw,hF⟩
end Go.Proofs.YtbnjpfjjmhodnaaGreat
