/-
  Parts of the proof, put together by program.
-/
import Derived.Test.YtakjaofncelghaaGreatPFnRankedRuns3
set_option linter.unusedVariables false
set_option linter.unusedSimpArgs false
set_option linter.unusedSectionVars false
namespace Go.Proofs.YtakjaofncelghaaGreat
open Go Go.Sh Go.Proofs
open Rep (rep)
section
variable {bs:List UInt8} {n:Nat} {s:Cur}
theorem zef (h:ze6 bs n s<11):zbJ bs n s=zfJ bs (ze6 bs n s) (zam bs 14 s):=by
 cases n with
 | zero=>rw [zbJ]
 | succ n=>rw [zbJ,if_pos h]
theorem zfM (h:¬ze6 bs n s<11):0<n:=by
 cases n with
 | zero=>have:=zvU bs s;omega
 | succ n=>omega
theorem zh4 (h:¬ze6 bs n s<11):zbJ bs n s=zkP bs (zbJ bs (n-1)) (ze6 bs n s) (zam bs 14 s):=by
 have:=zfM h;obtain ⟨m,rfl⟩:∃ m,n=m+1:=⟨n-1,by omega⟩;rw [zbJ,if_neg h];rfl
theorem zug {f:Cur→DStmt×Cur} {bs:List UInt8} {k:Nat} {s:Cur} (hk:k≤3) (h:(k:Int)<zbC bs 4 s) :
   zdI f bs (4-k) k s=((f (zam bs 4 s)).1 :: (zdI f bs (4-(k+1)) (k+1) (f (zam bs 4 s)).2).1,(zdI f bs (4-(k+1)) (k+1) (f (zam bs 4 s)).2).2):=by
 rw [show 4-k=(4-(k+1))+1 by omega,zdI,if_pos h]
theorem zqP {f:Cur→DStmt×Cur} {bs:List UInt8} {k:Nat} {s:Cur} (hk:k≤3) (h:¬(k:Int)<zbC bs 4 s):zdI f bs (4-k) k s=([],zam bs 4 s):=by
 rw [show 4-k=(4-(k+1))+1 by omega,zdI,if_neg h]
end
def zpL (n:Nat):Prop:=∀ {W w:World} {g:Nat} {bs:List UInt8} {s:Cur} {d:Int},CurAt W g bs s w→d=(n:Int) →
 CALL tp 194 [.pointer (some ⟨g,0,none⟩),.int .i64 d] w λr w'=>ChgI g (g+1) w w'∧CurAt W g bs (zbJ bs n s).2 w'∧OwnI w.heap.size w'.heap.size w' r (zbJ bs n s).1
def zso (n:Nat):Prop:=∀ {W w:World} {g:Nat} {bs:List UInt8} {s:Cur} {d:Int},CurAt W g bs s w→d=(n:Int) →
 CALL tp 127 [.pointer (some ⟨g,0,none⟩),.int .i64 d] w λr w'=>ChgI g (g+1) w w'∧CurAt W g bs (za8 bs n s).2 w'∧RowI w.heap.size w'.heap.size 166 w' r (za8 bs n s).1
def F127 (a0 a1:Value) (w:World) (R:VW):Prop:=
 oP (Instr.buildSlice 158 0 #[]) w λx7 w=>
 LOOPI [5,6] [x7,(iV 0)] w λu3 w n3=>
 cL 35 [a0,(iV 4)] w λx10 w=>
 rC (u3 6) x10 w λx11=>
 BR x11
 (cL 194 [a0,a1] w λx17 w=>
 oP (bS 158 x17) w λx18 w=>
 oP (aP 158 (u3 5) x18) w λx19 w=>
 rI (u3 6) w λx13=>
 n3 [x19,x13] w)
 (R (u3 5) w)
theorem F127_call {a0 a1 w R} (h:F127 a0 a1 w R):cL 127 [a0,a1] w R:=co (g:=(kf [] [(3,1048416,[5,6])] [])) Tryz.func127 h
theorem ziw {w:World} {W:World} {g:Nat} {bs:List UInt8} {s:Cur} {d:Int} {n:Nat} (hC:CurAt W g bs s w) (hd:d=(n:Int)) (ih:zpL n) :
   CALL tp 127 [.pointer (some ⟨g,0,none⟩),.int .i64 d] w λr w'=>ChgI g (g+1) w w'∧(CurAt W g bs (za8 bs n s).2 w'∧RowI w.heap.size w'.heap.size 166 w' r (za8 bs n s).1):=by
 refine F127_call ?_;unfold F127;have hgl:=hC.lt;refine zaQ (α:=DStmt) ze5 zbO λv7 w1_ η1 o7=>?_;have σ1:=η1.size;refine zat (4) (λk us w'=>∃ (v:Value) (s1:Cur) (l1:List DStmt),us=[v,.int .i64 (k:Int)]∧ChgI g (g+1) w1_ w'∧(CurAt W g bs s1 w'∧RowI w1_.heap.size w'.heap.size 166 w' v l1∧za8 bs n s=(l1++(zdI (zbJ bs n) bs (4-k) k s1).1,(zdI (zbJ bs n) bs (4-k) k s1).2)∧l1.length≤k∧k≤3)) (0) (by omega) ⟨_,s,[],rfl,(ChgI.refl w1_),⟨hC.ext η1,zcw _ _ _ _ _,by unfold za8;simp,by simp,by omega⟩⟩ ?_;rintro k m3 uu3 w2_ hk3 ⟨v5,s1,l1,hu,η2,hC1,hrow,hdr,hll,hkk⟩;have σ2:=η2.size;obtain ⟨hu0,hu1⟩:=zd4 hu;try rw [hu0]
 try rw [hu1]
 try clear hu0 hu1
 have hb4:=zcf bs (n:=4) (by omega) s1;refine (zcq hC1 (by omega)).mono ?_;rintro _ w3_ ⟨hc3_,hC3_,rfl⟩;have σhc3_:=hc3_.size;have σhc3_:=hc3_.size;have hrow_c3:=(hrow.ext (Ext.refl w2_)).chg hc3_ (by omega);refine zaf ?_;refine br (λc1=>?_) (λc1=>?_)
 · refine (ih hC3_ hd).mono ?_
   rintro r17 w4_ ⟨hc4_,hC4_,o17⟩;have σhc4_:=hc4_.size;have σhc4_:=hc4_.size;have hrow_c4:=(hrow_c3.ext (Ext.refl w3_)).chg hc4_ (by omega);refine zcn (α:=DStmt) ze5 zbO zwH zqD (by decide) (hrow_c4.ext (Ext.refl w4_)) (by omega) (o17.ext (Ext.refl w4_)) (by omega) (by omega) (by rw [zak];omega) (by omega) λv19 w5_ hc5_ o19=>?_;have σhc5_:=hc5_.size;have o17_c5:=(o17.ext (Ext.refl w4_)).chg hc5_ (by omega);refine zaB ?_;refine ⟨m3-1,by omega,k+1,by omega,_,(zbJ bs n (zam bs 4 s1)).2,l1++[(zbJ bs n (zam bs 4 s1)).1],rfl,(ChgI.out (ChgI.trans (ChgI.trans η2 hc3_) hc4_) hc5_ (by omega)),?_⟩;rw [zug hkk (by omega)] at hdr;exact ⟨(CurAt.chg hC4_ hc5_ (by omega) (by omega)),o19,by rw [hdr];simp,by simp;omega,by omega⟩
 refine ⟨(ChgI.trans (ChgI.trans (Ext.toI η1) η2) hc3_),?_⟩;rw [zqP hkk (by omega)] at hdr;rw [hdr];simp only [List.append_nil];exact ⟨hC3_,(hrow.chg hc3_ (by omega)).mono (by omega) (by omega)⟩
def F194 (a0 a1:Value) (w:World) (R:VW):Prop:=
 oP (aL 166) w λx4 w=>
 cL 35 [a0,(iV 14)] w λx8 w=>
 JOIN [5] (λJ4=>
 rB .leq 3 T0 U0 a1 (iV 0) w λx10=>
 BR x10
 (rB .geq 3 T0 U0 x8 (iV 11) w λx13=>
 BR x13
 (rB .sub 3 T0 U0 x8 (iV 6) w λx16=>
 J4 [x16] w)
 (J4 [x8] w))
 (J4 [x8] w)) (λu4 w=>
 rB .lss 3 T0 U0 (u4 5) (iV 4) w λx19=>
 BR x19
 (oP (Instr.buildSlice 24 3 #[(0,(Value.string (ByteArray.mk #[120]))),(1,(Value.string (ByteArray.mk #[121]))),(2,(Value.string (ByteArray.mk #[122])))]) w λx21 w=>
 cL 195 [a0,x21] w λx22 w=>
 cL 247 [a0,(iV 2)] w λx24 w=>
 rD (Instr.build 166 #[(0,(iV 1)),(1,x22),(2,x24)]) w λx25=>
 oS 166 x4 x25 w λw=>
 rD (zaJ 166 x4) w λr4=>R r4 w)
 (rB .lss 3 T0 U0 (u4 5) (iV 6) w λx28=>
 BR x28
 (oP (Instr.buildSlice 24 3 #[(0,(Value.string (ByteArray.mk #[97]))),(1,(Value.string (ByteArray.mk #[98]))),(2,(Value.string (ByteArray.mk #[109])))]) w λx30 w=>
 cL 195 [a0,x30] w λx31 w=>
 rD (Instr.build 166 #[(0,(iV 6)),(1,x31)]) w λx32=>
 oS 166 x4 x32 w λw=>
 rD (zaJ 166 x4) w λr4=>R r4 w)
 (rB .lss 3 T0 U0 (u4 5) (iV 8) w λx35=>
 BR x35
 (oP (Instr.buildSlice 24 3 #[(0,(Value.string (ByteArray.mk #[97]))),(1,(Value.string (ByteArray.mk #[98]))),(2,(Value.string (ByteArray.mk #[109])))]) w λx37 w=>
 cL 195 [a0,x37] w λx38 w=>
 rD (Instr.build 166 #[(0,(iV 7)),(1,x38)]) w λx39=>
 oS 166 x4 x39 w λw=>
 rD (zaJ 166 x4) w λr4=>R r4 w)
 (rQ (u4 5) (iV 8) w λx42=>
 BR x42
 (oP (Instr.buildSlice 24 3 #[(0,(Value.string (ByteArray.mk #[112]))),(1,(Value.string (ByteArray.mk #[113]))),(2,(Value.string (ByteArray.mk #[114])))]) w λx44 w=>
 cL 195 [a0,x44] w λx45 w=>
 rD (Instr.build 166 #[(0,(iV 4)),(1,x45)]) w λx46=>
 oS 166 x4 x46 w λw=>
 rD (zaJ 166 x4) w λr4=>R r4 w)
 (rQ (u4 5) (iV 9) w λx49=>
 BR x49
 (oP (Instr.buildSlice 24 3 #[(0,(Value.string (ByteArray.mk #[112]))),(1,(Value.string (ByteArray.mk #[113]))),(2,(Value.string (ByteArray.mk #[114])))]) w λx51 w=>
 cL 195 [a0,x51] w λx52 w=>
 rD (Instr.build 166 #[(0,(iV 5)),(1,x52)]) w λx53=>
 oS 166 x4 x53 w λw=>
 rD (zaJ 166 x4) w λr4=>R r4 w)
 (rQ (u4 5) (iV 10) w λx56=>
 BR x56
 (rD (Instr.build 166 #[(0,(iV 8))]) w λx57=>
 oS 166 x4 x57 w λw=>
 rD (zaJ 166 x4) w λr4=>R r4 w)
 (rQ (u4 5) (iV 11) w λx60=>
 BR x60
 (cL 247 [a0,(iV 1)] w λx62 w=>
 rB .sub 3 T0 U0 a1 (iV 1) w λx65=>
 cL 127 [a0,x65] w λx66 w=>
 rD (Instr.build 166 #[(0,(iV 3)),(2,x62),(3,x66)]) w λx67=>
 oS 166 x4 x67 w λw=>
 rD (zaJ 166 x4) w λr4=>R r4 w)
 (cL 247 [a0,(iV 1)] w λx69 w=>
 rB .sub 3 T0 U0 a1 (iV 1) w λx72=>
 cL 127 [a0,x72] w λx73 w=>
 rD (Instr.build 166 #[(0,(iV 2)),(2,x69),(3,x73)]) w λx74=>
 oP (aL 166) w λx6 w=>
 oS 166 x6 x74 w λw=>
 cL 129 [a0,(iV 2)] w λx76 w=>
 BR x76
 (rB .sub 3 T0 U0 a1 (iV 1) w λx79=>
 cL 127 [a0,x79] w λx80 w=>
 rF 166 x6 4 w λx81=>
 oS 158 x81 x80 w λw=>
 rL 166 x6 w λx82=>
 oS 166 x4 x82 w λw=>
 rD (zaJ 166 x4) w λr4=>R r4 w)
 (rL 166 x6 w λx82=>
 oS 166 x4 x82 w λw=>
 rD (zaJ 166 x4) w λr4=>R r4 w)))))))))
theorem F194_call {a0 a1 w R} (h:F194 a0 a1 w R):cL 194 [a0,a1] w R:=co (g:=(kf [(4,130592,[5])] [] [])) Tryz.func194 h
theorem zix {w:World} {W:World} {g:Nat} {bs:List UInt8} {s:Cur} {d:Int} {n:Nat} (hC:CurAt W g bs s w) (hd:d=(n:Int)) (ih:∀ m,m+1=n→zso m) (hn:n≤10) :
   CALL tp 194 [.pointer (some ⟨g,0,none⟩),.int .i64 d] w λr w'=>ChgI g (g+1) w w'∧(CurAt W g bs (zbJ bs n s).2 w'∧OwnI w.heap.size w'.heap.size w' r (zbJ bs n s).1):=by
 refine F194_call ?_;unfold F194;have hgl:=hC.lt;have hb14:=zcf bs (n:=14) (by omega) s;refine zfp (α:=DStmt) zr8 λw1_ η1 hv4=>?_;have hg4:=hv4.lt;have σ1:=η1.size;refine (zcq (CurAt.ext hC η1) (by omega)).mono ?_;rintro _ w2_ ⟨hc2_,hC2_,rfl⟩;have σhc2_:=hc2_.size;have σhc2_:=hc2_.size;have hv4_c2:=(hv4.ext (Ext.refl w1_)).chg hc2_ (by omega) (by omega);refine JOIN.mk (λus w'=>us=[.int .i64 (ze6 bs n s)]∧Ext w2_ w'∧(True)) ?_ ?_
 · refine zdZ ?_
   refine br (λc1=>?_) (λc1=>?_)
   · refine zbW ?_
     refine br (λc2=>?_) (λc2=>?_)
     · refine za0 (by unfold I64;omega) ?_
       refine ⟨by unfold ze6;rw [if_pos (by omega)],Ext.refl w2_,?_⟩;trivial
     refine ⟨by unfold ze6;rw [if_neg (by omega)],Ext.refl w2_,?_⟩;trivial
   refine ⟨by unfold ze6;rw [if_neg (by omega)],Ext.refl w2_,?_⟩;trivial
 rintro uj4 w3_ ⟨hu,η3,_⟩;have σ3:=η3.size;try replace hu:=zbG hu
 try rw [hu]
 try clear hu
 refine zaf ?_;refine br (λc3=>?_) (λc3=>?_)
 · refine zfL (vs:=([ByteArray.mk #[120],ByteArray.mk #[121],ByteArray.mk #[122]]:List ByteArray).map Value.string) u24 ty9 zcp (by decide) (by kernel_rfl) rfl (λw=>zcB (by decide)) λv21 w4_ η4 o21=>?_
   have σ4:=η4.size;refine (zde (CurAt.ext (CurAt.ext hC2_ η3) η4) (o21.ext (Ext.refl w4_)) (by omega) (by omega) (by omega) (by decide) (by decide)).mono ?_;rintro _ w5_ ⟨hc5_,hC5_,rfl,hS22⟩;have σhc5_:=hc5_.size;have σhc5_:=hc5_.size;have hv4_c5:=(hv4_c2.ext (η3.t η4)).chg hc5_ (by omega) (by omega);have o21_c5:=(o21.ext (Ext.refl w4_)).chg hc5_ (by omega);refine ((zf9 2 (by omega)) hC5_ rfl).mono ?_;rintro r24 w6_ ⟨hc6_,hC6_,o24⟩;have σhc6_:=hc6_.size;have σhc6_:=hc6_.size;have hv4_c6:=(hv4_c5.ext (Ext.refl w5_)).chg hc6_ (by omega) (by omega);have o21_c6:=(o21_c5.ext (Ext.refl w5_)).chg hc6_ (by omega);refine zmS (lo:=w5_.heap.size) (hi:=w6_.heap.size) (by omega) (by first | assumption | (unfold I64;omega)) (by first | assumption | decide) (o24.ext (Ext.refl w6_)) λv25 o25=>?_;refine zbf zbO (hv4_c6.ext (Ext.refl w6_)) (o25.ext (Ext.refl w6_)) (by omega) λw7_ hc7_ hv4_s7=>?_;have σhc7_:=hc7_.size;have o21_c7:=(o21_c6.ext (Ext.refl w6_)).chg hc7_ (by omega);have o24_c7:=(o24.ext (Ext.refl w6_)).chg hc7_ (by omega);have o25_c7:=(o25.ext (Ext.refl w6_)).chg hc7_ (by omega);refine zbT zbO hv4_s7 (Ext.refl w7_) λr4 hr4=>?_
   replace hr4:=hr4.ext (Ext.refl w7_)
   refine ⟨(ChgI.out (ChgI.trans (ChgI.trans (ChgI.trans (ChgI.trans (ChgI.trans (Ext.toI η1) hc2_) (Ext.toI η3)) (Ext.toI η4)) hc5_) hc6_) hc7_ (by omega)),?_⟩;rw [zef (by omega),zfJ,if_pos (by omega)];exact ⟨(CurAt.chg hC6_ hc7_ (by omega) (by omega)),hr4.mono (by omega) (by omega)⟩
 refine zaf ?_;refine br (λc4=>?_) (λc4=>?_)
 · refine zfL (vs:=([ByteArray.mk #[97],ByteArray.mk #[98],ByteArray.mk #[109]]:List ByteArray).map Value.string) u24 ty9 zcp (by decide) (by kernel_rfl) rfl (λw=>zcB (by decide)) λv30 w8_ η8 o30=>?_
   have σ8:=η8.size;refine (zde (CurAt.ext (CurAt.ext hC2_ η3) η8) (o30.ext (Ext.refl w8_)) (by omega) (by omega) (by omega) (by decide) (by decide)).mono ?_;rintro _ w9_ ⟨hc9_,hC9_,rfl,hS31⟩;have σhc9_:=hc9_.size;have σhc9_:=hc9_.size;have hv4_c9:=(hv4_c2.ext (η3.t η8)).chg hc9_ (by omega) (by omega);have o30_c9:=(o30.ext (Ext.refl w8_)).chg hc9_ (by omega);refine zcN (lo:=w9_.heap.size) (hi:=w9_.heap.size) (by omega) (by first | assumption | (unfold I64;omega)) (by first | assumption | decide) λv32 o32=>?_;refine zbf zbO (hv4_c9.ext (Ext.refl w9_)) (o32.ext (Ext.refl w9_)) (by omega) λw10_ hc10_ hv4_s10=>?_;have σhc10_:=hc10_.size;have o30_c10:=(o30_c9.ext (Ext.refl w9_)).chg hc10_ (by omega);have o32_c10:=(o32.ext (Ext.refl w9_)).chg hc10_ (by omega);refine zbT zbO hv4_s10 (Ext.refl w10_) λr4 hr4=>?_
   replace hr4:=hr4.ext (Ext.refl w10_)
   refine ⟨(ChgI.out (ChgI.trans (ChgI.trans (ChgI.trans (ChgI.trans (Ext.toI η1) hc2_) (Ext.toI η3)) (Ext.toI η8)) hc9_) hc10_ (by omega)),?_⟩;rw [zef (by omega),zfJ,if_neg (by omega),if_pos (by omega)];exact ⟨(CurAt.chg hC9_ hc10_ (by omega) (by omega)),hr4.mono (by omega) (by omega)⟩
 refine zaf ?_;refine br (λc5=>?_) (λc5=>?_)
 · refine zfL (vs:=([ByteArray.mk #[97],ByteArray.mk #[98],ByteArray.mk #[109]]:List ByteArray).map Value.string) u24 ty9 zcp (by decide) (by kernel_rfl) rfl (λw=>zcB (by decide)) λv37 w11_ η11 o37=>?_
   have σ11:=η11.size;refine (zde (CurAt.ext (CurAt.ext hC2_ η3) η11) (o37.ext (Ext.refl w11_)) (by omega) (by omega) (by omega) (by decide) (by decide)).mono ?_;rintro _ w12_ ⟨hc12_,hC12_,rfl,hS38⟩;have σhc12_:=hc12_.size;have σhc12_:=hc12_.size;have hv4_c12:=(hv4_c2.ext (η3.t η11)).chg hc12_ (by omega) (by omega);have o37_c12:=(o37.ext (Ext.refl w11_)).chg hc12_ (by omega);refine zcN (lo:=w12_.heap.size) (hi:=w12_.heap.size) (by omega) (by first | assumption | (unfold I64;omega)) (by first | assumption | decide) λv39 o39=>?_;refine zbf zbO (hv4_c12.ext (Ext.refl w12_)) (o39.ext (Ext.refl w12_)) (by omega) λw13_ hc13_ hv4_s13=>?_;have σhc13_:=hc13_.size;have o37_c13:=(o37_c12.ext (Ext.refl w12_)).chg hc13_ (by omega);have o39_c13:=(o39.ext (Ext.refl w12_)).chg hc13_ (by omega);refine zbT zbO hv4_s13 (Ext.refl w13_) λr4 hr4=>?_
   replace hr4:=hr4.ext (Ext.refl w13_)
   refine ⟨(ChgI.out (ChgI.trans (ChgI.trans (ChgI.trans (ChgI.trans (Ext.toI η1) hc2_) (Ext.toI η3)) (Ext.toI η11)) hc12_) hc13_ (by omega)),?_⟩;rw [zef (by omega),zfJ,if_neg (by omega),if_neg (by omega),if_pos (by omega)];exact ⟨(CurAt.chg hC12_ hc13_ (by omega) (by omega)),hr4.mono (by omega) (by omega)⟩
 refine zag ?_;refine br (λc6=>?_) (λc6=>?_)
 · refine zfL (vs:=([ByteArray.mk #[112],ByteArray.mk #[113],ByteArray.mk #[114]]:List ByteArray).map Value.string) u24 ty9 zcp (by decide) (by kernel_rfl) rfl (λw=>zcB (by decide)) λv44 w14_ η14 o44=>?_
   have σ14:=η14.size;refine (zde (CurAt.ext (CurAt.ext hC2_ η3) η14) (o44.ext (Ext.refl w14_)) (by omega) (by omega) (by omega) (by decide) (by decide)).mono ?_;rintro _ w15_ ⟨hc15_,hC15_,rfl,hS45⟩;have σhc15_:=hc15_.size;have σhc15_:=hc15_.size;have hv4_c15:=(hv4_c2.ext (η3.t η14)).chg hc15_ (by omega) (by omega);have o44_c15:=(o44.ext (Ext.refl w14_)).chg hc15_ (by omega);refine zcN (lo:=w15_.heap.size) (hi:=w15_.heap.size) (by omega) (by first | assumption | (unfold I64;omega)) (by first | assumption | decide) λv46 o46=>?_;refine zbf zbO (hv4_c15.ext (Ext.refl w15_)) (o46.ext (Ext.refl w15_)) (by omega) λw16_ hc16_ hv4_s16=>?_;have σhc16_:=hc16_.size;have o44_c16:=(o44_c15.ext (Ext.refl w15_)).chg hc16_ (by omega);have o46_c16:=(o46.ext (Ext.refl w15_)).chg hc16_ (by omega);refine zbT zbO hv4_s16 (Ext.refl w16_) λr4 hr4=>?_
   replace hr4:=hr4.ext (Ext.refl w16_)
   refine ⟨(ChgI.out (ChgI.trans (ChgI.trans (ChgI.trans (ChgI.trans (Ext.toI η1) hc2_) (Ext.toI η3)) (Ext.toI η14)) hc15_) hc16_ (by omega)),?_⟩;rw [zef (by omega),zfJ,if_neg (by omega),if_neg (by omega),if_neg (by omega),if_pos (by omega)];exact ⟨(CurAt.chg hC15_ hc16_ (by omega) (by omega)),hr4.mono (by omega) (by omega)⟩
 refine zag ?_;refine br (λc7=>?_) (λc7=>?_)
 · refine zfL (vs:=([ByteArray.mk #[112],ByteArray.mk #[113],ByteArray.mk #[114]]:List ByteArray).map Value.string) u24 ty9 zcp (by decide) (by kernel_rfl) rfl (λw=>zcB (by decide)) λv51 w17_ η17 o51=>?_
   have σ17:=η17.size;refine (zde (CurAt.ext (CurAt.ext hC2_ η3) η17) (o51.ext (Ext.refl w17_)) (by omega) (by omega) (by omega) (by decide) (by decide)).mono ?_;rintro _ w18_ ⟨hc18_,hC18_,rfl,hS52⟩;have σhc18_:=hc18_.size;have σhc18_:=hc18_.size;have hv4_c18:=(hv4_c2.ext (η3.t η17)).chg hc18_ (by omega) (by omega);have o51_c18:=(o51.ext (Ext.refl w17_)).chg hc18_ (by omega);refine zcN (lo:=w18_.heap.size) (hi:=w18_.heap.size) (by omega) (by first | assumption | (unfold I64;omega)) (by first | assumption | decide) λv53 o53=>?_;refine zbf zbO (hv4_c18.ext (Ext.refl w18_)) (o53.ext (Ext.refl w18_)) (by omega) λw19_ hc19_ hv4_s19=>?_;have σhc19_:=hc19_.size;have o51_c19:=(o51_c18.ext (Ext.refl w18_)).chg hc19_ (by omega);have o53_c19:=(o53.ext (Ext.refl w18_)).chg hc19_ (by omega);refine zbT zbO hv4_s19 (Ext.refl w19_) λr4 hr4=>?_
   replace hr4:=hr4.ext (Ext.refl w19_)
   refine ⟨(ChgI.out (ChgI.trans (ChgI.trans (ChgI.trans (ChgI.trans (Ext.toI η1) hc2_) (Ext.toI η3)) (Ext.toI η17)) hc18_) hc19_ (by omega)),?_⟩;rw [zef (by omega),zfJ,if_neg (by omega),if_neg (by omega),if_neg (by omega),if_neg (by omega),if_pos (by omega)];exact ⟨(CurAt.chg hC18_ hc19_ (by omega) (by omega)),hr4.mono (by omega) (by omega)⟩
 refine zag ?_;refine br (λc8=>?_) (λc8=>?_)
 · refine zkS (lo:=w3_.heap.size) (hi:=w3_.heap.size) (by omega) (by first | assumption | (unfold I64;omega)) λv57 o57=>?_
   refine zbf zbO (hv4_c2.ext η3) (o57.ext (Ext.refl w3_)) (by omega) λw20_ hc20_ hv4_s20=>?_;have σhc20_:=hc20_.size;have o57_c20:=(o57.ext (Ext.refl w3_)).chg hc20_ (by omega);refine zbT zbO hv4_s20 (Ext.refl w20_) λr4 hr4=>?_
   replace hr4:=hr4.ext (Ext.refl w20_)
   refine ⟨(ChgI.out (ChgI.trans (ChgI.trans (Ext.toI η1) hc2_) (Ext.toI η3)) hc20_ (by omega)),?_⟩;rw [zef (by omega),zfJ,if_neg (by omega),if_neg (by omega),if_neg (by omega),if_neg (by omega),if_neg (by omega)];exact ⟨(CurAt.chg (CurAt.ext hC2_ η3) hc20_ (by omega) (by omega)),hr4.mono (by omega) (by omega)⟩
 refine zag ?_;refine br (λc9=>?_) (λc9=>?_)
 · have hK:¬ze6 bs n s<11:=by unfold ze6 at *;split at*<;> omega
   have hnp:=zfM hK;refine ((zf9 1 (by omega)) (CurAt.ext hC2_ η3) rfl).mono ?_;rintro r62 w21_ ⟨hc21_,hC21_,o62⟩;have σhc21_:=hc21_.size;have σhc21_:=hc21_.size;have hv4_c21:=(hv4_c2.ext η3).chg hc21_ (by omega) (by omega);refine za0 (by unfold I64;omega) ?_;refine (ih (n-1) (by omega) hC21_ (by omega)).mono ?_;rintro r66 w22_ ⟨hc22_,hC22_,o66⟩;have σhc22_:=hc22_.size;have σhc22_:=hc22_.size;have hv4_c22:=(hv4_c21.ext (Ext.refl w21_)).chg hc22_ (by omega) (by omega);have o62_c22:=(o62.ext (Ext.refl w21_)).chg hc22_ (by omega);refine ziv (lo:=w3_.heap.size) (hi:=w22_.heap.size) (by first | assumption | (unfold I64;omega)) (o62_c22.ext (Ext.refl w22_)) (o66.own.ext (Ext.refl w22_)) (by omega) (by omega) (by omega) (by omega) λv67 o67=>?_;refine zbf zbO (hv4_c22.ext (Ext.refl w22_)) (o67.ext (Ext.refl w22_)) (by omega) λw23_ hc23_ hv4_s23=>?_;have σhc23_:=hc23_.size;have o62_c23:=(o62_c22.ext (Ext.refl w22_)).chg hc23_ (by omega);have o66_c23:=(o66.ext (Ext.refl w22_)).chg hc23_ (by omega);have o67_c23:=(o67.ext (Ext.refl w22_)).chg hc23_ (by omega);refine zbT zbO hv4_s23 (Ext.refl w23_) λr4 hr4=>?_
   replace hr4:=hr4.ext (Ext.refl w23_)
   refine ⟨(ChgI.out (ChgI.trans (ChgI.trans (ChgI.trans (ChgI.trans (Ext.toI η1) hc2_) (Ext.toI η3)) hc21_) hc22_) hc23_ (by omega)),?_⟩;rw [zh4 hK,zkP,if_pos (by omega)];exact ⟨(CurAt.chg hC22_ hc23_ (by omega) (by omega)),hr4.mono (by omega) (by omega)⟩
 have hK:¬ze6 bs n s<11:=by unfold ze6 at *;split at*<;> omega
 have hnp:=zfM hK;refine ((zf9 1 (by omega)) (CurAt.ext hC2_ η3) rfl).mono ?_;rintro r69 w24_ ⟨hc24_,hC24_,o69⟩;have σhc24_:=hc24_.size;have σhc24_:=hc24_.size;have hv4_c24:=(hv4_c2.ext η3).chg hc24_ (by omega) (by omega);refine za0 (by unfold I64;omega) ?_;refine (ih (n-1) (by omega) hC24_ (by omega)).mono ?_;rintro r73 w25_ ⟨hc25_,hC25_,o73⟩;have σhc25_:=hc25_.size;have σhc25_:=hc25_.size;have hv4_c25:=(hv4_c24.ext (Ext.refl w24_)).chg hc25_ (by omega) (by omega);have o69_c25:=(o69.ext (Ext.refl w24_)).chg hc25_ (by omega);refine ziv (lo:=w3_.heap.size) (hi:=w25_.heap.size) (by first | assumption | (unfold I64;omega)) (o69_c25.ext (Ext.refl w25_)) (o73.own.ext (Ext.refl w25_)) (by omega) (by omega) (by omega) (by omega) λv74 o74=>?_;refine zfp (α:=DStmt) zr8 λw26_ η26 hv6=>?_;have hg6:=hv6.lt;have σ26:=η26.size;refine zbf zbO (hv6.ext (Ext.refl w26_)) (o74.ext η26) (by omega) λw27_ hc27_ hv6_s27=>?_;have σhc27_:=hc27_.size;have hv4_c27:=(hv4_c25.ext η26).chg hc27_ (by omega) (by omega);have o69_c27:=(o69_c25.ext η26).chg hc27_ (by omega);have o73_c27:=(o73.ext η26).chg hc27_ (by omega);have o74_c27:=(o74.ext η26).chg hc27_ (by omega);refine (zf8 (CurAt.chg (CurAt.ext hC25_ η26) hc27_ (by omega) (by omega)) (by omega)).mono ?_;rintro _ w28_ ⟨hc28_,hC28_,rfl⟩;have σhc28_:=hc28_.size;have σhc28_:=hc28_.size;have hv4_c28:=(hv4_c27.ext (Ext.refl w27_)).chg hc28_ (by omega) (by omega);have o69_c28:=(o69_c27.ext (Ext.refl w27_)).chg hc28_ (by omega);have o73_c28:=(o73_c27.ext (Ext.refl w27_)).chg hc28_ (by omega);have o74_c28:=(o74_c27.ext (Ext.refl w27_)).chg hc28_ (by omega);have hv6_s27_c28:=(hv6_s27.ext (Ext.refl w27_)).chg hc28_ (by omega) (by omega);refine br (λc10=>?_) (λc10=>?_)
 · refine za0 (by unfold I64;omega) ?_
   refine (ih (n-1) (by omega) hC28_ (by omega)).mono ?_;rintro r80 w29_ ⟨hc29_,hC29_,o80⟩;have σhc29_:=hc29_.size;have σhc29_:=hc29_.size;have hv4_c29:=(hv4_c28.ext (Ext.refl w28_)).chg hc29_ (by omega) (by omega);have o69_c29:=(o69_c28.ext (Ext.refl w28_)).chg hc29_ (by omega);have o73_c29:=(o73_c28.ext (Ext.refl w28_)).chg hc29_ (by omega);have o74_c29:=(o74_c28.ext (Ext.refl w28_)).chg hc29_ (by omega);have hv6_s27_c29:=(hv6_s27_c28.ext (Ext.refl w28_)).chg hc29_ (by omega) (by omega);refine zaa zdq ?_;obtain ⟨Fv30,hO30,hF30⟩:=(hv6_s27_c29.ext (Ext.refl w29_));obtain ⟨Gv30,hL30⟩:=zir (Lens.var hO30);refine ztY zdp hL30 hF30 (o80.own.ext (Ext.refl w29_)) (by omega) (by omega) λw30_ hc30_ hv30_=>?_;have hv6_s30:=hv30_ (w3_.heap.size) (by omega) (by omega) (w29_.heap.size) (by omega) (by omega);clear hv30_ hL30 hO30 hF30;have σhc30_:=hc30_.size;have hv4_c30:=(hv4_c29.ext (Ext.refl w29_)).chg hc30_ (by omega) (by omega);have o69_c30:=(o69_c29.ext (Ext.refl w29_)).chg hc30_ (by omega);have o73_c30:=(o73_c29.ext (Ext.refl w29_)).chg hc30_ (by omega);have o74_c30:=(o74_c29.ext (Ext.refl w29_)).chg hc30_ (by omega);have o80_c30:=(o80.ext (Ext.refl w29_)).chg hc30_ (by omega);refine zdm zbO hv6_s30 (Ext.refl w30_) λv82 o82=>?_;refine zbf zbO (hv4_c30.ext (Ext.refl w30_)) (o82.ext (Ext.refl w30_)) (by omega) λw31_ hc31_ hv4_s31=>?_;have σhc31_:=hc31_.size;have o69_c31:=(o69_c30.ext (Ext.refl w30_)).chg hc31_ (by omega);have o73_c31:=(o73_c30.ext (Ext.refl w30_)).chg hc31_ (by omega);have o74_c31:=(o74_c30.ext (Ext.refl w30_)).chg hc31_ (by omega);have hv6_s30_c31:=(hv6_s30.ext (Ext.refl w30_)).chg hc31_ (by omega) (by omega);have o80_c31:=(o80_c30.ext (Ext.refl w30_)).chg hc31_ (by omega);have o82_c31:=(o82.ext (Ext.refl w30_)).chg hc31_ (by omega);refine zbT zbO hv4_s31 (Ext.refl w31_) λr4 hr4=>?_
   replace hr4:=hr4.ext (Ext.refl w31_)
   refine ⟨(ChgI.out (ChgI.out (ChgI.trans (ChgI.trans (ChgI.out (ChgI.trans (ChgI.trans (ChgI.trans (ChgI.trans (ChgI.trans (Ext.toI η1) hc2_) (Ext.toI η3)) hc24_) hc25_) (Ext.toI η26)) hc27_ (by omega)) hc28_) hc29_) hc30_ (by omega)) hc31_ (by omega)),?_⟩;rw [zh4 hK,zkP,if_neg (by omega),if_pos (by first | assumption | (unfold za8 at *;assumption))];exact ⟨(CurAt.chg (CurAt.chg hC29_ hc30_ (by omega) (by omega)) hc31_ (by omega) (by omega)),hr4.mono (by omega) (by omega)⟩
 refine zdm zbO hv6_s27_c28 (Ext.refl w28_) λv82 o82=>?_;refine zbf zbO (hv4_c28.ext (Ext.refl w28_)) (o82.ext (Ext.refl w28_)) (by omega) λw32_ hc32_ hv4_s32=>?_;have σhc32_:=hc32_.size;have o69_c32:=(o69_c28.ext (Ext.refl w28_)).chg hc32_ (by omega);have o73_c32:=(o73_c28.ext (Ext.refl w28_)).chg hc32_ (by omega);have o74_c32:=(o74_c28.ext (Ext.refl w28_)).chg hc32_ (by omega);have hv6_s27_c32:=(hv6_s27_c28.ext (Ext.refl w28_)).chg hc32_ (by omega) (by omega);have o82_c32:=(o82.ext (Ext.refl w28_)).chg hc32_ (by omega);refine zbT zbO hv4_s32 (Ext.refl w32_) λr4 hr4=>?_
 replace hr4:=hr4.ext (Ext.refl w32_)
 refine ⟨(ChgI.out (ChgI.trans (ChgI.out (ChgI.trans (ChgI.trans (ChgI.trans (ChgI.trans (ChgI.trans (Ext.toI η1) hc2_) (Ext.toI η3)) hc24_) hc25_) (Ext.toI η26)) hc27_ (by omega)) hc28_) hc32_ (by omega)),?_⟩;rw [zh4 hK,zkP,if_neg (by omega),if_neg (by first | assumption | (unfold za8 at *;assumption))];exact ⟨(CurAt.chg hC28_ hc32_ (by omega) (by omega)),hr4.mono (by omega) (by omega)⟩
theorem zoE:∀ (n:Nat),n≤10→zpL n∧zso n
 | 0,hn=>by
   have h1:zpL 0:=λ{_ _ _ _ _ _} h hd=>zix h hd (λm hm=>absurd hm (by omega)) hn;exact ⟨h1,λ{_ _ _ _ _ _} h hd=>ziw h hd h1⟩
 | n+1,hn=>by
   have ih:=zoE n (by omega)
   have hm:∀ m,m+1=n+1→zso m:=λm hm=>by
     obtain rfl:m=n:=by omega
     exact ih.2
   have h1:zpL (n+1):=λ{_ _ _ _ _ _} h hd=>zix h hd hm hn;exact ⟨h1,λ{_ _ _ _ _ _} h hd=>ziw h hd h1⟩
end Go.Proofs.YtakjaofncelghaaGreat
namespace Go.Sh
open Rep (rep)
def RowG {α:Type} [Rep α] (F:List Nat) (e:TypeId) (w:World) (v:Value) (l:List α):Prop:=(∃ a,v=.slice a 0 0∧l=[]∧F=[])∨RowF F e w v l
section
variable {P:Program} {w w0 w':World} {α β γ:Type} [Rep α] [Rep β] {e lo hi:Nat} {v:Value} {l:List α} {F:List Nat}
theorem RowG.lt (h:RowG F e w v l):∀ b∈F,b<w.heap.size:=by
 rcases h with ⟨a,_,_,rfl⟩ | h
 · simp
 exact h.lt
theorem RowG.keep (h:RowG F e w v l) (hk:∀ b∈F,w'.heap[b]?=w.heap[b]?):RowG F e w' v l:=by
 rcases h with h | h
 · exact .inl h
 exact .inr (h.keep hk)
theorem RowG.own (h:RowG F e w v l):OwnF F w v l:=by
 rcases h with ⟨a,rfl,rfl,rfl⟩ | h
 · exact ⟨_,⟨a,0,[],[],rfl,lr _,z0 _,⟨rfl,rfl⟩,.inl ⟨rfl,rfl⟩⟩,rfl⟩
 exact h.own
theorem RowG.wr (h:RowG F e w v l):Wr F w:=by
 rcases h with ⟨a,_,_,rfl⟩ | h
 · exact Wr.nil w
 exact h.wr
theorem RowG.one (h:RowG F e w v l):v.oneCell'=true:=by
 obtain ⟨cs,⟨a,cap,Fi,xs,rfl,_⟩,rfl⟩:=h.own;rfl
theorem zfx:RowI lo hi e w v l↔∃ F,RowG F e w v l∧F.Nodup∧∀ b∈F,lo≤b∧b<hi:=by
 constructor
 · rintro (⟨a,h1,h2⟩ | ⟨F,h1,h2,h3⟩)
   · exact ⟨[],.inl ⟨a,h1,h2,rfl⟩,List.nodup_nil,by simp⟩
   exact ⟨F,.inr h1,h2,h3⟩
 rintro ⟨F,(⟨a,h1,h2,_⟩ | h1),h2',h3⟩
 · exact .inl ⟨a,h1,h2⟩
 exact .inr ⟨F,h1,h2',h3⟩
end
structure RV (α:Type) (e:TypeId) where
 v:Value
 l:List α
instance {α:Type} [Rep α] {e:TypeId}:Rep (RV α e) where
 size:=1
 agg:=false
 rep F w cs x:=cs=[x.v]∧RowG F e w x.v x.l
 pos:=by decide
 sz _:=rfl
 len:=by rintro _ _ _ _ ⟨rfl,_⟩;rfl
 one:=by rintro _ _ _ _ ⟨rfl,h⟩ v hv;simp at hv;subst hv;exact h.one
 keep:=by rintro _ _ _ _ _ ⟨rfl,h⟩ hk;exact ⟨rfl,h.keep hk⟩
 lt:=by rintro _ _ _ _ ⟨rfl,h⟩;exact h.lt
section
variable {P:Program} {w w0 w':World} {α β γ:Type} [Rep α] [Rep β] {e lo hi:Nat} {v:Value} {l:List α} {F:List Nat}
theorem zh5 (h:RowI lo hi e w v l):OwnI lo hi w v (⟨v,l⟩:RV α e):=by
 obtain ⟨F,h1,h2,h3⟩:=zfx.1 h;exact ⟨F,⟨⟨[v],⟨rfl,h1⟩,rfl⟩,h2,h1.wr⟩,h3⟩
theorem zku {x:RV α e} (h:Is w v x):v=x.v∧Is w x.v x.l:=by
 obtain ⟨F,cs,⟨rfl,h1⟩,hv⟩:=h;obtain ⟨cs,hr,hv'⟩:=h1.own;exact ⟨hv,F,cs,hr,hv'⟩
theorem ziT {t by_ b o:Nat} {x:RV α e} {K:Value→Prop} (ht:tyI P t=some (1,by_,false)) (h:At w0 b o x) (hx:Ext w0 w) (k:K x.v):RD P (Instr.loadAt t (.pointer (some ⟨b,o,none⟩))) w K:=
 zab (α:=RV α e) ht h hx λv hv=>by rw [(zku hv).1];exact k
theorem zw7 {k:Nat} (hm:RowG F e w v l) (hn:F.Nodup) (hk:k<l.length) :
   ∃ b a cap G,v=.slice (some ⟨b,a,none⟩) l.length cap∧Lens (λF w l=>RowG F e w v l∧F.Nodup) F w b (a+k*Rep.size α) G l[k] (λy=>l.set k y):=by
 rcases hm with ⟨a,_,rfl,_⟩ | hm
 · simp at hk
 have hwF:=hm.wr;obtain ⟨xs,Fi,ho,hc,rfl,hwi⟩:=hm;rcases ho.2 with ⟨_,h0⟩ | ⟨g,cap,cur,rfl,hb0,hg,h1,h2,h3,h4⟩
 · omega
 simp only [Value.ownBlock,Option.toList_some,List.cons_append,List.nil_append] at hn hwF ⊢;have hlx:=ho.1;have e0:l=l.take k++(l[k] :: l.drop (k+1)):=by simp
 have hc':=hc;rw [e0] at hc';obtain ⟨F1,F2',x1,x2',hFi,hxs,c1,c2'⟩:=Cells.split hc';obtain ⟨G,F2,cg,x2,rfl,rfl,hgr,c2⟩:=c2';subst hFi hxs;have hl1:x1.length=k*Rep.size α:=by rw [Cells.len c1,List.length_take];congr 1;omega
 have hlg:=Rep.len hgr;have hn':=hn;rw [List.nodup_cons] at hn;obtain ⟨hbn,hn⟩:=hn;rw [List.nodup_append] at hn;obtain ⟨hn1,hn2,hn3⟩:=hn;rw [List.nodup_append] at hn2;obtain ⟨hnG,hnF2,hn4⟩:=hn2
 have hrange:w.rangeAt g 0 (x1++(cg++x2)):=by
   intro j u hu;rw [←h4,List.getElem?_take] at hu;split at hu
   · simpa [World.cell?,hg] using hu
   cases hu
 obtain ⟨r1,r2⟩:=zaz hrange;obtain ⟨rg,r3⟩:=zaz r2;rw [hl1] at rg r3;refine ⟨g,0,cap,G,rfl,⟨cg,hgr,rg,hnG,hwi.sub (by simp +contextual),λh=>hbn (by simp [h]),cur,e,hg⟩,by simp +contextual,λw' G' y' hch hO hs=>?_⟩;obtain ⟨cg',hg',rg',hnG',hwG',hbG',hwb'⟩:=hO;have hlg':=Rep.len hg';obtain ⟨cur',hcur',hsame⟩:=hch.cell cur e hg
 have keep1:∀ c∈F1,w'.heap[c]?=w.heap[c]?:=λc hc1=>by
   refine hch.chg.block c (Cells.lt c1 c hc1) λhm=>?_;rcases List.mem_cons.1 hm with rfl | hm
   · exact hbn (by simp [hc1])
   exact hn3 c hc1 c (by simp [hm]) rfl
 have keep2:∀ c∈F2,w'.heap[c]?=w.heap[c]?:=λc hc1=>by
   refine hch.chg.block c (Cells.lt c2 c hc1) λhm=>?_;rcases List.mem_cons.1 hm with rfl | hm
   · exact hbn (by simp [hc1])
   exact hn4 c hm c hc1 rfl
 have hfit:k*Rep.size α+Rep.size α≤cur.size:=by
   rw [h3];have:=Nat.mul_le_mul_right (Rep.size α) (show k+1≤cap by omega);rw [Nat.add_mul,Nat.one_mul] at this;exact this
 have hcell':∀ j,j<cg'.length→cur'[0+k*Rep.size α+j]?=cg'[j]?:=by
   intro j hj;have:=rg' j cg'[j] (by simp [hj]);simpa [World.cell?,hcur',hj] using this
 have hpos:=Rep.pos (α:=α)
 have hsz':cur'.size=cur.size:=by
   rcases Nat.lt_trichotomy cur'.size cur.size with h | h | h
   · exfalso
     rcases Nat.lt_or_ge cur'.size (k*Rep.size α+Rep.size α) with h' | h'
     · have:=hcell' (Rep.size α-1) (by omega)
       rw [List.getElem?_eq_getElem (by omega)] at this;have:=(Array.getElem?_eq_some_iff.1 this).1;omega
     have:=hsame cur'.size (.inr (by omega));rw [Array.getElem?_eq_none (lr _),Array.getElem?_eq_getElem h] at this;cases this
   · exact h
   exfalso;have:=hsame cur.size (.inr (by omega));rw [Array.getElem?_eq_none (lr _),Array.getElem?_eq_getElem h] at this;cases this
 have hlset:(l.set k y').length=l.length:=by simp
 refine ⟨g :: (F1++(G'++F2)),⟨.inr ⟨x1++(cg'++x2),F1++(G'++F2),⟨?_,.inr ⟨g,cap,cur',by rw [hlset],hb0,hcur',by rw [hlset];exact h1,h2,by rw [hsz'];exact h3,?_⟩⟩,?_,rfl,?_⟩,zmx hn' hnG' hs⟩,?_⟩
 · rw [hlset]
   simp only [List.length_append] at hlx ⊢;omega
 · rw [hlset]
   apply List.ext_getElem?;intro j;have hjx:(cur.toList.take (l.length*Rep.size α))[j]?=(x1++(cg++x2))[j]?:=by rw [h4]
   rcases Nat.lt_or_ge j (l.length*Rep.size α) with hj | hj
   · rw [List.getElem?_take,if_pos hj] at hjx ⊢
     rcases Nat.lt_or_ge j (k*Rep.size α) with h' | h'
     · rw [Array.getElem?_toList,hsame j (.inl (by omega)),←Array.getElem?_toList,hjx,List.getElem?_append_left (by omega),List.getElem?_append_left (by omega)]
     rcases Nat.lt_or_ge j (k*Rep.size α+Rep.size α) with h'' | h''
     · rw [Array.getElem?_toList,List.getElem?_append_right (by omega),List.getElem?_append_left (by omega),hl1,←hcell' (j-k*Rep.size α) (by omega)]
       congr 1;omega
     rw [Array.getElem?_toList,hsame j (.inr (by omega)),←Array.getElem?_toList,hjx,List.getElem?_append_right (by omega),List.getElem?_append_right (by omega),List.getElem?_append_right (by omega),List.getElem?_append_right (by omega),hlg,hlg']
   rw [List.getElem?_take,if_neg (by omega),List.getElem?_eq_none];simp only [List.length_append] at hlx ⊢;omega
 · have:l.set k y'=l.take k++(y' :: l.drop (k+1)):=by rw [List.set_eq_take_append_cons_drop];simp [hk]
   rw [this];exact Cells.append (Cells.keep c1 keep1) ⟨G',F2,cg',x2,rfl,rfl,hg',Cells.keep c2 keep2⟩
 · exact ((hwi.sub (by simp +contextual)).keep keep1).append (hwG'.append ((hwi.sub (by simp +contextual)).keep keep2))
 intro c hcm;rcases List.mem_cons.1 hcm with rfl | hcm
 · exact .inl (by simp)
 rcases List.mem_append.1 hcm with hcm | hcm
 · exact .inl (by simp [hcm])
 rcases List.mem_append.1 hcm with hcm | hcm
 · exact .inr hcm
 exact .inl (by simp [hcm])
theorem Lens.elemV {H:List Nat→World→γ→Prop} {S:List Nat} {b o:Nat} {G:List Nat} {x:RV β e} {upd:RV β e→γ} (h:Lens H S w b o G x upd) {k:Nat} (hk:k<x.l.length) :
   ∃ b2 a cap G2,x.v=.slice (some ⟨b2,a,none⟩) x.l.length cap∧(∀ c∈b2 :: G2,c∈G)∧Lens H S w b2 (a+k*Rep.size β) G2 x.l[k] (λy=>upd ⟨x.v,x.l.set k y⟩):=by
 obtain ⟨⟨cs,⟨rfl,hrow⟩,hr,hn,hw,hb,hwb⟩,hsub,hback⟩:=h;obtain ⟨b2,a,cap,G2,hu,hL⟩:=zw7 hrow hn hk;have hG:∀ c∈G,c∈S:=λc hc=>hsub c (by simp [hc]);refine ⟨b2,a,cap,G2,hu,hL.sub,hL.here,λc hc=>hG c (hL.sub c hc),λw' G' y' hch hO hs=>?_⟩
 obtain ⟨F1,⟨hR1,hN1⟩,hF1⟩:=hL.back w' G' y' hch hO λc hc=>by
   rcases hs c hc with h | h
   · exact .inl h
   exact .inr λe=>h (hG c e)
 have hchG:Chg G w w':=hch.chg.mono hL.sub;have hbl:b<w.heap.size:=by obtain ⟨c,e,h⟩:=hwb;exact (Array.getElem?_eq_some_iff.1 h).1
 have hbk:w'.heap[b]?=w.heap[b]?:=hchG.block b hbl hb
 have hs1:∀ c∈F1,c∈G∨c∉S:=λc hc=>by
   rcases hF1 c hc with h | h
   · exact .inl h
   rcases hs c h with h | h
   · exact .inl (hL.sub c (by simp [h]))
   exact .inr h
 have hbF1:b∉F1:=λhm=>by
   rcases hs1 b hm with h | h
   · exact hb h
   exact h (hsub b (by simp))
 obtain ⟨F',hM',hF'⟩:=hback w' F1 ⟨x.v,x.l.set k y'⟩ ⟨hchG.mono (by simp +contextual),λc e hc=>⟨c,by rw [hbk];exact hc,λ_ _=>rfl⟩⟩
   ⟨[x.v],⟨rfl,hR1⟩,za2 hr hbk,hN1,hR1.wr,hbF1,by obtain ⟨c,e,h⟩:=hwb;exact ⟨c,e,by rw [hbk];exact h⟩⟩ hs1
 refine ⟨F',hM',λc hc=>?_⟩;rcases hF' c hc with h | h
 · exact .inl h
 rcases hF1 c h with h | h
 · exact .inl (hG c h)
 exact .inr h
theorem zpM {t te:TypeId} {by_:Nat} {H:List Nat→World→γ→Prop} {S:List Nat} {b o:Nat} {G:List Nat} {x:RV β e} {upd:RV β e→γ} {k:Nat} {K:Value→Prop} (ht:P.underlying t=some (.slice te)) (he:tyI P te=some (Rep.size β,by_,Rep.agg β)) (h:Lens H S w b o G x upd) (hk:k<x.l.length)
   (kk:∀ b2 o2 G2,Lens H S w b2 o2 G2 x.l[k] (λy=>upd ⟨x.v,x.l.set k y⟩)→K (.pointer (some ⟨b2,o2,none⟩))):RD P (Instr.indexAt t x.v (.int .i64 (k:Int))) w K:=by
 obtain ⟨b2,a,cap,G2,hv,_,hL⟩:=h.elemV hk;refine za3 (v:=.pointer (some ⟨b2,a+k*Rep.size β,none⟩)) (λw' _=>?_) (kk _ _ _ hL);rw [hv,zb2 ht he (by omega) (by omega)];simp
instance:RepZ (RV α e):=⟨⟨.slice none 0 0,[]⟩,[.slice none 0 0],λ_=>⟨rfl,.inl ⟨none,rfl,rfl,rfl⟩⟩⟩
end
end Go.Sh
namespace Go.Sh
open Rep (rep)
structure Raw where
 v:Value
instance:Rep Raw where
 size:=1
 agg:=false
 rep F _ cs x:=F=[]∧cs=[x.v]∧x.v.oneCell'=true
 pos:=by decide
 sz _:=rfl
 len:=by rintro _ _ _ _ ⟨_,rfl,_⟩;rfl
 one:=by rintro _ _ _ _ ⟨_,rfl,h⟩ v hv;simp at hv;subst hv;exact h
 keep:=by rintro _ _ _ _ _ h _;exact h
 lt:=by rintro _ _ _ _ ⟨rfl,_⟩ b hb;cases hb
section
variable {P:Program} {w w0 w' w1:World} {α β γ:Type} [Rep α] [Rep β] {e lo hi:Nat} {v:Value} {F G S:List Nat} {b o g:Nat}
theorem ChgAt.ext_left {n:Nat} (hx:Ext w w1) (h:ChgAt b o n G w1 w'):ChgAt b o n G w w':=
 ⟨(hx.chg _).trans h.chg,λc e hc=>h.cell c e (by rw [hx.heap (Array.getElem?_eq_some_iff.1 hc).1];exact hc)⟩
theorem OAt.ext {x:α} (h:OAt G w b o x) (hx:Ext w w1):OAt G w1 b o x:=h.keep λc hc=>hx.heap (h.lts c hc)
theorem Lens.ext {H:List Nat→World→γ→Prop} {y:β} {upd:β→γ} (h:Lens H S w b o G y upd) (hx:Ext w w1):Lens H S w1 b o G y upd:=
 ⟨h.here.ext hx,h.sub,λw' G' y' hch hO hs=>h.back w' G' y' (hch.ext_left hx) hO hs⟩
theorem zca {ft by_:Nat} {u:Value} {K:Value→Prop} (hft:tyI P ft=some (1,by_,false)) (hr:w.rangeAt b o [u]) (k:K u):RD P (Instr.loadAt ft (.pointer (some ⟨b,o,none⟩))) w K:=by
 refine za3 (λw' hx'=>?_) k;have h0:w'.cell? ⟨b,o,none⟩=some u:=by simpa using (zbF hr hx') 0 u rfl
 have hA:=zc1 hft w';simp [Instr.loadAt,Instr.sureAddr,loadVar,hA,h0]
theorem ziU {t by_:Nat} {u old:Value} {K:World→Prop} (ht:tyI P t=some (1,by_,false)) (hw:∃ c e,w.heap[b]?=some (.cells c e (0,0))) (hr:w.rangeAt b o [old]) (ho:old.oneCell'=true) (hu:u.oneCell'=true)
   (k:∀ w',ChgAt b o 1 [] w w'→w'.rangeAt b o [u]→K w'):OPU P (Instr.storeAt t (.pointer (some ⟨b,o,none⟩)) u) w K:=by
 refine zpr (β:=Raw) (G:=[]) (y:=⟨old⟩) (y':=⟨u⟩) (G':=[]) ht ⟨[old],⟨rfl,rfl,ho⟩,hr,List.nodup_nil,Wr.nil w,by simp,hw⟩ ⟨[u],⟨rfl,rfl,hu⟩,rfl⟩ List.nodup_nil (Wr.nil w) (by simp) λw' hc hO=>k w' hc ?_;obtain ⟨cs,⟨_,rfl,_⟩,hr',_⟩:=hO;exact hr'
theorem zga {t by_:Nat} {y y':β} {upd:β→α} {u:Value} {K:World→Prop} (ht:tyI P t=some (Rep.size β,by_,Rep.agg β)) (hL:Lens (VH g) (g :: F) w b o G y upd) (hF:∀ b∈F,lo≤b∧b<hi) (hg:lo≤g∧g<hi) (hu:Mine [] w u y')
   (k:∀ w',ChgI lo hi w w'→VarI lo hi w' g (upd y')→K w'):OPU P (Instr.storeAt t (.pointer (some ⟨b,o,none⟩)) u) w K:=by
 refine ziK ht hL hu (by simp) λw' hc ⟨F',h1,h2⟩=>k w' (hc.toI λc hcm=>?_) ⟨F',h1,λc hcm=>?_⟩
 · rcases List.mem_cons.1 hcm with rfl | hcm
   · exact hg
   exact hF c hcm
 rcases h2 c hcm with h | h
 · rcases List.mem_cons.1 h with rfl | h
   · obtain ⟨_,_,_,_,_,hn,_⟩:=h1;exact absurd hcm hn
   exact hF c h
 simp at h
theorem VarI.mono {lo' hi':Nat} {x:α} (h:VarI lo hi w g x) (h1:lo'≤lo) (h2:hi≤hi'):VarI lo' hi' w g x:=by
 obtain ⟨F,h,hF⟩:=h;exact ⟨F,h,λb hb=>by have:=hF b hb;omega⟩
theorem zpN:∀ {l:List (RV α e)} {F:List Nat} {xs:List Value},Cells F w xs l→Cells F w xs (l.map RV.l)
 | [],_,_,h=>h
 | x :: l,_,_,⟨F1,F2,c1,c2,hF,h,⟨hc,h1⟩,h2⟩=>by
   obtain ⟨cs,hr,hv⟩:=h1.own
   have:cs=[x.v]:=by
     obtain ⟨a,cap,Fi,xs,rfl,_⟩:=hr;rw [hv];rfl
   subst this;exact ⟨F1,F2,c1,c2,hF,h,by rw [hc];exact hr,zpN h2⟩
theorem zvg {e2:TypeId} {cs:List Value} {x:RV (RV α e) e2} (h:rep F w cs x):rep F w cs (x.l.map RV.l):=by
 obtain ⟨rfl,h⟩:=h;obtain ⟨cs,⟨a,cap,Fi,xs,rfl,h1,h2,hc,h4⟩,hv⟩:=h.own;have hvv:x.v=.slice a x.l.length cap:=hv;rw [hvv];refine ⟨a,cap,Fi,xs,by simp,by simpa using h1,h2,zpN hc,?_⟩;rcases h4 with ⟨h4,h5⟩ | h4
 · exact .inl ⟨by simp [h4],h5⟩
 exact .inr h4
theorem zd9 {t ty:TypeId} {by_:Nat} {u:Value} {x:β} {l:List β} {GX:List Nat} {K:World→Value→World→Prop} {C:Value→World→Prop} (ht:P.underlying t=some (.slice e)) (he:tyI P e=some (Rep.size β,by_,Rep.agg β)) (hz:zbX P e=true)
   (hzc:(P.info? e).map (λi=>(i.zero.map (·.cells.size)))=some (some (Rep.size β))) (hsz:Rep.size β≤1000) (hv:RowG G e w v l) (hn:G.Nodup) (hx:Mine GX w u x) (hd:∀ c∈GX,c∉G) (hm:l.length+1≤maxLen) (hb:(l.length+1)*by_≤140737488355328)
   (k:∀ w1 v' w' G',Ext w w1→Chg G w1 w'→RowG G' e w' v' (l++[x])→G'.Nodup→(∀ c∈G',c∈G∨c∈GX∨w.heap.size≤c)→K w1 v' w')
   (hC:∀ s w1,Ext w w1→OP P (Builtin.append_ #[t,t] ty [v,s].toArray) w1 (K w1)→C s w1):OP P (Instr.buildSlice t 1 #[(0,u)]) w C:=by
 refine zg8 ht he hz hsz hx λw1 hx1 hm1=>?_;obtain ⟨⟨cs,⟨a,cap,Fi,xs,rfl,h1,h2,hc,h4⟩,hveq⟩,hn1,hw1⟩:=hm1;simp only [mkv,Rep.agg,cond_false,List.headD_cons,Value.slice.injEq,List.length_cons,List.length_nil] at hveq;obtain ⟨rfl,_,rfl⟩:=hveq;rcases h4 with ⟨h4,_⟩ | ⟨b,o,hab,hFe,hra,hbl⟩
 · simp at h4
 simp only [List.cons.injEq] at hFe;obtain ⟨_,rfl⟩:=hFe;refine hC _ w1 hx1 ?_
 have key:∀ (v:Value) (F:List Nat),RowF F e w v l→F.Nodup→(∀ c∈F,c∈G)→OP P (Builtin.append_ #[t,t] ty [v,.slice (some ⟨w.heap.size,0,none⟩) 1 1].toArray) w1 (K w1):=by
   intro v F hF hFn hFG;have hF1:=hF.ext hx1
   have hdd:(GX++F).Nodup:=by
     rw [List.nodup_append];exact ⟨hx.nodup,hFn,λp hp q hq e=>hd p hp (hFG _ (e▸hq))⟩
   refine ze1 (m:=[x]) ht he hzc hF1 hFn rfl hc (.inr ⟨b,o,hab,hra⟩) (hw1.sub (by simp +contextual)) hdd (by simpa using hm) (by simpa using hb) λv' w' F' hch hfull hr' hn' hs'=>?_
   have hown:∀ c∈v.ownBlock.toList,c∈G:=λc hc=>by
     obtain ⟨xs,Fi,_,_,rfl,_⟩:=hF;exact hFG c (by simp only [List.mem_append];exact .inl hc)
   refine k w1 v' w' F' hx1 (hch.mono hown) (.inr hr') hn' λc hc=>?_;rcases hs' c hc with h | h | h
   · exact .inl (hFG c h)
   · exact .inr (.inl h)
   exact .inr (.inr (Nat.le_trans hx1.size h))
 rcases hv with ⟨a0,rfl,rfl,rfl⟩ | hF
 · have kn:=key (.slice none 0 0) [] (zg7 e w) List.nodup_nil (by simp)
   cases a0 with
   | none=>exact kn
   | some x0=>
     simp only [Option.some.injEq,Addr.mk.injEq] at hab;obtain ⟨rfl,rfl,_⟩:=hab;exact ziM (zfr (α:=β) (n:=1) ht he hzc (by simpa using Cells.len hc) hra (by omega) (by rw [zak];omega) (by simpa using hb)) kn
 exact key v G hF hn (λ_ h=>h)
theorem zgb {t by_:Nat} {x:RV β e} {upd:RV β e→α} {w2:World} {v':Value} {l':List β} {G':List Nat} {K:World→Prop} (ht:tyI P t=some (1,by_,false)) (hL:Lens (VH g) (g :: F) w b o G x upd) (hlt:∀ c∈g :: F,c<w.heap.size) (hc:Chg G w w2)
   (hR:RowG G' e w2 v' l') (hN:G'.Nodup) (hs:∀ c∈G',c∈G∨w.heap.size≤c)
   (k:∀ w3,Chg (b :: G) w w3→(∃ F',OAt F' w3 g 0 (upd ⟨v',l'⟩)∧∀ c∈F',c∈g :: F∨w.heap.size≤c)→K w3):OPU P (Instr.storeAt t (.pointer (some ⟨b,o,none⟩)) v') w2 K:=by
 obtain ⟨cs,⟨rfl,hrow⟩,hr,hn,hw,hb,hwb⟩:=hL.here;have hbl:b<w.heap.size:=hlt b (hL.sub b (by simp));have hbk:w2.heap[b]?=w.heap[b]?:=hc.block b hbl hb;have hwb2:∃ c e,w2.heap[b]?=some (.cells c e (0,0)):=by obtain ⟨c,e,h⟩:=hwb;exact ⟨c,e,by rw [hbk];exact h⟩
 have hbG':b∉G':=λhm=>by
   rcases hs b hm with h | h
   · exact hb h
   omega
 refine ziU ht hwb2 (za2 hr hbk) hrow.one hR.one λw3 hc3 hr3=>?_
 have hcat:ChgAt b o 1 G w w3:=by
   refine ⟨(hc.mono (by simp +contextual)).trans (hc3.chg.mono (by simp +contextual)),λc e hcc=>?_⟩;obtain ⟨c',h1,h2⟩:=hc3.cell c e (by rw [hbk];exact hcc);exact ⟨c',h1,h2⟩
 have hkeep:∀ c∈G',w3.heap[c]?=w2.heap[c]?:=λc hcm=>hc3.chg.block c (hR.lt c hcm) (by simp;exact λe=>hbG' (e▸hcm));obtain ⟨c',e',hc'⟩:=hwb2;obtain ⟨c'',hc'',_⟩:=hc3.cell c' e' hc'
 obtain ⟨F',h1,h2⟩:=hL.back w3 G' ⟨v',l'⟩ hcat ⟨[v'],⟨rfl,hR.keep hkeep⟩,hr3,hN,(hR.keep hkeep).wr,hbG',c'',e',hc''⟩ λc hcm=>by
   rcases hs c hcm with h | h
   · exact .inl h
   exact .inr λhm=>by have:=hlt c hm;omega
 refine k w3 hcat.chg ⟨F',h1,λc hcm=>?_⟩;rcases h2 c hcm with h | h
 · exact .inl h
 rcases hs c h with h | h
 · exact .inl (hL.sub c (by simp [h]))
 exact .inr h
theorem zbE {t:TypeId} {by_:Nat} {u:Value} {x:β} {K:Value→World→Prop} (ht:P.underlying t=some (.slice e)) (he:tyI P e=some (Rep.size β,by_,Rep.agg β)) (hz:zbX P e=true) (hsz:Rep.size β≤1000) (hx:Mine [] w u x)
   (k:∀ v w',Ext w w'→RowI w.heap.size w'.heap.size e w' v [x]→K v w'):OP P (Instr.buildSlice t 1 #[(0,u)]) w K:=by
 obtain ⟨⟨cs,hr,rfl⟩,hn,hw⟩:=hx;have hcl:=zek hr;have hlen:=Rep.len hr;have hvs:(mkv β cs).cells.size=Rep.size β:=by rw [←Array.length_toList,hcl,hlen]
 obtain ⟨i,d,hi,hd,hs,hby,hg⟩:=zc5 he;unfold zbX at hz;rw [hi] at hz;obtain ⟨z,hz⟩:=Option.isSome_iff_exists.1 hz;have hpos:=Rep.pos (α:=β);refine ⟨_,w.alloc (.cells (mkv β cs).cells e),?_,k (.slice (some ⟨w.heap.size,0,none⟩) 1 1) _ (zaP w _) (.inr ⟨[w.heap.size],⟨cs,[],⟨by simp [hlen],.inr ⟨w.heap.size,1,(mkv β cs).cells,rfl,z0 _,heap_alloc_new w _,lr _,by rw [zak];omega,by rw [hvs,Nat.one_mul],?_⟩⟩,Cells.single (zb8 hr (zaP w _)),rfl,Wr.nil _⟩,by simp,?_⟩)⟩
 · have hne:¬Rep.size β=0:=by omega
   have h24:¬2^24<Rep.size β:=by omega
   simp only [Instr.buildSlice,Sem.run_bind,run_underlying ht,Result.andThen_ok,zaM he,Nat.one_mul];simp [h24,hne,zeroValue,typeInfo,hi,hz,zpA _ _ _ hvs,newRow]
 · rw [hcl,List.length_singleton,Nat.one_mul,List.take_of_length_le (by omega)]
 intro b hb;simp only [List.mem_cons,List.not_mem_nil,or_false] at hb;subst hb;exact ⟨Nat.le_refl _,(Array.getElem?_eq_some_iff.1 (heap_alloc_new w _)).1⟩
theorem Ext.toX {X:Nat→Prop} (h:Ext w w'):ExtX X w w':=⟨h.os,h.tape,h.output,h.size,λb hb _=>h.block b hb⟩
theorem Chg.toX {X:Nat→Prop} (h:Chg G w w') (hX:∀ c∈G,X c):ExtX X w w':=⟨h.os,h.tape,h.output,h.size,λb hb hn=>h.block b hb λhm=>hn (hX b hm)⟩
theorem zdv {X:Nat→Prop} {m:Sem Value} {K:Value→Prop} (hX:∀ b,X b→w0.heap.size≤b) (hx:Ext w0 w) (h:RD P m w0 K):RDX P X m w K:=by
 obtain ⟨v,h1,h2⟩:=h;exact ⟨v,λw' hw=>h1 w' ⟨hw.os.trans hx.os,hw.tape.trans hx.tape,hw.output.trans hx.output,Nat.le_trans hx.size hw.size,λb hb=>(hw.block b (Nat.lt_of_lt_of_le hb hx.size) λhXb=>by have:=hX b hXb;omega).trans (hx.block b hb)⟩,h2⟩
theorem zet {X:Nat→Prop} {t i off:Nat} {K:Value→Prop} (hf:zd0 P t i=some off) (k:K (.pointer (some ⟨b,o+off,none⟩))):RDX P X (Instr.fieldAt t (.pointer (some ⟨b,o,none⟩)) i) w K:=by
 obtain ⟨v,h1,h2⟩:=zaa (P:=P) (w:=w) (K:=λv=>∀ w':World,(Instr.fieldAt t (.pointer (some ⟨b,o,none⟩)) i).run P w'=.ok v w'∧v=.pointer (some ⟨b,o+off,none⟩)) hf (λw'=>by
   obtain ⟨v,h1,h2⟩:=zaa (P:=P) (w:=w') (b:=b) (o:=o) (K:=λv=>v=.pointer (some ⟨b,o+off,none⟩)) hf rfl;subst h2;exact ⟨h1 w' (Ext.refl w'),rfl⟩)
 refine ⟨v,λw' _=>(h2 w').1,?_⟩;rw [(h2 w).2];exact k
theorem zeI {X:Nat→Prop} {ft by_:Nat} {u:Value} {K:Value→Prop} (hft:tyI P ft=some (1,by_,false)) (hr:w.rangeAt b o [u]) (hX:¬X b) (k:K u):RDX P X (Instr.loadAt ft (.pointer (some ⟨b,o,none⟩))) w K:=by
 refine ⟨u,λw' hx'=>?_,k⟩;have hb:=zhI hr (by simp);have h0:w'.cell? ⟨b,o,none⟩=some u:=by simpa using (za2 hr (hx'.block b hb hX)) 0 u rfl
 have hA:=zc1 hft w';simp [Instr.loadAt,Instr.sureAddr,loadVar,hA,h0]
theorem zsp {x:Int} (h:At w b o x):w.rangeAt b o [.int .i64 x]:=by
 obtain ⟨F,cs,⟨_,rfl,_⟩,hr⟩:=h;exact hr
end
end Go.Sh
namespace Go.Sh
open Rep (rep)
theorem ChgI.toC {g:Nat} {w w':World} (h:ChgI g (g+1) w w'):Chg [g] w w':=⟨h.os,h.tape,h.output,h.size,λi hi hn=>h.block i hi (by simp only [List.mem_singleton] at hn;omega)⟩
theorem Ext.chgL {F:List Nat} {W w w':World} (h:Ext W w) (k:Chg F w w') (hl:∀ c∈F,W.heap.size≤c):Ext W w':=
 ⟨k.os.trans h.os,k.tape.trans h.tape,k.output.trans h.output,Nat.le_trans h.size k.size,λi hi=>(k.block i (Nat.lt_of_lt_of_le hi h.size) λe=>by have:=hl i e;omega).trans (h.block i hi)⟩
theorem Mine.chgF {α:Type} [Rep α] {F G:List Nat} {w w':World} {v:Value} {x:α} (h:Mine F w v x) (hc:Chg G w w') (hd:∀ c∈F,c∉G):Mine F w' v x:=h.keep λc hcm=>hc.block c (h.lt c hcm) (hd c hcm)
def IsK {α:Type} [Rep α] (lo hi:Nat) (w:World) (v:Value) (x:α):Prop:=hi≤w.heap.size∧∀ w':World,(∀ b,lo≤b→b<hi→w'.heap[b]?=w.heap[b]?)→Is w' v x
section
variable {α:Type} [Rep α] {lo hi:Nat} {w w':World} {v:Value} {x:α}
theorem IsK.is (h:IsK lo hi w v x):Is w v x:=h.2 w λ_ _ _=>rfl
theorem IsK.chgF {G:List Nat} (h:IsK lo hi w v x) (hc:Chg G w w') (hd:∀ c∈G,c<lo∨hi≤c):IsK lo hi w' v x:=
 ⟨Nat.le_trans h.1 hc.size,λw2 h2=>h.2 w2 λb h3 h4=>(h2 b h3 h4).trans (hc.block b (Nat.lt_of_lt_of_le h4 h.1) λhm=>by have:=hd b hm;omega)⟩
theorem OwnI.isK (h:OwnI lo hi w v x) (hh:hi≤w.heap.size):IsK lo hi w v x:=by
 obtain ⟨F,hm,hF⟩:=h
 exact ⟨hh,λw' hw=>⟨F,by
   obtain ⟨cs,hr,hv⟩:=hm.own;exact ⟨cs,Rep.keep hr λb hb=>hw b (hF b hb).1 (hF b hb).2,hv⟩⟩⟩
theorem IsK.take {l:List α} {a:Option Addr} {cap k:Nat} (h:IsK lo hi w (.slice a l.length cap) l) (hk:k≤l.length):IsK lo hi w (.slice a k cap) (l.take k):=⟨h.1,λw' hw=>zov (h.2 w' hw) k hk⟩
theorem IsK.drop {l:List α} {a:Option Addr} {cap k:Nat} (h:IsK lo hi w (.slice a l.length cap) l) (hk:k≤l.length):IsK lo hi w (.slice (if cap=k then a else a.map (·.add (k*Rep.size α))) (l.length-k) (cap-k)) (l.drop k):=⟨h.1,λw' hw=>zod (h.2 w' hw) k hk _ rfl⟩
end
end Go.Sh
namespace Go.Proofs.YtakjaofncelghaaGreat
open Go Go.Sh Go.Proofs
open Rep (rep)
def F131 (a0 a1 a2:Value) (w:World) (R:VW):Prop:=
 LOOPI [7] [(iV 0)] w λu2 w n2=>
 rN 158 3 a1 w λx10=>
 rC (u2 7) x10 w λx11=>
 BR x11
 (JOIN [] (λJ6=>
 rX 158 a1 (u2 7) w λx16=>
 rF 166 x16 0 w λx17=>
 rL 3 x17 w λx18=>
 rQ x18 (iV 4) w λx19=>
 BR x19
 (rN 24 3 a2 w λx33=>
 cL 35 [a0,x33] w λx34 w=>
 rX 24 a2 x34 w λx35=>
 rL 9 x35 w λx36=>
 rX 158 a1 (u2 7) w λx37=>
 rF 166 x37 1 w λx38=>
 oS 9 x38 x36 w λw=>
 J6 [] w)
 (rX 158 a1 (u2 7) w λx23=>
 rF 166 x23 0 w λx24=>
 rL 3 x24 w λx25=>
 rQ x25 (iV 5) w λx26=>
 BR x26
 (rN 24 3 a2 w λx33=>
 cL 35 [a0,x33] w λx34 w=>
 rX 24 a2 x34 w λx35=>
 rL 9 x35 w λx36=>
 rX 158 a1 (u2 7) w λx37=>
 rF 166 x37 1 w λx38=>
 oS 9 x38 x36 w λw=>
 J6 [] w)
 (J6 [] w))) (λu6 w=>
 rX 158 a1 (u2 7) w λx44=>
 rF 166 x44 3 w λx45=>
 rL 158 x45 w λx46=>
 cL 131 [a0,x46,a2] w λx48 w=>
 rX 158 a1 (u2 7) w λx49=>
 rF 166 x49 3 w λx50=>
 oS 158 x50 x48 w λw=>
 rX 158 a1 (u2 7) w λx56=>
 rF 166 x56 4 w λx57=>
 rL 158 x57 w λx58=>
 cL 131 [a0,x58,a2] w λx60 w=>
 rX 158 a1 (u2 7) w λx61=>
 rF 166 x61 4 w λx62=>
 oS 158 x62 x60 w λw=>
 rI (u2 7) w λx13=>
 n2 [x13] w))
 (R a1 w)
theorem F131_call {a0 a1 a2 w R} (h:F131 a0 a1 a2 w R):cL 131 [a0,a1,a2] w R:=co (g:=(kf [(6,549755797504,[])] [(2,9223372036854775680,[7])] [])) Tryz.func131 h
theorem CurAt.chgF {W w w':World} {g:Nat} {bs:List UInt8} {s:Cur} {F:List Nat} (h:CurAt W g bs s w) (hc:Chg F w w') (hg:g∉F) (hl:∀ c∈F,W.heap.size≤c):CurAt W g bs s w':=by
 obtain ⟨v,h0,hx,h2,h3,h4⟩:=h;exact ⟨v,h0,hx.chgL hc hl,h2,h3.chg hc hg,h4⟩
theorem zpO {a:Prop} [Decidable a] {Q kt kf:Prop} (hq:a→Q) (key:Q→kt) (rest:(Q→kt)→¬a→kf):BR (.bool (decide a)) kt kf:=br (λh=>key (hq h)) λh=>rest key h
theorem zvY {γ β:Type} [Rep γ] [Rep β] {w w2:World} {v u:Value} {F G G2:List Nat} {g:Nat} {m2:List β} {upd:List β→γ}
   (hb:∀ w' G' l',Chg G w w'→Mine G' w' u l'→(∀ c∈G',c∈G∨c∉F)→∃ F',MH v F' w' (upd l')∧∀ c∈F',c∈F∨c∈G') (hGF:∀ c∈G,c∈F) (hc:Chg (g :: G) w w2) (hg:g∉F) (hgl:g<w.heap.size)
   (hM2:Mine G2 w2 u m2) (hs:∀ c∈G2,c∈G):∃ F',Mine F' w2 v (upd m2)∧∀ c∈F',c∈F:=by
 obtain ⟨w3,h3⟩:∃ w3:World,w3={ w2 with heap:=w2.heap.setIfInBounds g w.heap[g] }:=⟨_,rfl⟩;have hgl2:g<w2.heap.size:=Nat.lt_of_lt_of_le hgl hc.size
 have hne:∀ c,c≠g→w3.heap[c]?=w2.heap[c]?:=λc hcg=>by
   rw [h3];exact Array.getElem?_setIfInBounds_ne (λe=>hcg e.symm)
 have heq:w3.heap[g]?=w.heap[g]?:=by
   rw [h3];show (w2.heap.setIfInBounds g w.heap[g])[g]?=_;rw [Array.getElem?_setIfInBounds_self_of_lt hgl2,Array.getElem?_eq_getElem hgl]
 have hsz:w3.heap.size=w2.heap.size:=by rw [h3];simp
 have hc3:Chg G w w3:=⟨by rw [h3];exact hc.os,by rw [h3];exact hc.tape,by rw [h3];exact hc.output,by rw [hsz];exact hc.size,λc hcl hcG=>by
   by_cases e:c=g
   · rw [e];exact heq
   rw [hne c e];exact hc.block c hcl (by simp [e,hcG])⟩
 have hgG2:∀ c∈G2,c≠g:=λc hcm e=>hg (by rw [←e];exact hGF c (hs c hcm));obtain ⟨F',h1,h2⟩:=hb w3 G2 m2 hc3 (hM2.keep λc hcm=>hne c (hgG2 c hcm)) λc hcm=>.inl (hs c hcm);have hF':∀ c∈F',c∈F:=λc hcm=>(h2 c hcm).elim id λh=>hGF c (hs c h);refine ⟨F',Mine.keep h1 λc hcm=>(hne c λe=>hg (by rw [←e];exact hF' c hcm)).symm,hF'⟩
theorem zmY {P:Program} {w:World} {α:Type} [Rep α] {t e:TypeId} {by_:Nat} {F:List Nat} {v:Value} {l:List α} {k:Nat} {K:Value→Prop} (ht:P.underlying t=some (.slice e)) (he:tyI P e=some (Rep.size α,by_,Rep.agg α)) (hm:Mine F w v l) (hk:k<l.length)
   (kk:∀ b a cap G,v=.slice (some ⟨b,a,none⟩) l.length cap→Lens (MH v) F w b (a+k*Rep.size α) G l[k] (λy=>l.set k y)→K (.pointer (some ⟨b,a+k*Rep.size α,none⟩))):RD P (Instr.indexAt t v (.int .i64 (k:Int))) w K:=by
 obtain ⟨b,a,cap,G,hv,hL⟩:=ztX hm hk;refine za3 (v:=.pointer (some ⟨b,a+k*Rep.size α,none⟩)) (λw' _=>?_) (kk _ _ _ _ hv hL);rw [hv,zb2 ht he (by omega) (by omega)];simp
theorem zlL {α:Type} {D r:List α} {x y:α} {k:Nat} (h:D.length=k):(D++x :: r).set k y=D++y :: r:=by
 subst h;rw [List.set_append_right _ _ (lr _)];simp
theorem zh6 {α:Type} {D r:List α} {x:α} {k:Nat} (h:D.length=k) (hk:k<(D++x :: r).length):(D++x :: r)[k]=x:=by
 subst h;simp
def zoF (l:List DStmt):Prop:=∀ {W w:World} {g:Nat} {bs:List UInt8} {s:Cur} {v vp:Value} {F:List Nat} {lp hp:Nat} {pr:List ByteArray},CurAt W g bs s w→Mine F w v l→g∉F→(∀ c∈F,W.heap.size≤c)→IsK lp hp w vp pr→(g<lp∨hp≤g)→(∀ c∈F,c<lp∨hp≤c)→0<pr.length→pr.length≤1000 →
 CALL tp 131 [.pointer (some ⟨g,0,none⟩),v,vp] w λr w'=>r=v∧Chg (g :: F) w w'∧CurAt W g bs (zd8 bs pr l s).2 w'∧∃ F',Mine F' w' v (zd8 bs pr l s).1∧∀ c∈F',c∈F
theorem zsq {fld off:Nat} {sel:DStmt→List DStmt} {put:DStmt→List DStmt→DStmt} (hfd:zd0 tp 166 fld=some off) (hpp:∀ x m m',put (put x m) m'=put x m') (hsp:∀ x m,sel (put x m)=m)
   (hl:∀ {H:List Nat→World→List DStmt→Prop} {F:List Nat} {w:World} {b o:Nat} {G:List Nat} {x:DStmt} {upd:DStmt→List DStmt},Lens H F w b o G x upd→∃ G1,Lens H F w b (o+off) G1 (sel x) (λy=>upd (put x y)))
   {W w:World} {g k:Nat} {bs:List UInt8} {s:Cur} {v vp:Value} {F:List Nat} {lp hp:Nat} {pr:List ByteArray} {D r:List DStmt} {y:DStmt} {K:World→Prop} (hC:CurAt W g bs s w) (hM:Mine F w v (D++y :: r)) (hD:D.length=k) (hgF:g∉F) (hFW:∀ c∈F,W.heap.size≤c)
   (hP:IsK lp hp w vp pr) (hgP:g<lp∨hp≤g) (hFP:∀ c∈F,c<lp∨hp≤c) (hp0:0<pr.length) (hp1:pr.length≤1000) (ih:zoF (sel y))
   (kk:∀ w' F',Chg (g :: F) w w'→CurAt W g bs (zd8 bs pr (sel y) s).2 w'→Mine F' w' v (D++put y (zd8 bs pr (sel y) s).1 :: r)→(∀ c∈F',c∈F)→IsK lp hp w' vp pr→K w') :
   RD tp (Instr.indexAt 158 v (.int .i64 (k:Int))) w λx44=>RD tp (Instr.fieldAt 166 x44 fld) w λx45=>RD tp (Instr.loadAt 158 x45) w λx46=>
     CALL tp 131 [.pointer (some ⟨g,0,none⟩),x46,vp] w λx48 w=>RD tp (Instr.indexAt 158 v (.int .i64 (k:Int))) w λx49=>RD tp (Instr.fieldAt 166 x49 fld) w λx50=>
     OPU tp (Instr.storeAt 158 x50 x48) w λw=>K w:=by
 have hkl:k<(D++y :: r).length:=by simp;omega
 refine zmY ze5 zbO hM hkl λb a cap G hv hL=>?_;rw [zh6 hD hkl] at hL;obtain ⟨G3,hL3⟩:=hl hL;obtain ⟨cs3,_,_,_,_,hb3,_⟩:=hL3.here;have hbF:b∈F:=hL3.sub b (by simp);obtain ⟨ub,hMb,hrb,hGb,hbb⟩:=hL3.row;have hgl:=hC.lt.2;refine zaa hfd ?_;refine zca zdp hrb ?_;refine (ih hC hMb (λh=>hgF (hGb _ h)) (λc hc=>hFW c (hGb c hc)) hP hgP (λc hc=>hFP c (hGb c hc)) hp0 hp1).mono ?_;rintro r48 w3 ⟨h48,hc3,hC3,Gb',hMb',hGb'⟩;rw [h48];obtain ⟨F3,hM3,hF3⟩:=zvY hbb hGb hc3 hgF hgl hMb' hGb';rw [zlL hD] at hM3
 have hP3:=hP.chgF hc3 λc hc=>by
   rcases List.mem_cons.1 hc with rfl | h
   · exact hgP
   exact hFP c (hGb c h)
 have hkl3:k<(D++put y (zd8 bs pr (sel y) s).1 :: r).length:=by simp;omega
 refine zmY ze5 zbO hM3 hkl3 λb5 a5 cap5 G5 hv5 hL5=>?_;rw [zh6 hD hkl3] at hL5
 have hba:b5=b∧a5=a:=by
   rw [hv] at hv5;simp only [Value.slice.injEq,Option.some.injEq,Addr.mk.injEq,and_true] at hv5;exact ⟨hv5.1.1.symm,hv5.1.2.symm⟩
 obtain ⟨rfl,rfl⟩:=hba;obtain ⟨G6,hL6⟩:=hl hL5;obtain ⟨u6,hM6,hr6,hG6,_⟩:=hL6.row
 have hbk:w3.heap[b5]?=w.heap[b5]?:=hc3.block b5 (hM.lt b5 hbF) (by
   simp only [List.mem_cons,not_or];exact ⟨λe=>hgF (by rw [←e];exact hbF),hb3⟩)
 have hu6:u6=ub:=by
   have h1:=hr6 0 u6 rfl;have h2:=(za2 hrb hbk) 0 ub rfl;rw [h1] at h2;exact Option.some.inj h2
 subst hu6;refine zaa hfd ?_;refine ziK zdp hL6 hM6 (λc hc=>.inl hc) λw4 hc4 ⟨F4,hM4,hF4⟩=>?_;have hM4:Mine F4 w4 v ((D++put y (zd8 bs pr (sel y) s).1 :: r).set k (put (put y (zd8 bs pr (sel y) s).1) (sel (put y (zd8 bs pr (sel y) s).1)))):=hM4;rw [zlL hD,hpp,hsp] at hM4;refine kk w4 F4 ((hc3.mono λc hc=>?_).trans (hc4.mono λc hc=>by simp [hF3 c hc])) (hC3.chgF hc4 (λh=>hgF (hF3 _ h)) λc hc=>hFW c (hF3 c hc)) hM4 (λc hc=>?_) (hP3.chgF hc4 λc hc=>hFP c (hF3 c hc))
 · rcases List.mem_cons.1 hc with rfl | hc
   · simp
   simp [hGb c hc]
 rcases hF4 c hc with h | h
 · exact hF3 c h
 exact hF3 c (hG6 c h)
theorem zvZ {bs:List UInt8} {pr:List ByteArray} (x:DStmt) (s:Cur) {n:ByteArray} {s2:Cur} (h:(if x.kind=4∨x.kind=5 then (zcM bs pr s,zam bs (pr.length:Int) s) else (x.name,s))=(n,s2)) :
   zoA bs pr x s=(.mk x.kind n x.term (zd8 bs pr x.body s2).1 (zd8 bs pr x.els (zd8 bs pr x.body s2).2).1,(zd8 bs pr x.els (zd8 bs pr x.body s2).2).2):=by
 obtain ⟨k,nm,t,b,e⟩:=x;have h:(if k=4∨k=5 then (zcM bs pr s,zam bs (pr.length:Int) s) else (nm,s))=(n,s2):=h;show _=(DStmt.mk k n t (zd8 bs pr b s2).1 (zd8 bs pr e (zd8 bs pr b s2).2).1,(zd8 bs pr e (zd8 bs pr b s2).2).2);by_cases hk:k=4∨k=5
 · rw [if_pos hk] at h
   simp only [Prod.mk.injEq] at h;obtain ⟨rfl,rfl⟩:=h;rw [zoA,if_pos hk]
 rw [if_neg hk] at h;simp only [Prod.mk.injEq] at h;obtain ⟨rfl,rfl⟩:=h;rw [zoA,if_neg hk]
def zxJ (x:DStmt) (m:List DStmt):DStmt:=.mk x.kind x.name x.term m x.els
def zxW (x:DStmt) (m:List DStmt):DStmt:=.mk x.kind x.name x.term x.body m
theorem zgM {l:List DStmt} (ih:∀ x∈l,zoF x.body∧zoF x.els):zoF l:=by
 intro W w g bs s v vp F lp hp pr hC hM hgF hFW hP hgP hFP hp0 hp1;have hln:=zah hM.is;refine F131_call ?_;unfold F131
 refine zat l.length (λk us w'=>us=[.int .i64 (k:Int)]∧∃ (D:List DStmt) (s1:Cur) (F1:List Nat),D.length=k∧k≤l.length∧zd8 bs pr l s=(D++(zd8 bs pr (l.drop k) s1).1,(zd8 bs pr (l.drop k) s1).2)∧Chg (g :: F) w w'∧CurAt W g bs s1 w' ∧
     Mine F1 w' v (D++l.drop k)∧(∀ c∈F1,c∈F)∧IsK lp hp w' vp pr) 0 (z0 _) ⟨rfl,[],s,F,rfl,z0 _,by simp,Chg.refl _ _,hC,by simpa using hM,λ_ h=>h,hP⟩ ?_
 rintro k m u w1 hkm ⟨hu,D,s1,F1,hD,hkl,hfx,hc1,hC1,hM1,hF1,hP1⟩;try replace hu:=zbG hu
 rw [hu];refine zae ze5 hM1.is ?_;have hlen:(D++l.drop k).length=l.length:=by simp;omega
 rw [hlen];refine zaf ?_;refine br (λhlt=>?_) (λhge=>?_)
 · have hk:k<l.length:=by omega
   obtain ⟨x,hx⟩:∃ x,x=l[k]:=⟨_,rfl⟩;have hxm:x∈l:=by rw [hx];exact List.getElem_mem hk
   have hdr:l.drop k=x :: l.drop (k+1):=by rw [hx];exact List.drop_eq_getElem_cons hk
   rw [hdr] at hM1;rw [hdr,zd8] at hfx;have hkl1:k<(D++x :: l.drop (k+1)).length:=by simp;omega
   refine JOIN.mk (λus w'=>∃ F2 n s2,Chg (g :: F) w w'∧CurAt W g bs s2 w'∧Mine F2 w' v (D++DStmt.mk x.kind n x.term x.body x.els :: l.drop (k+1))∧(∀ c∈F2,c∈F)∧IsK lp hp w' vp pr ∧
       (if x.kind=4∨x.kind=5 then (zcM bs pr s1,zam bs (pr.length:Int) s1) else (x.name,s1))=(n,s2)) ?_ ?_
   · refine zad ze5 zbO hM1.is hkl1 λb16 o16 hA16=>?_
     rw [zh6 hD hkl1] at hA16;refine zaa zeR ?_;refine zac ty3 (zcy hA16) (Ext.refl _) λhI18=>?_;refine zag ?_;refine zpO (Q:=x.kind=4∨x.kind=5) .inl (λhQ=>?_) (λkey h4=>?_)
     · refine zae u24 hP1.is ?_
       refine (zcq hC1 (by omega)).mono ?_;rintro _ w2 ⟨hc2',hC2,rfl⟩;have hc2:=hc2'.toC
       have hM2:=hM1.chgF hc2 λc hc h=>by
         simp only [List.mem_singleton] at h;exact hgF (h▸hF1 c hc)
       have hP2:=hP1.chgF hc2 λc hc=>by
         simp only [List.mem_singleton] at hc;exact hc▸hgP
       have hbx:=zcf bs (n:=(pr.length:Int)) (by omega) s1;refine zax u24 ty9 hP2.is hbx.1 (by omega) λb35 o35 hA35=>?_;refine zaq ty9 hA35 (Ext.refl _) λhS36=>?_;refine zfv ze5 zbO hM2 hkl1 λb37 o37 G37 hL37=>?_;rw [zh6 hD hkl1] at hL37;refine zaa zcL ?_;obtain ⟨G38,hL38⟩:=zmF hL37;refine ze9 ty9 hL38 (zpJ hS36) λw3 F3 hc3 hM3 hF3=>?_;have hM3:Mine F3 w3 v ((D++x :: l.drop (k+1)).set k (.mk x.kind (pr[(zbC bs (pr.length:Int) s1).toNat]'(by omega)) x.term x.body x.els)):=hM3;rw [zlL hD] at hM3;refine ⟨F3,_,_,((hc1.trans (hc2.mono (by simp))).trans (hc3.mono λc hc=>by simp [hF1 c hc])),hC2.chgF hc3 (λh=>hgF (hF1 _ h)) (λc hc=>hFW c (hF1 c hc)),hM3,λc hc=>hF1 c (hF3 c hc),hP2.chgF hc3 (λc hc=>hFP c (hF1 c hc)),?_⟩;rw [if_pos hQ];unfold zcM;rw [←zes (by omega)]
     refine zad ze5 zbO hM1.is hkl1 λb23 o23 hA23=>?_;rw [zh6 hD hkl1] at hA23;refine zaa zeR ?_;refine zac ty3 (zcy hA23) (Ext.refl _) λhI25=>?_;refine zag ?_;refine br (λh5=>key (.inr h5)) λh5=>?_;exact ⟨F1,x.name,s1,hc1,hC1,by rw [DStmt.eta];exact hM1,hF1,hP1,by rw [if_neg (by omega)]⟩
   rintro u6 w2 ⟨F2,n,s2,hc2,hC2,hM2,hF2,hP2,hn⟩;have hfs:=zvZ x s1 hn;rw [hfs] at hfx;refine zsq (fld:=3) (sel:=DStmt.body) (put:=zxJ) zdV (λ_ _ _=>rfl) (λ_ _=>rfl) zmG hC2 hM2 hD (λh=>hgF (hF2 _ h)) (λc hc=>hFW c (hF2 c hc)) hP2 hgP (λc hc=>hFP c (hF2 c hc)) hp0 hp1 (ih x hxm).1 λw3 F3 hc3 hC3 hM3 hF3 hP3=>?_;have hF3':∀ c∈F3,c∈F:=λc hc=>hF2 c (hF3 c hc);refine zsq (fld:=4) (sel:=DStmt.els) (put:=zxW) zdq (λ_ _ _=>rfl) (λ_ _=>rfl) zir hC3 hM3 hD (λh=>hgF (hF3' _ h)) (λc hc=>hFW c (hF3' c hc)) hP3 hgP (λc hc=>hFP c (hF3' c hc)) hp0 hp1 (ih x hxm).2 λw4 F4 hc4 hC4 hM4 hF4 hP4=>?_;refine zaB ?_;refine ⟨m-1,by omega,k+1,by omega,rfl,D++[DStmt.mk x.kind n x.term (zd8 bs pr x.body s2).1 (zd8 bs pr x.els (zd8 bs pr x.body s2).2).1],_,F4,by simp [hD],by omega,?_,(hc2.trans (hc3.mono λc hc=>?_)).trans (hc4.mono λc hc=>?_),hC4,?_,λc hc=>hF3' c (hF4 c hc),hP4⟩
   · rw [hfx];simp [DStmt.body,DStmt.els,zxJ]
   · rcases List.mem_cons.1 hc with rfl | hc
     · simp
     simp [hF2 c hc]
   · rcases List.mem_cons.1 hc with rfl | hc
     · simp
     simp [hF3' c hc]
   simpa [zxW,zxJ,DStmt.body,DStmt.els,DStmt.kind,DStmt.name,DStmt.term] using hM4
 have hk:k=l.length:=by omega
 subst hk;rw [List.drop_length,zpH] at hfx;rw [List.drop_length] at hM1;rw [hfx];exact ⟨rfl,hc1,hC1,F1,hM1,hF1⟩
theorem zsr (l:List DStmt):zoF l:=by
 refine zgM λx _=>?_;refine DStmt.ind (p:=λx=>zoF x.body∧zoF x.els) (λt hb he=>⟨?_,?_⟩) x
 · intro W w g bs s v vp F lp hp pr;exact zgM hb
 intro W w g bs s v vp F lp hp pr;exact zgM he
def F193 (a0:Value) (w:World) (R:VW):Prop:=
 oX 116 a0 w λx1 w=>
 oP (aL 116) w λx2 w=>
 rF 116 x1 0 w λx5=>
 rL 3 x5 w λx6=>
 rF 116 x1 1 w λx7=>
 rL 3 x7 w λx8=>
 rF 116 x1 2 w λx9=>
 rL 9 x9 w λx10=>
 rD (Instr.build 116 #[(0,x6),(1,x8),(2,x10)]) w λx11=>
 oP (aL 116) w λx3 w=>
 oS 116 x3 x11 w λw=>
 LOOPI [4] [(iV 0)] w λu3 w n3=>
 rF 116 x1 3 w λx13=>
 rL 114 x13 w λx14=>
 rN 114 3 x14 w λx15=>
 rC (u3 4) x15 w λx16=>
 BR x16
 ((λw=>rF 116 x3 3 w λx19=>
 rL 114 x19 w λx20=>
 rF 116 x1 3 w λx21=>
 rL 114 x21 w λx22=>
 rX 114 x22 (u3 4) w λx24=>
 rL 116 x24 w λx25=>
 (λw_=>cL 193 [x25] w_ λx26 w=>
 Ext w_ w ∧
 (λw_=>oP (bS 114 x26) w_ λx27 w=>
 Ext w_ w ∧
 (oP (aP 114 x20 x27) w λx28 w=>
 rF 116 x3 3 w λx29=>
 oS 114 x29 x28 w λw=>
 rI (u3 4) w λx18=>
 n3 [x18] w)) w) w) (World.drew1 w))
 (rL 116 x3 w λx30=>
 oS 116 x2 x30 w λw=>
 rD (zaJ 116 x2) w λr2=>R r2 w)
theorem F193_call {a0 w R} (h:F193 a0 w R):cL 193 [a0] w R:=co (g:=(kf [] [(3,1073737744,[4])] [(5,[0,1,2,3,4,5,6,7,8,9,10,11],384)])) Tryz.func193 h
def zss (t:DTerm):Prop:=∀ {w W:World} {v:Value},Is W v t→Ext W w→wT t≤1048576 →
 CALL tp 193 [v] w λr w'=>Ext w w'∧Own w.heap.size w' r t
theorem zmZ {t:DTerm} (ih:∀ x∈t.kids,zss x):zss t:=by
 intro w W v h e hw;have hkl:t.kids.length≤1048576:=by have:=zvQ t;have:=zsd t.kids;omega
 have hkw:∀ x∈t.kids,wT x≤1048576:=λx hx=>by have:=zvQ t;have:=zsd t.kids;have:=zw2 wT hx;omega
 refine F193_call ?_;unfold F193;refine zcb h e λw1 hx1 hA=>?_;have hs1:=hx1.size;refine zbH zqC λw2 hx2 hB2=>?_;have hg2:=hB2.lt;have hs2:=hx2.size;refine zaa zcZ ?_;refine zac ty3 (zbn hA) hx2 λhI6=>?_;refine zaa zdF ?_;refine zac ty3 (zbM hA) hx2 λhI8=>?_;refine zaa zda ?_;refine zaq ty9 (zbv hA) hx2 λhS10=>?_;refine zaX (cells:=#[.int .i64 t.kind,.int .i64 t.num,.string t.name,.slice none 0 0]) (by kernel_rfl) ?_;refine zbH zqC λw3 hx3 hB3=>?_;have hg3:=hB3.lt;have hs3:=hx3.size;refine zbU (x:=DTerm.mk t.kind t.num t.name []) (lo:=w3.heap.size) (hi:=w3.heap.size) za4 rfl hB3 rfl (ze4 hI6 hI8 hS10 zcg) λw4 hc4 hB4=>?_;have hs4:=hc4.size;have hx14:Ext w1 w4:=Ext.chgI (hx2.t hx3) hc4 (by omega)
 refine zat t.kids.length (λk us w'=>us=[.int .i64 (k:Int)]∧∃ v1 hi,hi≤w'.heap.size∧w4.heap.size≤hi∧Ext w1 w'∧Blk w2.heap.size 116 w' [.int .i64 t.kind,.int .i64 t.num,.string t.name,v1] ∧
     RowI w4.heap.size hi 116 w' v1 (t.kids.take k)∧Blk w1.heap.size 116 w' [.int .i64 0,.int .i64 0,.string ByteArray.empty,.slice none 0 0]∧k≤t.kids.length) 0 (z0 _)
     ⟨rfl,.slice none 0 0,w4.heap.size,lr _,Nat.le_refl _,hx14,hB4,zcm _ _ _ _,(hB2.ext hx3).chgI hc4 (by omega),Nat.zero_le _⟩ ?_
 rintro k m u w5 hkm ⟨hu,v1,hi,hhi,hlo,hx5,hB5,r5,hB25,hkl5⟩;try replace hu:=zbG hu
 rw [hu];have hs5:=hx5.size;refine zaa zbi ?_;refine zab zdj (zaG hA) hx5 λv14 h14=>?_;refine zae zgq h14 ?_;refine zaf ?_;refine br (λhlt=>?_) (λhge=>?_)
 · have hk:k<t.kids.length:=by omega
   have hx6:=zai w5;have hs6:=hx6.size;have hx56:=hx5.t hx6;refine zaa zbi ?_;refine zas zdj (hB5.ext hx6) rfl ?_;refine zaa zbi ?_;refine zab zdj (zaG hA) hx56 λv22 h22=>?_;refine zad zgq za4 h22 hk λb24 o24 hA24=>?_;refine zab za4 hA24 hx56 λv25 h25=>?_;refine (ih _ (List.getElem_mem hk) h25 hx56 (hkw _ (List.getElem_mem hk))).mono ?_;rintro r26 w7 ⟨hx7,o26⟩;have o26:=o26.toI;have hs7:=hx7.size;refine ⟨hx7,?_⟩;have hx57:=hx6.t hx7;refine ziN (α:=DTerm) zgq za4 zxy zxz (by decide) (r5.ext hx57) (by omega) o26 (by omega) (by omega) (by rw [zak,List.length_take];omega) (by rw [List.length_take];omega) λv28 w8 hc8 r8=>?_;have hs8:=hc8.size;refine zaa zbi ?_;refine zbp (α:=List DTerm) zdj rfl rfl ((hB5.ext hx57).chgI hc8 (by omega)) (by simp) r8.own λw9 hc9 hB9=>?_;have hs9:=hc9.size;refine zaB ?_;refine ⟨m-1,by omega,k+1,by omega,rfl,v28,w8.heap.size,by omega,by omega,Ext.chgI (Ext.chgI (hx5.t hx57) hc8 (by omega)) hc9 (by omega),hB9,?_,((hB25.ext hx57).chgI hc8 (by omega)).chgI hc9 (by omega),by omega⟩;have:=r8.chg hc9 (by omega)
   rwa [←tk hk] at this
 have hk:t.kids.length≤k:=by omega
 refine zgL hB5 za4 ?_;have hI:=(show I64 t.kind from hI6)
 have ost:OwnI w4.heap.size hi w5 (.agg #[.int .i64 t.kind,.int .i64 t.num,.string t.name,v1]) t:=by
   have:=ze4 hI6 hI8 hS10 r5.own
   rwa [List.take_of_length_le hk,DTerm.eta] at this
 refine zbU za4 rfl hB25 rfl ost λw6 hc6 hB6=>?_;refine zer hB6 za4 ?_;exact ⟨Ext.chgI (hx1.t hx5) hc6 (by omega),(ost.chg hc6 (by omega)).own.mono (by omega)⟩
theorem zh7 (t:DTerm):zss t:=DTerm.ind (λt ih {_ _ _}=>zmZ ih) t
section
variable (G L P:List ByteArray)
mutual
def emS:DStmt→Nat→List DIns
  | .mk k n t b e,at_=>
    if k=1 then [⟨1,plc n G,t,0⟩]
    else if k=4 then [⟨4,plc n P,term0,0⟩]
    else if k=5 then [⟨5,plc n P,term0,0⟩]
    else if k=6 then [⟨6,plc n L,term0,0⟩]
    else if k=7 then [⟨7,plc n L,term0,0⟩]
    else if k=8 then [⟨8,0,term0,0⟩]
    else if k=3 then ⟨2,0,t,((at_+1+(emL b (at_+1)).length+1:Nat):Int)⟩ :: (emL b (at_+1)++[⟨3,0,term0,(at_:Int)⟩])
    else if k=2 then
      (if e.length=0 then ⟨2,0,t,((at_+1+(emL b (at_+1)).length:Nat):Int)⟩ :: emL b (at_+1)
      else ⟨2,0,t,((at_+1+(emL b (at_+1)).length+1:Nat):Int)⟩ :: (emL b (at_+1) ++
        (⟨3,0,term0,((at_+1+(emL b (at_+1)).length+1+(emL e (at_+1+(emL b (at_+1)).length+1)).length:Nat):Int)⟩ :: emL e (at_+1+(emL b (at_+1)).length+1))))
    else []
def emL:List DStmt→Nat→List DIns
  | [],_=>[]
  | x :: l,at_=>emS x at_++emL l (at_+(emS x at_).length)
end
def InsQ (x:DIns) (lo hi:Nat):Prop:=1≤x.op∧x.op≤8 ∧
 (0≤x.arg∧x.arg<if x.op=1 then (G.length:Int) else if x.op=4∨x.op=5 then P.length else if x.op=6∨x.op=7 then L.length else 1) ∧
 (if x.op=1∨x.op=2 then TmR x.term else x.term=term0)∧(if x.op=2∨x.op=3 then (lo:Int)≤x.to∧x.to≤hi else x.to=0)
end
section
variable {G L P:List ByteArray}
theorem InsQ.mono {x:DIns} {lo hi lo' hi':Nat} (h:InsQ G L P x lo hi) (h1:lo'≤lo) (h2:hi≤hi'):InsQ G L P x lo' hi':=by
 obtain ⟨a,b,c,d,e⟩:=h;refine ⟨a,b,c,d,?_⟩;split at e
 · rename_i hh;rw [if_pos hh];omega
 rename_i hh;rw [if_neg hh];exact e
theorem zm0 {n:ByteArray} {l:List ByteArray} (h:n∈l):0≤plc n l∧plc n l<l.length:=⟨zeS.2 h,zjq.2⟩
theorem zvh {op arg to:Int} {t:DTerm} {lo hi:Nat} (h1:1≤op) (h1':op≤8) (h2:0≤arg∧arg<if op=1 then (G.length:Int) else if op=4∨op=5 then P.length else if op=6∨op=7 then L.length else 1)
   (h3:if op=1∨op=2 then TmR t else t=term0) (h4:if op=2∨op=3 then (lo:Int)≤to∧to≤hi else to=0):InsQ G L P ⟨op,arg,t,to⟩ lo hi:=⟨h1,h1',h2,h3,h4⟩
theorem zst {t:DTerm} (ht:TmR t) {to lo hi:Nat} (h1:lo≤to) (h2:to≤hi):InsQ G L P ⟨2,0,t,(to:Int)⟩ lo hi:=
 zvh (by decide) (by decide) (by rw [if_neg (by decide),if_neg (by decide),if_neg (by decide)];decide) (by rw [if_pos (.inr rfl)];exact ht) (by rw [if_pos (.inl rfl)];omega)
theorem zvi {to lo hi:Nat} (h1:lo≤to) (h2:to≤hi):InsQ G L P ⟨3,0,term0,(to:Int)⟩ lo hi:=
 zvh (by decide) (by decide) (by rw [if_neg (by decide),if_neg (by decide),if_neg (by decide)];decide) (by rw [if_neg (by decide)]) (by rw [if_pos (.inr rfl)];omega)
theorem zxK {pr:List ByteArray} (hG:G=glb) (hL:L=lks) (hP:∀ x∈pr,x∈P):∀ (n:Nat),
   (∀ (t:DStmt) (a:Nat),StR pr n t→(∀ x∈emS G L P t a,InsQ G L P x a (a+(emS G L P t a).length))∧(emS G L P t a).length≤2*szS t) ∧
   ∀ (l:List DStmt) (a:Nat),(∀ x∈l,StR pr n x)→(∀ x∈emL G L P l a,InsQ G L P x a (a+(emL G L P l a).length))∧(emL G L P l a).length≤2*szL l:=by
 have hl:∀ n,(∀ (t:DStmt) (a:Nat),StR pr n t→(∀ x∈emS G L P t a,InsQ G L P x a (a+(emS G L P t a).length))∧(emS G L P t a).length≤2*szS t) →
     ∀ (l:List DStmt) (a:Nat),(∀ x∈l,StR pr n x)→(∀ x∈emL G L P l a,InsQ G L P x a (a+(emL G L P l a).length))∧(emL G L P l a).length≤2*szL l:=by
   intro n hs l
   induction l with
   | nil=>intro a _;rw [emL];exact ⟨(λx hx=>by cases hx),Nat.zero_le _⟩
   | cons t l ih=>
     intro a h;have h1:=hs t a (h t (by simp));have h2:=ih (a+(emS G L P t a).length) λx hx=>h x (by simp [hx]);rw [emL,szL];generalize emS G L P t a=u at *;generalize emL G L P l (a+u.length)=v at *;rw [List.length_append];refine ⟨λx hx=>?_,by omega⟩;rcases List.mem_append.1 hx with hx | hx
     · exact (h1.1 x hx).mono (lr _) (by omega)
     exact (h2.1 x hx).mono (by omega) (by omega)
 have h0:∀ (t:DStmt) (a:Nat),St0 pr t→(∀ x∈emS G L P t a,InsQ G L P x a (a+(emS G L P t a).length))∧(emS G L P t a).length≤2*szS t:=by
   rintro ⟨k,n,t,b,e⟩ a h;rw [emS,szS];rcases h with ⟨hk,hn,ht,_,_⟩ | ⟨hk,hn,_⟩ | ⟨hk,hn,_⟩ | ⟨hk,hn,_⟩
   · have hk:k=1:=hk
     have hn:n∈glb:=hn;rw [if_pos hk];refine ⟨λx hx=>?_,by simp;omega⟩;simp only [List.mem_cons,List.not_mem_nil,or_false] at hx;subst hx;exact zvh (by decide) (by decide) (by rw [if_pos rfl];exact zm0 (by rw [hG];exact hn)) (by rw [if_pos (.inl rfl)];exact ht) (by rw [if_neg (by decide)])
   · have hk:k=4∨k=5:=hk
     have hn:n∈pr:=hn;rw [if_neg (by omega)];rcases hk with hk | hk
     · rw [if_pos hk]
       refine ⟨λx hx=>?_,by simp;omega⟩;simp only [List.mem_cons,List.not_mem_nil,or_false] at hx;subst hx;exact zvh (by decide) (by decide) (by rw [if_neg (by decide),if_pos (.inl rfl)];exact zm0 (hP _ hn)) (by rw [if_neg (by decide)]) (by rw [if_neg (by decide)])
     rw [if_neg (by omega),if_pos hk];refine ⟨λx hx=>?_,by simp;omega⟩;simp only [List.mem_cons,List.not_mem_nil,or_false] at hx;subst hx;exact zvh (by decide) (by decide) (by rw [if_neg (by decide),if_pos (.inr rfl)];exact zm0 (hP _ hn)) (by rw [if_neg (by decide)]) (by rw [if_neg (by decide)])
   · have hk:k=6∨k=7:=hk
     have hn:n∈lks:=hn;rw [if_neg (by omega),if_neg (by omega),if_neg (by omega)];rcases hk with hk | hk
     · rw [if_pos hk]
       refine ⟨λx hx=>?_,by simp;omega⟩;simp only [List.mem_cons,List.not_mem_nil,or_false] at hx;subst hx;exact zvh (by decide) (by decide) (by rw [if_neg (by decide),if_neg (by decide),if_pos (.inl rfl)];exact zm0 (by rw [hL];exact hn)) (by rw [if_neg (by decide)]) (by rw [if_neg (by decide)])
     rw [if_neg (by omega),if_pos hk];refine ⟨λx hx=>?_,by simp;omega⟩;simp only [List.mem_cons,List.not_mem_nil,or_false] at hx;subst hx;exact zvh (by decide) (by decide) (by rw [if_neg (by decide),if_neg (by decide),if_pos (.inr rfl)];exact zm0 (by rw [hL];exact hn)) (by rw [if_neg (by decide)]) (by rw [if_neg (by decide)])
   have hk:k=8:=hk;rw [if_neg (by omega),if_neg (by omega),if_neg (by omega),if_neg (by omega),if_neg (by omega),if_pos hk];refine ⟨λx hx=>?_,by simp;omega⟩;simp only [List.mem_cons,List.not_mem_nil,or_false] at hx;subst hx;exact zvh (by decide) (by decide) (by rw [if_neg (by decide),if_neg (by decide),if_neg (by decide)];decide) (by rw [if_neg (by decide)]) (by rw [if_neg (by decide)])
 intro n
 induction n with
 | zero=>exact ⟨λt a h=>h0 t a h.zero,hl 0 λt a h=>h0 t a h.zero⟩
 | succ n ih=>
   have hs:∀ (t:DStmt) (a:Nat),StR pr (n+1) t→(∀ x∈emS G L P t a,InsQ G L P x a (a+(emS G L P t a).length))∧(emS G L P t a).length≤2*szS t:=by
     intro t a h;rcases h.succ with h | ⟨hk,hn,ht,hb,he⟩
     · exact h0 t a h
     obtain ⟨k,nm,t,b,e⟩:=t;have hq:k=2∨k=3∧e=[]:=hk;clear hk
     replace ht:TmR t:=ht
     have h1:=ih.2 b (a+1) hb;have h2:=ih.2 e (a+1+(emL G L P b (a+1)).length+1) he;rw [emS,szS,if_neg (by omega),if_neg (by omega),if_neg (by omega),if_neg (by omega),if_neg (by omega),if_neg (by omega)];generalize emL G L P b (a+1)=u at *;generalize emL G L P e (a+1+u.length+1)=v at *;rcases hq with hq | ⟨hq,rfl⟩
     · rw [if_neg (by omega),if_pos hq]
       split
       · refine ⟨λx hx=>?_,by simp only [List.length_cons];omega⟩
         rw [List.length_cons];rcases List.mem_cons.1 hx with rfl | hx
         · exact zst ht (by omega) (by omega)
         exact (h1.1 x hx).mono (by omega) (by omega)
       rename_i hne
       refine ⟨λx hx=>?_,?_⟩
       · simp only [List.length_cons,List.length_append]
         rcases List.mem_cons.1 hx with rfl | hx
         · exact zst ht (by omega) (by omega)
         rcases List.mem_append.1 hx with hx | hx
         · exact (h1.1 x hx).mono (by omega) (by omega)
         rcases List.mem_cons.1 hx with rfl | hx
         · exact zvi (by omega) (by omega)
         exact (h2.1 x hx).mono (by omega) (by omega)
       have:=zlH e;simp only [List.length_cons,List.length_append];omega
     rw [if_pos hq];refine ⟨λx hx=>?_,by simp only [List.length_cons,List.length_append,List.length_nil];omega⟩;simp only [List.length_cons,List.length_append,List.length_nil];rcases List.mem_cons.1 hx with rfl | hx
     · exact zst ht (by omega) (by omega)
     rcases List.mem_append.1 hx with hx | hx
     · exact (h1.1 x hx).mono (by omega) (by omega)
     simp only [List.mem_cons,List.not_mem_nil,or_false] at hx;subst hx;exact zvi (by omega) (by omega)
   exact ⟨hs,hl (n+1) hs⟩
end
def zv0:DIns:=⟨9,0,term0,0⟩
section
variable (G L P:List ByteArray)
def emP:List DProc→Nat→List DIns
 | [],_=>[]
 | x :: l,a=>emL G L P x.body a++(zv0 :: emP l (a+(emL G L P x.body a).length+1))
def zm1:List DProc→Nat→List Int
 | [],_=>[]
 | x :: l,a=>(a:Int) :: zm1 l (a+(emL G L P x.body a).length+1)
end
def zcO (p:DProg):DCode:=
 ⟨p.globals,p.locks,p.procs.map DProc.name,zm1 p.globals p.locks (p.procs.map DProc.name) p.procs 0,emP p.globals p.locks (p.procs.map DProc.name) p.procs 0⟩
theorem ziV (G L P:List ByteArray):∀ (l:List DProc) (a:Nat),(zm1 G L P l a).length=l.length
 | [],_=>by rw [zm1];rfl
 | x :: l,a=>by rw [zm1,List.length_cons,List.length_cons,ziV G L P l]
theorem zvj (G L P:List ByteArray):∀ (l:List DProc) (a i:Nat) (hi:i<l.length),∃ s,(zm1 G L P l a)[i]?=some ((a+s:Nat):Int)∧s+(emL G L P l[i].body (a+s)).length+1≤(emP G L P l a).length ∧
   (∀ k,k<(emL G L P l[i].body (a+s)).length→(emP G L P l a)[s+k]?=(emL G L P l[i].body (a+s))[k]?)∧(emP G L P l a)[s+(emL G L P l[i].body (a+s)).length]?=some zv0 ∧
   (i=0→s=0)∧(i+1<l.length→(zm1 G L P l a)[i+1]?=some ((a+s+(emL G L P l[i].body (a+s)).length+1:Nat):Int))∧(i+1=l.length→s+(emL G L P l[i].body (a+s)).length+1=(emP G L P l a).length)
 | x :: l,a,0,hi=>by
   refine ⟨0,?_⟩;simp only [Nat.add_zero,Nat.zero_add,List.getElem_cons_zero];rw [zm1,emP];generalize emL G L P x.body a=u;refine ⟨by simp,by simp,λk hk=>List.getElem?_append_left hk,by simp,by simp,λh=>?_,λh=>?_⟩
   · cases l with
     | nil=>simp at h
     | cons y l=>rw [zm1];rfl
   have:l=[]:=List.eq_nil_of_length_eq_zero (by simpa using h);subst this;rw [emP];simp
 | x :: l,a,i+1,hi=>by
   obtain ⟨s,h1,h2,h3,h4,h5,h6,h7⟩:=zvj G L P l (a+(emL G L P x.body a).length+1) i (by simpa using hi);refine ⟨(emL G L P x.body a).length+1+s,?_⟩;simp only [List.getElem_cons_succ];rw [zm1,emP];have e:a+((emL G L P x.body a).length+1+s)=a+(emL G L P x.body a).length+1+s:=by omega
   rw [e];generalize emL G L P x.body a=u at *;have hil:i<l.length:=by simpa using hi
   generalize emL G L P (l[i]'hil).body (a+u.length+1+s)=v at *
   have sh:∀ (q:Nat) (m:List DIns),(u++zv0 :: m)[u.length+1+q]?=m[q]?:=by
     intro q m;rw [List.getElem?_append_right (by omega),show u.length+1+q-u.length=q+1 by omega,List.getElem?_cons_succ]
   refine ⟨by simpa using h1,by simp only [List.length_append,List.length_cons];omega,λk hk=>?_,?_,λh=>by omega,λh=>?_,λh=>?_⟩
   · rw [show u.length+1+s+k=u.length+1+(s+k) by omega,sh];exact h3 k hk
   · rw [show u.length+1+s+v.length=u.length+1+(s+v.length) by omega,sh];exact h4
   · rw [List.getElem?_cons_succ];exact h6 (by simpa using h)
   have:=h7 (by simpa using h);simp only [List.length_append,List.length_cons];omega
theorem zsu (G L P:List ByteArray) {m:Nat}:∀ (l:List DProc) (a:Nat),(∀ x∈l,∀ b,(emL G L P x.body b).length≤m)→(emP G L P l a).length≤l.length*(m+1)
 | [],_,_=>by rw [emP];simp
 | x :: l,a,h=>by
   have h1:=h x (by simp) a;have h2:=zsu G L P l (a+(emL G L P x.body a).length+1) λy hy=>h y (by simp [hy]);rw [emP,List.length_append,List.length_cons,List.length_cons,Nat.add_mul,Nat.one_mul];omega
theorem zlM {α:Type} {l:List α} {i:Nat} {x d:α} (h:l[i]?=some x):l.getD i d=x:=by rw [List.getD_eq_getElem?_getD,h];rfl
theorem zm2:∀ k,k<3→(prc4.take (2+k)).length≤4∧(prc4.take (2+k)).all zbk=true∧(prc4.take (2+k)).Nodup∧zgr∈prc4.take (2+k)
 | 0,_=>by decide
 | 1,_=>by decide
 | 2,_=>by decide
 | k+3,h=>absurd h (by omega)
theorem code_at {p:DProg} (hp:ProgR p) {i:Nat} (hi:i<p.procs.length):∃ s n:Nat,en (zcO p) i=(s:Int)∧zdL (zcO p) i=((s+n+1:Nat):Int)∧s+n+1≤(zcO p).ins.length ∧
   (∀ k,k<n→InsQ (zcO p).globals (zcO p).locks (zcO p).procs (zan (zcO p) (s+k)) s (s+n))∧zan (zcO p) (s+n)=zv0∧(i=0→s=0):=by
 obtain ⟨s,h1,h2,h3,h4,h5,h6,h7⟩:=zvj p.globals p.locks (p.procs.map DProc.name) p.procs 0 i hi;simp only [Nat.zero_add] at h1 h2 h3 h4 h5 h6 h7;have hb:=hp.b _ (List.getElem_mem hi);have hr:=(zxK (G:=p.globals) (L:=p.locks) (P:=p.procs.map DProc.name) (pr:=(p.procs.map DProc.name).drop 1) hp.g hp.l (λx hx=>List.mem_of_mem_drop hx) 2).2 p.procs[i].body s hb.1;generalize emL p.globals p.locks (p.procs.map DProc.name) p.procs[i].body s=u at *;refine ⟨s,u.length,zlM h1,?_,h2,λk hk=>?_,zlM h4,h5⟩
 · unfold zdL
   have hl:(zcO p).entry.length=p.procs.length:=ziV _ _ _ _ _;split
   · rename_i hh;exact zlM (h6 (by omega))
   rename_i hh;show ((emP _ _ _ _ _).length:Int)=_;rw [←h7 (by omega)]
 have e:zan (zcO p) (s+k)=u[k]:=zlM (by
   have:=h3 k hk;rw [List.getElem?_eq_getElem hk] at this;exact this)
 rw [e];exact (hr.1 _ (List.getElem_mem hk)).mono (lr _) (lr _)
theorem zkT {p:DProg} (hp:ProgR p):CodeR (zcO p)∧(zcO p).ins.length≤436:=by
 obtain ⟨k,hk,hn⟩:=hp.n;obtain ⟨n1,n2,n3,n4⟩:=zm2 k hk;have hl:(zcO p).entry.length=p.procs.length:=ziV _ _ _ _ _;have hpl:(p.procs.map DProc.name).length=p.procs.length:=List.length_map _;have hp4:p.procs.length≤4:=by rw [←hpl,hn];exact n1
 have hN:NamesR (zcO p):=by
   refine ⟨?_,?_,?_,?_,?_,?_,?_⟩
   · show (decide ((p.globals.length:Int)≤6)&&p.globals.all zbk)=true
     rw [hp.g];decide
   · show (decide ((p.locks.length:Int)≤6)&&p.locks.all zbk)=true
     rw [hp.l];decide
   · show (decide (((p.procs.map DProc.name).length:Int)≤8)&&(p.procs.map DProc.name).all zbk)=true
     rw [hn,n2,decide_eq_true (by omega)];rfl
   · show p.globals.Nodup
     rw [hp.g];decide
   · show p.locks.Nodup
     rw [hp.l];decide
   · show (p.procs.map DProc.name).Nodup
     rw [hn];exact n3
   show zgr∈p.procs.map DProc.name;rw [hn];exact n4
 have hil:(zcO p).ins.length≤436:=by
   have:=zsu p.globals p.locks (p.procs.map DProc.name) (m:=108) p.procs 0 λx hx b=>by
     have hb:=hp.b x hx;have hr:=(zxK (G:=p.globals) (L:=p.locks) (P:=p.procs.map DProc.name) (pr:=(p.procs.map DProc.name).drop 1) hp.g hp.l (λx hx=>List.mem_of_mem_drop hx) 2).2 x.body b hb.1;have:=hb.2;omega
   show (emP _ _ _ _ _).length≤436;omega
 have h0:0<p.procs.length:=by
   rw [←hpl,hn];exact List.length_pos_of_mem n4
 have hF:EntF (zcO p):=by
   refine ⟨by rw [hl];exact hpl.symm,by omega,?_,λi hi=>?_⟩
   · obtain ⟨s,n,e1,_,_,_,_,e0⟩:=code_at hp h0
     rw [e1,e0 rfl];rfl
   obtain ⟨s,n,e1,e2,e3,_,_,_⟩:=code_at hp (i:=i) (by omega);rw [e1,e2];omega
 have hpp:0<(zcO p).procs.length:=by show 0<(p.procs.map DProc.name).length;omega
 have hfind:∀ j:Nat,j<(zcO p).ins.length→∃ i s n:Nat,i<p.procs.length∧en (zcO p) i=(s:Int)∧zdL (zcO p) i=((s+n+1:Nat):Int)∧s≤j∧j≤s+n∧zaH (zcO p) j=i ∧
     (∀ k,k<n→InsQ (zcO p).globals (zcO p).locks (zcO p).procs (zan (zcO p) (s+k)) s (s+n))∧zan (zcO p) (s+n)=zv0:=by
   intro j hj;obtain ⟨i,hi,a1,a2,a3⟩:=hF.find hpp (a:=(j:Int)) (by omega) (by omega);obtain ⟨s,n,e1,e2,e3,e4,e5,_⟩:=code_at hp (i:=i) (by omega);rw [e1] at a1;rw [e2] at a2;exact ⟨i,s,n,by omega,e1,e2,by omega,by omega,a3,e4,e5⟩
 have hends:∀ (i:Nat),zeU (zcO p) i=zdL (zcO p) i-1:=λi=>zds _ i;refine ⟨⟨hN,⟨hF.len,hF.ins,λi hi=>⟨λh=>by subst h;exact hF.zero,λh=>?_,?_⟩,λj hj=>?_⟩,λj hj=>?_⟩,hil⟩
 · have h1:=(hF.lt (i-1) (by omega)).1
   rw [hF.step (by omega),show i-1+1=i by omega] at h1;exact h1
 · have:=hF.lt i hi;omega
 · obtain ⟨i,s,n,hi,e1,e2,a1,a2,a3,e4,e5⟩:=hfind j hj
   rw [a3,hends,e2];constructor
   · intro h9
     by_cases hjn:j=s+n
     · omega
     have:=e4 (j-s) (by omega);rw [show s+(j-s)=j by omega] at this;have:=this.2.1;omega
   intro h9;have:j=s+n:=by omega
   rw [this,e5];rfl
 obtain ⟨i,s,n,hi,e1,e2,a1,a2,a3,e4,e5⟩:=hfind j hj;rw [a3,hends,e2];simp only [Int.toNat_natCast];rw [e1];by_cases hjn:j=s+n
 · rw [hjn,e5]
   have ha:(0:Int)<zbQ (zcO p) 9:=by
     unfold zbQ;rw [if_neg (by decide),if_neg (by decide),if_neg (by decide)];decide
   refine ⟨by decide,⟨by decide,ha⟩,by rw [if_neg (by decide)];rfl,by rw [if_neg (by decide)];rfl⟩
 have hq:=e4 (j-s) (by omega);rw [show s+(j-s)=j by omega] at hq;generalize zan (zcO p) j=x at *;obtain ⟨q1,q2,q3,q4,q5⟩:=hq;refine ⟨⟨q1,by omega⟩,?_,?_,?_⟩
 · unfold zbQ;exact q3
 · split at q4
   · rename_i hh
     rw [if_pos hh];refine ⟨q4.1,λy hy=>?_⟩;show y∈p.globals;rw [hp.g];exact q4.2.1 y hy
   rename_i hh;rw [if_neg hh];exact q4
 split at q5
 · rename_i hh;rw [if_pos hh];omega
 rename_i hh;rw [if_neg hh];exact q5
end Go.Proofs.YtakjaofncelghaaGreat
namespace Go.Sh
open Rep (rep)
structure UpG (g lo:Nat) (w w':World):Prop where
 os:w'.os=w.os
 tape:w'.tape=w.tape
 output:w'.output=w.output
 size:w.heap.size≤w'.heap.size
 block:∀ b,b<w.heap.size→b<lo→b≠g→w'.heap[b]?=w.heap[b]?
section
variable {g lo:Nat} {w w' w2:World} {α:Type} [Rep α]
theorem UpG.refl (g lo:Nat) (w:World):UpG g lo w w:=⟨rfl,rfl,rfl,lr _,λ_ _ _ _=>rfl⟩
theorem UpG.trans (h:UpG g lo w w') (k:UpG g lo w' w2):UpG g lo w w2:=
 ⟨k.os.trans h.os,k.tape.trans h.tape,k.output.trans h.output,Nat.le_trans h.size k.size,λb h1 h2 h3=>(k.block b (Nat.lt_of_lt_of_le h1 h.size) h2 h3).trans (h.block b h1 h2 h3)⟩
theorem UpG.mono {lo2:Nat} (h:UpG g lo w w') (hl:lo2≤lo):UpG g lo2 w w':=⟨h.os,h.tape,h.output,h.size,λb h1 h2 h3=>h.block b h1 (by omega) h3⟩
theorem Ext.upG (h:Ext w w'):UpG g lo w w':=⟨h.os,h.tape,h.output,h.size,λb h1 _ _=>h.block b h1⟩
theorem ChgI.upG1 (h:ChgI g (g+1) w w'):UpG g lo w w':=⟨h.os,h.tape,h.output,h.size,λb h1 _ h3=>h.block b h1 (by omega)⟩
theorem ChgI.upG {a b:Nat} (h:ChgI a b w w') (ha:lo≤a):UpG g lo w w':=⟨h.os,h.tape,h.output,h.size,λc h1 h2 _=>h.block c h1 (by omega)⟩
theorem Chg.upG {F:List Nat} (h:Chg (g :: F) w w') (hF:∀ c∈F,lo≤c):UpG g lo w w':=⟨h.os,h.tape,h.output,h.size,λc h1 h2 h3=>h.block c h1 λhm=>by
 rcases List.mem_cons.1 hm with e | hm
 · exact h3 e
 have:=hF c hm;omega⟩
theorem UpG.toI (h:UpG g lo w w') (hl:w.heap.size≤lo):ChgI g (g+1) w w':=⟨h.os,h.tape,h.output,h.size,λb h1 h2=>h.block b h1 (by omega) (by omega)⟩
theorem Blk.upG {b e:Nat} {cs:List Value} (h:Blk b e w cs) (hu:UpG g lo w w') (h1:b<lo) (h2:b≠g):Blk b e w' cs:=h.keep (hu.block b h.lt h1 h2)
theorem OwnI.upG {a b:Nat} {v:Value} {x:α} (h:OwnI a b w v x) (hu:UpG g lo w w') (h1:b≤lo) (h2:g<a∨b≤g):OwnI a b w' v x:=by
 obtain ⟨F,hm,hF⟩:=h;exact ⟨F,hm.keep λc hc=>hu.block c (hm.lt c hc) (by have:=hF c hc;omega) (by have:=hF c hc;omega),hF⟩
theorem RowI.upG {a b e:Nat} {v:Value} {l:List α} (h:RowI a b e w v l) (hu:UpG g lo w w') (h1:b≤lo) (h2:g<a∨b≤g):RowI a b e w' v l:=by
 obtain ⟨F,hm,hn,hF⟩:=zfx.1 h;exact zfx.2 ⟨F,hm.keep λc hc=>hu.block c (hm.lt c hc) (by have:=hF c hc;omega) (by have:=hF c hc;omega),hn,hF⟩
theorem IsK.upG {a b:Nat} {v:Value} {x:α} (h:IsK a b w v x) (hu:UpG g lo w w') (h1:b≤lo) (h2:g<a∨b≤g):IsK a b w' v x:=
 ⟨Nat.le_trans h.1 hu.size,λw3 h3=>h.2 w3 λc h4 h5=>(h3 c h4 h5).trans (hu.block c (Nat.lt_of_lt_of_le h5 h.1) (by omega) (by omega))⟩
theorem zkU {v:Value} {x:α} (h:OwnI lo lo w v x):Mine [] w v x:=by
 obtain ⟨F,hm,hF⟩:=h;have:F=[]:=List.eq_nil_iff_forall_not_mem.2 λc hc=>by have:=hF c hc;omega
 subst this;exact hm
theorem zsv {hi:Nat} {n:ByteArray} {vb:Value} {l:List DStmt} (hn:n.size≤maxLen) (h:OwnI lo hi w vb l):OwnI lo hi w (.agg #[.string n,vb]) (⟨n,l⟩:DProc):=by
 obtain ⟨F,⟨⟨cs,hr,hv⟩,hnd,hw⟩,hF⟩:=h;obtain ⟨c,rfl⟩:=zdQ hr;simp only [mkv,Rep.agg,cond_false,List.headD_cons] at hv;subst hv;exact ⟨F,⟨⟨[.string n,vb],zaI (F:=[]) (c1:=[.string n]) (show rep [] w [.string n] n from ⟨rfl,rfl,hn⟩) hr,rfl⟩,hnd,hw⟩,hF⟩
theorem zm3 {a b c:Value} {p:DProg} {lo hi l0 h0 l1 h1 l2 h2:Nat} (m0:OwnI l0 h0 w a p.globals) (m1:OwnI l1 h1 w b p.locks) (m2:OwnI l2 h2 w c p.procs) (d01:h0≤l1∨h1≤l0) (d02:h0≤l2∨h2≤l0) (d12:h1≤l2∨h2≤l1)
   (b0:lo≤l0∧h0≤hi) (b1:lo≤l1∧h1≤hi) (b2:lo≤l2∧h2≤hi):OwnI lo hi w (.agg #[a,b,c]) p:=by
 obtain ⟨F0,M0,B0⟩:=m0;obtain ⟨F1,M1,B1⟩:=m1;obtain ⟨F2,M2,B2⟩:=m2;refine ⟨F0++(F1++F2),⟨⟨[a,b,c],zaI (zbA rfl M0.own) (zaI (zbA rfl M1.own) (zbA rfl M2.own)),rfl⟩,?_,M0.wr.append (M1.wr.append M2.wr)⟩,λx hx=>?_⟩
 · rw [List.nodup_append,List.nodup_append]
   refine ⟨M0.nodup,⟨M1.nodup,M2.nodup,λp hp q hq e=>?_⟩,λp hp q hq e=>?_⟩
   · subst e;have:=B1 p hp;have:=B2 p hq;omega
   subst e;have:=B0 p hp;rcases List.mem_append.1 hq with hq | hq
   · have:=B1 p hq;omega
   have:=B2 p hq;omega
 rcases List.mem_append.1 hx with hx | hx
 · have:=B0 x hx;omega
 rcases List.mem_append.1 hx with hx | hx
 · have:=B1 x hx;omega
 have:=B2 x hx;omega
end
end Go.Sh
namespace Go.Proofs.YtakjaofncelghaaGreat
open Go Go.Sh Go.Proofs
open Rep (rep)
def F130 (a0 a1:Value) (w:World) (R:VW):Prop:=
 oP (Instr.buildSlice 24 3 #[(0,(Value.string (ByteArray.mk #[97]))),(1,(Value.string (ByteArray.mk #[98]))),(2,(Value.string (ByteArray.mk #[109])))]) w λx9 w=>
 cL 195 [a0,x9] w λx10 w=>
 oP (Instr.buildSlice 24 3 #[(0,(Value.string (ByteArray.mk #[97]))),(1,(Value.string (ByteArray.mk #[98]))),(2,(Value.string (ByteArray.mk #[109])))]) w λx12 w=>
 cL 195 [a0,x12] w λx13 w=>
 rD (Instr.build 166 #[(0,(iV 6)),(1,x10)]) w λx15=>
 oP (bS 158 x15) w λx16 w=>
 JOIN [7] (λJ6=>
 rB .neq 9 T0 T0 x10 x13 w λx19=>
 BR x19
 (cL 129 [a0,(iV 2)] w λx22 w=>
 BR x22
 (rD (Instr.build 166 #[(0,(iV 6)),(1,x13)]) w λx26=>
 oP (bS 158 x26) w λx27 w=>
 oP (aP 158 x16 x27) w λx28 w=>
 J6 [x28] w)
 (J6 [x16] w))
 (J6 [x16] w)) (λu6 w=>
 oP (aP 158 (u6 7) a1) w λx31 w=>
 rD (Instr.build 166 #[(0,(iV 7)),(1,x10)]) w λx34=>
 oP (bS 158 x34) w λx35 w=>
 oP (aP 158 x31 x35) w λx36 w=>
 R x36 w)
theorem F130_call {a0 a1 w R} (h:F130 a0 a1 w R):cL 130 [a0,a1] w R:=co (g:=(kf [(6,536739968,[7])] [] [])) Tryz.func130 h
section
variable {w:World} {K:Value→World→Prop}
theorem zsw (k:∀ v w',Ext w w'→OwnI w.heap.size w'.heap.size w' v lks→K v w'):OP tp (Instr.buildSlice 24 3 #[(0,(Value.string (ByteArray.mk #[97]))),(1,(Value.string (ByteArray.mk #[98]))),(2,(Value.string (ByteArray.mk #[109])))]) w K:=
 zfL (vs:=lks.map Value.string) (l:=lks) u24 ty9 zcp (by decide) (by kernel_rfl) rfl (λw=>zcB (by decide)) k
theorem zw8 (k:∀ v w',Ext w w'→OwnI w.heap.size w'.heap.size w' v glb→K v w'):OP tp (Instr.buildSlice 24 4 #[(0,(Value.string (ByteArray.mk #[120]))),(1,(Value.string (ByteArray.mk #[121]))),(2,(Value.string (ByteArray.mk #[122]))),(3,(Value.string (ByteArray.mk #[117])))]) w K:=
 zfL (vs:=glb.map Value.string) (l:=glb) u24 ty9 zcp (by decide) (by kernel_rfl) rfl (λw=>zcB (by decide)) k
theorem zw9 (k:∀ v w',Ext w w'→OwnI w.heap.size w'.heap.size w' v prc4→K v w'):OP tp (Instr.buildSlice 24 4 #[(0,(Value.string (ByteArray.mk #[109,97,105,110]))),(1,(Value.string (ByteArray.mk #[112]))),(2,(Value.string (ByteArray.mk #[113]))),(3,(Value.string (ByteArray.mk #[114])))]) w K:=
 zfL (vs:=prc4.map Value.string) (l:=prc4) u24 ty9 zcp (by decide) (by kernel_rfl) rfl (λw=>zcB (by decide)) k
end
mutual
theorem zv1:∀ (x:DStmt) (n:Int),0≤n→-1≤zrD x n∧zrD x n≤n
  | .mk k s t b e,n,hn=>by
    rw [zrD];have h1:=zjH b (n-1) (by omega);have h2:=zjH e (ziu b (n-1)) h1.1;omega
theorem zjH:∀ (l:List DStmt) (n:Int),-1≤n→-1≤ziu l n∧ziu l n≤n
  | [],n,hn=>by rw [ziu];omega
  | x :: l,n,hn=>by
    rw [ziu];split
    · rename_i h
      have h1:=zv1 x n h;have h2:=zjH l (zrD x n) h1.1;omega
    omega
end
theorem zuh (x:DStmt) (n:Int):zrD x n=ziu x.els (ziu x.body (n-1)):=by cases x;rw [zrD];rfl
def zv2 (l:List DStmt):Prop:=∀ {w W:World} {v:Value} {n:Int},Is W v l→Ext W w→-1≤n→n≤1000→CALL tp 128 [v,.int .i64 n] w λr w'=>Ext w w'∧(r=.int .i64 (ziu l n))
def F128 (a0 a1:Value) (w:World) (R:VW):Prop:=
 LOOPI [1,5] [a1,(iV 0)] w λu2 w n2=>
 rN 158 3 a0 w λx8=>
 rC (u2 5) x8 w λx9=>
 BR x9
 (rB .geq 3 T0 U0 (u2 1) (iV 0) w λx12=>
 BR x12
 ((λw=>rX 158 a0 (u2 5) w λx18=>
 rF 166 x18 4 w λx19=>
 rL 158 x19 w λx20=>
 rX 158 a0 (u2 5) w λx23=>
 rF 166 x23 3 w λx24=>
 rL 158 x24 w λx25=>
 rB .sub 3 T0 U0 (u2 1) (iV 1) w λx27=>
 (λw_=>cL 128 [x25,x27] w_ λx28 w=>
 Ext w_ w ∧
 cL 128 [x20,x28] w λx29 w=>
 rI (u2 5) w λx15=>
 n2 [x29,x15] w) w) (World.drew1 w))
 (R (u2 1) w))
 (R (u2 1) w)
theorem F128_call {a0 a1 w R} (h:F128 a0 a1 w R):cL 128 [a0,a1] w R:=co (g:=(kf [] [(2,1073741794,[1,5])] [(4,[0,1,2,3,4,5,6,7,8,9,10,11,12,13,14],4096)])) Tryz.func128 h
theorem zfy {w:World} {v0:Value} {W0:World} {l:(List DStmt)} {n:Int}  (h0:Is W0 v0 l) (e0:Ext W0 w) (ih:∀ x∈l,zv2 x.body∧zv2 x.els) (hn0:-1≤n) (hn1:n≤1000) :
   CALL tp 128 [v0,.int .i64 n] w λr w'=>Ext w w'∧(r=.int .i64 (ziu l n)):=by
 refine F128_call ?_;unfold F128;refine zat (l.length) (λk us w'=>∃ (n1:Int),us=[.int .i64 n1,.int .i64 (k:Int)]∧Ext w w'∧(ziu l n=ziu (l.drop k) n1∧-1≤n1∧n1≤1000∧k≤l.length)) (0) (by omega) ⟨n,rfl,Ext.refl w,by simp,hn0,hn1,by omega⟩ ?_;rintro k m2 uu2 w1_ hk2 ⟨n1,hu,η1,hcl,hm0,hm1,hkl⟩;obtain ⟨hu0,hu1⟩:=zd4 hu;try rw [hu0]
 try rw [hu1]
 try clear hu0 hu1
 have hln8:=zah h0;refine zae ze5 h0 ?_;refine zaf ?_;refine br (λc1=>?_) (λc1=>?_)
 · refine zbW ?_
   refine br (λc2=>?_) (λc2=>?_)
   · have η2:=zai w1_
     have hk:k<l.length:=by omega
     have hcb:=zjH (l[k]).body (n1-1) (by omega);refine zad ze5 zbO h0 (by omega) λb18 o18 h18=>?_;refine zaa zdq ?_;refine zab zdp (zcz h18) (e0.t (η1.t η2)) λv20 h20=>?_;refine zad ze5 zbO h0 (by omega) λb23 o23 h23=>?_;refine zaa zdV ?_;refine zab zdp (zcU h23) (e0.t (η1.t η2)) λv25 h25=>?_;refine za0 (by unfold I64;omega) ?_;refine ((ih _ (List.getElem_mem hk)).1 h25 (e0.t (η1.t η2)) (by omega) (by omega)).mono ?_;rintro _ w3_ ⟨η3,rfl⟩;refine ⟨η3,?_⟩;refine ((ih _ (List.getElem_mem hk)).2 h20 (e0.t (η1.t (η2.t η3))) hcb.1 (by omega)).mono ?_;rintro _ w4_ ⟨η4,rfl⟩;refine zaB ?_;refine ⟨m2-1,by omega,k+1,by omega,_,rfl,(η1.t (η2.t (η3.t η4))),?_⟩;have h2:=zjH (l[k]).els _ hcb.1;refine ⟨?_,by omega,by omega,by omega⟩;rw [hcl,List.drop_eq_getElem_cons hk,ziu,if_pos (by omega),zuh]
   refine ⟨η1,?_⟩;rw [hcl];cases h:l.drop k with
   | nil=>rw [ziu]
   | cons x r=>rw [ziu,if_neg (by omega)]
 refine ⟨η1,?_⟩;rw [hcl,List.drop_eq_nil_of_le (by omega),ziu]
theorem zjI (l:List DStmt):zv2 l:=by
 have h:∀ x:DStmt,zv2 x.body∧zv2 x.els:=λx=>by
   refine DStmt.ind (p:=λx=>zv2 x.body∧zv2 x.els) (λt hb he=>⟨?_,?_⟩) x
   · intro w W v n h e h0 h1;exact zfy h e hb h0 h1
   intro w W v n h e h0 h1;exact zfy h e he h0 h1
 intro w W v n hv e h0 h1;exact zfy hv e (λx _=>h x) h0 h1
theorem zlN {W w:World} {g lo1 hi1:Nat} {bs:List UInt8} {s:Cur} {v1:Value} {body:List DStmt} (hC:CurAt W g bs s w) (h1:OwnI lo1 hi1 w v1 body) (hlo:lo1≤w.heap.size) (hhi:hi1≤w.heap.size) (hg1:g<lo1) (hbl:body.length≤1000) :
   CALL tp 130 [.pointer (some ⟨g,0,none⟩),v1] w λr w'=>UpG g lo1 w w'∧CurAt W g bs (zjA bs body s).2 w'∧RowI lo1 w'.heap.size 166 w' r (zjA bs body s).1:=by
 have hgl:=hC.lt;have hl3:((lks.length:Nat):Int)=3:=rfl;refine F130_call ?_;unfold F130;refine zsw λv9 w1 hx1 o9=>?_;have hs1:=hx1.size;refine (zde (hC.ext hx1) o9 (by omega) (by omega) (by omega) (by decide) (by decide)).mono ?_;rintro _ w2 ⟨hc2,hC2,rfl,hS10⟩;have hs2:=hc2.size;rw [hl3] at hC2;refine zsw λv12 w3 hx3 o12=>?_;have hs3:=hx3.size;refine (zde (hC2.ext hx3) o12 (by omega) (by omega) (by omega) (by decide) (by decide)).mono ?_;rintro _ w4 ⟨hc4,hC4,rfl,hS13⟩;have hs4:=hc4.size;rw [hl3] at hC4;refine zcN (lo:=w4.heap.size) (hi:=w4.heap.size) (lr _) (by unfold I64;omega) hS10 λv15 o15=>?_;refine zbE (β:=DStmt) ze5 zbO zwH (by decide) (zkU o15) λv16 w5 hx5 r16=>?_;have hs5:=hx5.size;have hu5:UpG g lo1 w w5:=(hx1.upG.trans hc2.upG1).trans ((hx3.upG.trans hc4.upG1).trans hx5.upG);have h15:=((((h1.ext hx1).chg hc2 (by omega)).ext hx3).chg hc4 (by omega)).ext hx5;have hC5:=hC4.ext hx5;obtain ⟨na,hna⟩:∃ x,x=zcM bs lks s:=⟨_,rfl⟩;obtain ⟨nb,hnb⟩:∃ x,x=zcM bs lks (zam bs 3 s):=⟨_,rfl⟩;rw [←hna] at hS10 o15 r16;rw [←hnb] at hS13;rw [←hna,←hnb]
 have hg:zjA bs body s=(if na=nb then (ze8 na :: (body++[zdJ na]),zam bs 3 (zam bs 3 s)) else if zbC bs 2 (zam bs 3 (zam bs 3 s))=0 then (ze8 na :: ze8 nb :: (body++[zdJ na]),zam bs 2 (zam bs 3 (zam bs 3 s)))
     else (ze8 na :: (body++[zdJ na]),zam bs 2 (zam bs 3 (zam bs 3 s)))):=by unfold zjA;rw [←hna,←hnb]
 clear hna hnb;refine JOIN.mk (λus w'=>∃ v l s',us=[v]∧ChgI g (g+1) w4 w'∧CurAt W g bs s' w'∧RowI w4.heap.size w'.heap.size 166 w' v l∧l.length≤2∧zjA bs body s=(l++(body++[zdJ na]),s')) ?_ ?_
 · refine zlm ?_
   refine br (λhne=>?_) (λhe=>?_)
   · refine (zf8 hC5 (by omega)).mono ?_
     rintro _ w6 ⟨hc6,hC6,rfl⟩;have hs6:=hc6.size;have r6:=r16.chg hc6 (by omega);refine br (λh0=>?_) (λh0=>?_)
     · refine zcN (lo:=w6.heap.size) (hi:=w6.heap.size) (lr _) (by unfold I64;omega) hS13 λv26 o26=>?_
       refine zcn (α:=DStmt) ze5 zbO zwH zqD (by decide) r6 (by omega) o26 (by omega) (by omega) (by rw [zak];simp) (by simp) λv28 w7 hc7 r28=>?_;refine ⟨v28,[ze8 na,ze8 nb],_,rfl,ChgI.out (hx5.toI.trans hc6) hc7 (by omega),hC6.chg hc7 (by omega) (by omega),r28,by simp,?_⟩;rw [hg,if_neg hne,if_pos h0];rfl
     refine ⟨v16,[ze8 na],_,rfl,hx5.toI.trans hc6,hC6,r6.mono (by omega) (by omega),by simp,?_⟩;rw [hg,if_neg hne,if_neg h0];rfl
   refine ⟨v16,[ze8 na],_,rfl,hx5.toI,hC5,r16,by simp,?_⟩;rw [hg,if_pos (Decidable.not_not.1 he)];rfl
 rintro u6 w6 ⟨v,l,s',hu,hc6,hC6,r6,hll,hgd⟩;try replace hu:=zbG hu
 rw [hu,hgd];have hs6:=hc6.size;have h16:=(((((h1.ext hx1).chg hc2 (by omega)).ext hx3).chg hc4 (by omega))).chg hc6 (by omega);refine zh2 (α:=DStmt) (lo0:=lo1) ze5 zbO zqD r6 (by omega) h16 (by omega) (by omega) (by omega) (by rw [zak];omega) (by omega) λv31 w7 hc7 r31=>?_;have hs7:=hc7.size;refine zcN (lo:=w7.heap.size) (hi:=w7.heap.size) (lr _) (by unfold I64;omega) hS10 λv34 o34=>?_;refine zcn (α:=DStmt) ze5 zbO zwH zqD (by decide) r31 (by omega) o34 (by omega) (by omega) (by rw [zak,List.length_append];omega) (by rw [List.length_append];omega) λv36 w8 hc8 r36=>?_;refine ⟨(((hx1.upG.trans hc2.upG1).trans (hx3.upG.trans hc4.upG1)).trans hc6.upG1).trans ((hc7.upG (by omega)).trans (hc8.upG (by omega))),(hC6.chg hc7 (by omega) (by omega)).chg hc8 (by omega) (by omega),?_⟩;simpa [zdJ] using r36
theorem zui {P:Program} {X:Nat→Prop} {m:Sem Value} {w:World} {v:Value} {K:Value→Prop} (h:∀ w':World,m.run P w'=.ok v w') (k:K v):RDX P X m w K:=⟨v,λw' _=>h w',k⟩
theorem zsx (bs:List UInt8) (s:Cur):2≤(zjB bs s).length∧(zjB bs s).length≤4:=by
 have:=zsn bs s;unfold zjB;rw [List.length_take];show 2≤min _ 4∧min _ 4≤4;omega
end Go.Proofs.YtakjaofncelghaaGreat
namespace Go.Sh
open Rep (rep)
section
variable {P:Program} {w w0 w':World} {α:Type} [Rep α] {lo hi e:Nat} {v:Value} {l:List α}
theorem RowG.flat [Flat α] {F:List Nat} (h:RowG F e w v l):F=[]∨∃ b,F=[b]:=by
 rcases h with ⟨_,_,_,rfl⟩ | ⟨xs,Fi,_,hc,rfl,_⟩
 · exact .inl rfl
 have:=Cells.flat (xs:=xs) hc;subst this;rcases hv:v.ownBlock with _ | b
 · exact .inl (by simp)
 exact .inr ⟨b,by simp⟩
theorem zsy [RepZ α]:OwnI lo hi w (mkv α (RepZ.zc α)) (RepZ.zv:α):=⟨[],⟨⟨RepZ.zc α,RepZ.zr w,rfl⟩,List.nodup_nil,Wr.nil w⟩,by simp⟩
theorem Chg.ofI {F:List Nat} (h:Chg F w w') (hF:∀ b∈F,lo≤b∧b<hi):ChgI lo hi w w':=
 ⟨h.os,h.tape,h.output,h.size,λb hb hx=>h.block b hb λhm=>by have:=hF b hm;omega⟩
theorem ChgI.ext_left {w1:World} (hx:Ext w w1) (h:ChgI lo hi w1 w'):ChgI lo hi w w':=
 ⟨h.os.trans hx.os,h.tape.trans hx.tape,h.output.trans hx.output,Nat.le_trans hx.size h.size,λb hb ho=>by rw [h.block b (Nat.lt_of_lt_of_le hb hx.size) ho,hx.block b hb]⟩
theorem zfd [Flat α] {t ty:TypeId} {by_:Nat} {u:Value} {x:α} {lo2 hi2:Nat} {K:Value→World→Prop} (ht:P.underlying t=some (.slice e)) (he:tyI P e=some (Rep.size α,by_,Rep.agg α)) (hz:zbX P e=true)
   (hzc:(P.info? e).map (λi=>(i.zero.map (·.cells.size)))=some (some (Rep.size α))) (hsz:Rep.size α≤1000) (hv:RowI lo hi e w v l) (hx:OwnI lo2 hi2 w u x) (hm:l.length+1≤maxLen) (hb:(l.length+1)*by_≤140737488355328)
   (k:∀ v' w' lo' hi',ChgI lo hi w w'→RowI lo' hi' e w' v' (l++[x])→(lo'=lo∧hi'=hi∨lo'=w.heap.size∧hi'=w'.heap.size)→K v' w'):OP P (Instr.buildSlice t 1 #[(0,u)]) w λs w1=>OP P (Builtin.append_ #[t,t] ty [v,s].toArray) w1 K:=by
 obtain ⟨F,h1,h2,h3⟩:=zfx.1 hv;obtain ⟨G,hmx,hG⟩:=hx;have hGn:G=[]:=by obtain ⟨cs,hr,_⟩:=hmx.own;exact Flat.flat hr
 subst hGn;refine zd9 (K:=λ_=>K) ht he hz hzc hsz h1 h2 hmx (by simp) hm hb (λw1 v' w' G' hx1 hc hR hN hs=>?_) λ_ _ _ h=>h;have hcI:=ChgI.ext_left hx1 (hc.ofI h3);have hlt:=hR.lt;rcases hR.flat with rfl | ⟨b,rfl⟩
 · exact k v' w' lo hi hcI (zfx.2 ⟨[],hR,hN,by simp⟩) (.inl ⟨rfl,rfl⟩)
 rcases hs b (by simp) with h | h | h
 · exact k v' w' lo hi hcI (zfx.2 ⟨[b],hR,hN,λc hc=>by simp at hc;subst hc;exact h3 _ h⟩) (.inl ⟨rfl,rfl⟩)
 · cases h
 exact k v' w' w.heap.size w'.heap.size hcI (zfx.2 ⟨[b],hR,hN,λc hc=>by simp at hc;subst hc;exact ⟨h,hlt _ (by simp)⟩⟩) (.inr ⟨rfl,rfl⟩)
end
end Go.Sh
namespace Go.Proofs.YtakjaofncelghaaGreat
open Go Go.Sh Go.Proofs
open Rep (rep)
def F283 (a0 a1:Value) (w:World) (R:VW):Prop:=
 LOOPI [5] [(iV 0)] w λu2 w n2=>
 rN 158 3 a0 w λx10=>
 rC (u2 5) x10 w λx11=>
 BR x11
 (rX 158 a0 (u2 5) w λx16=>
 rL 166 x16 w λx17=>
 oP (aL 166) w λx6 w=>
 oS 166 x6 x17 w λw=>
 JOIN [7] (λJ6=>
 rF 166 x6 0 w λx18=>
 rL 3 x18 w λx19=>
 rQ x19 (iV 2) w λx20=>
 BR x20
 (J6 [vT] w)
 (rF 166 x6 0 w λx22=>
 rL 3 x22 w λx23=>
 rQ x23 (iV 3) w λx24=>
 J6 [x24] w)) (λu6 w=>
 rL 166 x6 w λx26=>
 cL 294 [x26] w λx27 w=>
 rT x27 w λx28=>
 BR x28
 (R vF w)
 (GBR (u6 7)
 (rQ a1 (iV 0) w λx33=>
 BR x33
 (R vF w)
 (GBR (u6 7)
 (rF 166 x6 3 w λx39=>
 rL 158 x39 w λx40=>
 rB .sub 3 T0 U0 a1 (iV 1) w λx42=>
 cL 283 [x40,x42] w λx43 w=>
 rT x43 w λx44=>
 GBR x44
 (R vF w)
 (rF 166 x6 4 w λx46=>
 rL 158 x46 w λx47=>
 rB .sub 3 T0 U0 a1 (iV 1) w λx49=>
 cL 283 [x47,x49] w λx50 w=>
 rT x50 w λx51=>
 BR x51
 (R vF w)
 (rI (u2 5) w λx13=>
 n2 [x13] w))
 (BR undef
 (R vF w)
 (BR undef
 (R vF w)
 (rI (u2 5) w λx13=>
 n2 [x13] w))))
 (rI (u2 5) w λx13=>
 n2 [x13] w)
 (BR undef
 (BR undef
 (R vF w)
 (rI (u2 5) w λx13=>
 n2 [x13] w))
 (rI (u2 5) w λx13=>
 n2 [x13] w))))
 (GBR (u6 7)
 (rF 166 x6 3 w λx39=>
 rL 158 x39 w λx40=>
 rB .sub 3 T0 U0 a1 (iV 1) w λx42=>
 cL 283 [x40,x42] w λx43 w=>
 rT x43 w λx44=>
 GBR x44
 (R vF w)
 (rF 166 x6 4 w λx46=>
 rL 158 x46 w λx47=>
 rB .sub 3 T0 U0 a1 (iV 1) w λx49=>
 cL 283 [x47,x49] w λx50 w=>
 rT x50 w λx51=>
 BR x51
 (R vF w)
 (rI (u2 5) w λx13=>
 n2 [x13] w))
 (BR undef
 (R vF w)
 (BR undef
 (R vF w)
 (rI (u2 5) w λx13=>
 n2 [x13] w))))
 (rI (u2 5) w λx13=>
 n2 [x13] w)
 (BR undef
 (BR undef
 (R vF w)
 (rI (u2 5) w λx13=>
 n2 [x13] w))
 (rI (u2 5) w λx13=>
 n2 [x13] w)))
 (BR undef
 (BR undef
 (R vF w)
 (GBR (u6 7)
 (rF 166 x6 3 w λx39=>
 rL 158 x39 w λx40=>
 rB .sub 3 T0 U0 a1 (iV 1) w λx42=>
 cL 283 [x40,x42] w λx43 w=>
 rT x43 w λx44=>
 GBR x44
 (R vF w)
 (rF 166 x6 4 w λx46=>
 rL 158 x46 w λx47=>
 rB .sub 3 T0 U0 a1 (iV 1) w λx49=>
 cL 283 [x47,x49] w λx50 w=>
 rT x50 w λx51=>
 BR x51
 (R vF w)
 (rI (u2 5) w λx13=>
 n2 [x13] w))
 (BR undef
 (R vF w)
 (BR undef
 (R vF w)
 (rI (u2 5) w λx13=>
 n2 [x13] w))))
 (rI (u2 5) w λx13=>
 n2 [x13] w)
 (BR undef
 (BR undef
 (R vF w)
 (rI (u2 5) w λx13=>
 n2 [x13] w))
 (rI (u2 5) w λx13=>
 n2 [x13] w))))
 (GBR (u6 7)
 (rF 166 x6 3 w λx39=>
 rL 158 x39 w λx40=>
 rB .sub 3 T0 U0 a1 (iV 1) w λx42=>
 cL 283 [x40,x42] w λx43 w=>
 rT x43 w λx44=>
 GBR x44
 (R vF w)
 (rF 166 x6 4 w λx46=>
 rL 158 x46 w λx47=>
 rB .sub 3 T0 U0 a1 (iV 1) w λx49=>
 cL 283 [x47,x49] w λx50 w=>
 rT x50 w λx51=>
 BR x51
 (R vF w)
 (rI (u2 5) w λx13=>
 n2 [x13] w))
 (BR undef
 (R vF w)
 (BR undef
 (R vF w)
 (rI (u2 5) w λx13=>
 n2 [x13] w))))
 (rI (u2 5) w λx13=>
 n2 [x13] w)
 (BR undef
 (BR undef
 (R vF w)
 (rI (u2 5) w λx13=>
 n2 [x13] w))
 (rI (u2 5) w λx13=>
 n2 [x13] w)))))))
 (R vT w)
theorem F283_call {a0 a1 w R} (h:F283 a0 a1 w R):cL 283 [a0,a1] w R:=co (g:=(kf [(6,66846848,[7])] [(2,36028797018963952,[5])] [])) Tryz.func283 h
def F245 (a0:Value) (w:World) (R:VW):Prop:=
 cL 128 [a0,(iV 60)] w λx4 w=>
 rB .geq 3 T0 U0 x4 (iV 0) w λx5=>
 BR x5
 (cL 283 [a0,(iV 6)] w λx8 w=>
 R x8 w)
 (R vF w)
theorem F245_call {a0 w R} (h:F245 a0 w R):cL 245 [a0] w R:=co (g:=(kf [] [] [])) Tryz.func245 h
def F190 (a0:Value) (w:World) (R:VW):Prop:=
 oX 92 a0 w λx1 w=>
 oP (Instr.buildSlice 24 0 #[]) w λx5 w=>
 LOOPI [3,4] [x5,(iV 0)] w λu3 w n3=>
 rF 92 x1 2 w λx7=>
 rL 90 x7 w λx8=>
 rN 90 3 x8 w λx9=>
 rC (u3 4) x9 w λx10=>
 BR x10
 (rF 92 x1 2 w λx14=>
 rL 90 x14 w λx15=>
 rX 90 x15 (u3 4) w λx17=>
 rF 160 x17 0 w λx18=>
 rL 9 x18 w λx19=>
 oP (bS 24 x19) w λx20 w=>
 oP (aP 24 (u3 3) x20) w λx21 w=>
 rI (u3 4) w λx12=>
 n3 [x21,x12] w)
 (R (u3 3) w)
theorem F190_call {a0 w R} (h:F190 a0 w R):cL 190 [a0] w R:=co (g:=(kf [] [(3,4194264,[3,4])] [])) Tryz.func190 h
def F284 (a0 a1 a2:Value) (w:World) (R:VW):Prop:=
 cL 220 [a1,a2] w λx9 w=>
 BR x9
 (R a0 w)
 (cL 220 [a0,a2] w λx13 w=>
 BR x13
 (R a0 w)
 (oP (bS 24 a2) w λx18 w=>
 oP (aP 24 a0 x18) w λx19 w=>
 R x19 w))
theorem F284_call {a0 a1 a2 w R} (h:F284 a0 a1 a2 w R):cL 284 [a0,a1,a2] w R:=co (g:=(kf [] [] [])) Tryz.func284 h
def F246 (a0 a1 a2:Value) (w:World) (R:VW):Prop:=
 oX 92 a0 w λx3 w=>
 LOOPI [2,7] [a2,(iV 0)] w λu2 w n2=>
 rN 158 3 a1 w λx13=>
 rC (u2 7) x13 w λx14=>
 BR x14
 (rX 158 a1 (u2 7) w λx19=>
 rL 166 x19 w λx20=>
 oP (aL 166) w λx8 w=>
 oS 166 x8 x20 w λw=>
 JOIN [2] (λJ14=>
 rF 166 x8 0 w λx21=>
 rL 3 x21 w λx22=>
 rQ x22 (iV 1) w λx24=>
 BR x24
 (rF 92 x3 0 w λx26=>
 rL 24 x26 w λx27=>
 rF 166 x8 1 w λx28=>
 rL 9 x28 w λx29=>
 cL 284 [(u2 2),x27,x29] w λx30 w=>
 J14 [x30] w)
 (rQ x22 (iV 6) w λx32=>
 BR x32
 (rF 92 x3 1 w λx35=>
 rL 24 x35 w λx36=>
 rF 166 x8 1 w λx37=>
 rL 9 x37 w λx38=>
 cL 284 [(u2 2),x36,x38] w λx39 w=>
 J14 [x39] w)
 (rQ x22 (iV 7) w λx33=>
 BR x33
 (rF 92 x3 1 w λx35=>
 rL 24 x35 w λx36=>
 rF 166 x8 1 w λx37=>
 rL 9 x37 w λx38=>
 cL 284 [(u2 2),x36,x38] w λx39 w=>
 J14 [x39] w)
 (rQ x22 (iV 4) w λx41=>
 BR x41
 ((λw=>rL 92 x3 w λx44=>
 rF 166 x8 1 w λx46=>
 rL 9 x46 w λx47=>
 (λw_=>cL 190 [x44] w_ λx45 w=>
 Ext w_ w ∧
 cL 284 [(u2 2),x45,x47] w λx48 w=>
 J14 [x48] w) w) (World.drew1 w))
 (rQ x22 (iV 5) w λx42=>
 BR x42
 ((λw=>rL 92 x3 w λx44=>
 rF 166 x8 1 w λx46=>
 rL 9 x46 w λx47=>
 (λw_=>cL 190 [x44] w_ λx45 w=>
 Ext w_ w ∧
 cL 284 [(u2 2),x45,x47] w λx48 w=>
 J14 [x48] w) w) (World.drew1 w))
 (J14 [(u2 2)] w)))))) (λu14 w=>
 JOIN [2] (λJ20=>
 rF 166 x8 0 w λx49=>
 rL 3 x49 w λx50=>
 rQ x50 (iV 1) w λx51=>
 BR x51
 (rF 166 x8 2 w λx62=>
 rL 116 x62 w λx63=>
 cL 153 [x63] w λx64 w=>
 LOOPI [2,10] [(u14 2),(iV 0)] w λu17 w n17=>
 rN 24 3 x64 w λx67=>
 rC (u17 10) x67 w λx68=>
 BR x68
 ((λw=>rF 92 x3 0 w λx72=>
 rL 24 x72 w λx73=>
 rX 24 x64 (u17 10) w λx76=>
 rL 9 x76 w λx77=>
 cL 284 [(u17 2),x73,x77] w λx78 w=>
 rI (u17 10) w λx70=>
 n17 [x78,x70] w) (World.drew1 w))
 (J20 [(u17 2)] w))
 (rF 166 x8 0 w λx53=>
 rL 3 x53 w λx54=>
 rQ x54 (iV 2) w λx55=>
 BR x55
 (rF 166 x8 2 w λx62=>
 rL 116 x62 w λx63=>
 cL 153 [x63] w λx64 w=>
 LOOPI [2,10] [(u14 2),(iV 0)] w λu17 w n17=>
 rN 24 3 x64 w λx67=>
 rC (u17 10) x67 w λx68=>
 BR x68
 ((λw=>rF 92 x3 0 w λx72=>
 rL 24 x72 w λx73=>
 rX 24 x64 (u17 10) w λx76=>
 rL 9 x76 w λx77=>
 cL 284 [(u17 2),x73,x77] w λx78 w=>
 rI (u17 10) w λx70=>
 n17 [x78,x70] w) (World.drew1 w))
 (J20 [(u17 2)] w))
 (rF 166 x8 0 w λx58=>
 rL 3 x58 w λx59=>
 rQ x59 (iV 3) w λx60=>
 BR x60
 (rF 166 x8 2 w λx62=>
 rL 116 x62 w λx63=>
 cL 153 [x63] w λx64 w=>
 LOOPI [2,10] [(u14 2),(iV 0)] w λu17 w n17=>
 rN 24 3 x64 w λx67=>
 rC (u17 10) x67 w λx68=>
 BR x68
 ((λw=>rF 92 x3 0 w λx72=>
 rL 24 x72 w λx73=>
 rX 24 x64 (u17 10) w λx76=>
 rL 9 x76 w λx77=>
 cL 284 [(u17 2),x73,x77] w λx78 w=>
 rI (u17 10) w λx70=>
 n17 [x78,x70] w) (World.drew1 w))
 (J20 [(u17 2)] w))
 (J20 [(u14 2)] w)))) (λu20 w=>
 rL 92 x3 w λx79=>
 rF 166 x8 3 w λx80=>
 rL 158 x80 w λx81=>
 cL 246 [x79,x81,(u20 2)] w λx83 w=>
 rL 92 x3 w λx84=>
 rF 166 x8 4 w λx85=>
 rL 158 x85 w λx86=>
 cL 246 [x84,x86,x83] w λx88 w=>
 rI (u2 7) w λx16=>
 n2 [x88,x16] w)))
 (R (u2 2) w)
theorem F246_call {a0 a1 a2 w R} (h:F246 a0 a1 a2 w R):cL 246 [a0,a1,a2] w R:=co (g:=(kf [(14,562949951324164,[2]),(20,604462909244364633933316,[2])] [(2,618970019642690137449561988,[2,7]),(17,604426016319167168250884,[2,10])] [(13,[0,1,3,4,2,5,6],4),(19,[0,1,2,3,4,5,6,7,8],0)])) Tryz.func246 h
def F189 (a0:Value) (w:World) (R:VW):Prop:=
 oX 92 a0 w λx1 w=>
 rF 92 x1 0 w λx4=>
 rL 24 x4 w λx5=>
 cL 148 [x5,(iV 6)] w λx6 w=>
 rT x6 w λx7=>
 BR x7
 (R vF w)
 (rF 92 x1 1 w λx9=>
 rL 24 x9 w λx10=>
 cL 148 [x10,(iV 6)] w λx11 w=>
 rT x11 w λx12=>
 BR x12
 (R vF w)
 (rF 92 x1 2 w λx15=>
 rL 90 x15 w λx16=>
 rN 90 3 x16 w λx17=>
 rB .gtr 3 T0 U0 x17 (iV 8) w λx18=>
 BR x18
 (R vF w)
 (LOOPI [3] [(iV 0)] w λu4 w n4=>
 rF 92 x1 2 w λx21=>
 rL 90 x21 w λx22=>
 rN 90 3 x22 w λx23=>
 rC (u4 3) x23 w λx24=>
 BR x24
 (rF 92 x1 2 w λx27=>
 rL 90 x27 w λx28=>
 rX 90 x28 (u4 3) w λx30=>
 rF 160 x30 0 w λx31=>
 rL 9 x31 w λx32=>
 cL 219 [x32] w λx33 w=>
 rT x33 w λx34=>
 BR x34
 (R vF w)
 (rF 92 x1 2 w λx36=>
 rL 90 x36 w λx37=>
 rX 90 x37 (u4 3) w λx39=>
 rF 160 x39 1 w λx40=>
 rL 158 x40 w λx41=>
 cL 245 [x41] w λx42 w=>
 rT x42 w λx43=>
 BR x43
 (R vF w)
 (rI (u4 3) w λx26=>
 n4 [x26] w)))
 (R vT w))))
theorem F189_call {a0 w R} (h:F189 a0 w R):cL 189 [a0] w R:=co (g:=(kf [] [(4,35184371040268,[3])] [])) Tryz.func189 h
def F191 (a0:Value) (w:World) (R:VW):Prop:=
 oX 92 a0 w λx1 w=>
 oP (Instr.buildSlice 24 0 #[]) w λx5 w=>
 LOOPI [3,4] [x5,(iV 0)] w λu3 w n3=>
 rL 92 x1 w λx6=>
 cL 189 [x6] w λx7 w=>
 BR x7
 (rF 92 x1 2 w λx10=>
 rL 90 x10 w λx11=>
 rN 90 3 x11 w λx12=>
 rC (u3 4) x12 w λx13=>
 BR x13
 ((λw=>rL 92 x1 w λx17=>
 rF 92 x1 2 w λx18=>
 rL 90 x18 w λx19=>
 rX 90 x19 (u3 4) w λx21=>
 rF 160 x21 1 w λx22=>
 rL 158 x22 w λx23=>
 cL 246 [x17,x23,(u3 3)] w λx25 w=>
 rI (u3 4) w λx16=>
 n3 [x25,x16] w) (World.drew1 w))
 (R (u3 3) w))
 (R (u3 3) w)
theorem F191_call {a0 w R} (h:F191 a0 w R):cL 191 [a0] w R:=co (g:=(kf [] [(3,67108824,[3,4])] [(5,[0,1,2,3,4,5,6,7,8,9],0)])) Tryz.func191 h
def F124 (a0:Value) (w:World) (R:VW):Prop:=
 oX 92 a0 w λx1 w=>
 rL 92 x1 w λx4=>
 cL 189 [x4] w λx5 w=>
 rT x5 w λx6=>
 BR x6
 (R (iV 1) w)
 (rF 92 x1 0 w λx8=>
 rL 24 x8 w λx9=>
 cL 149 [x9] w λx10 w=>
 BR x10
 (R (iV 2) w)
 (rF 92 x1 1 w λx12=>
 rL 24 x12 w λx13=>
 cL 149 [x13] w λx14 w=>
 BR x14
 (R (iV 2) w)
 (rL 92 x1 w λx17=>
 cL 190 [x17] w λx18 w=>
 cL 149 [x18] w λx19 w=>
 BR x19
 (R (iV 2) w)
 (rL 92 x1 w λx22=>
 cL 191 [x22] w λx23 w=>
 rN 24 3 x23 w λx24=>
 rB .gtr 3 T0 U0 x24 (iV 0) w λx25=>
 BR x25
 (R (iV 3) w)
 (rL 92 x1 w λx27=>
 cL 192 [x27,(Value.string (ByteArray.mk #[109,97,105,110]))] w λx28 w=>
 rB .lss 3 T0 U0 x28 (iV 0) w λx29=>
 BR x29
 (R (iV 4) w)
 (R (iV 0) w))))))
theorem F124_call {a0 w R} (h:F124 a0 w R):cL 124 [a0] w R:=co (g:=(kf [] [] [])) Tryz.func124 h
def zxL (t:DStmt):Prop:=(t.kind=1∧zbk t.name=true∧zaU 6 t.term=true∧t.body=[]∧t.els=[])∨((t.kind=4∨t.kind=5∨t.kind=6∨t.kind=7)∧zbk t.name=true∧t.term=term0∧t.body=[]∧t.els=[]) ∨
 (t.kind=8∧t.name=ByteArray.mk #[]∧t.term=term0∧t.body=[]∧t.els=[])∨(t.kind=2∧t.name=ByteArray.mk #[]∧zaU 6 t.term=true)∨(t.kind=3∧t.name=ByteArray.mk #[]∧zaU 6 t.term=true∧t.els=[])
theorem StR.one {pr:List ByteArray} {n:Nat} {t:DStmt} (hp:∀ x∈pr,zbk x=true) (h:StR pr n t):zxL t:=by
 have h0:St0 pr t→zxL t:=λh=>by
   rcases h with ⟨h1,h2,h3,h4,h5⟩ | ⟨h1,h2,h3,h4,h5⟩ | ⟨h1,h2,h3,h4,h5⟩ | ⟨h1,h2,h3,h4,h5⟩
   · exact .inl ⟨h1,zpF h2,h3.1,h4,h5⟩
   · exact .inr (.inl ⟨by omega,hp _ h2,h3,h4,h5⟩)
   · exact .inr (.inl ⟨by omega,zub h2,h3,h4,h5⟩)
   exact .inr (.inr (.inl ⟨h1,h2,h3,h4,h5⟩))
 cases n with
 | zero=>exact h0 h.zero
 | succ n=>
   rcases h.succ with h | ⟨h1,h2,h3,h4,h5⟩
   · exact h0 h
   rcases h1 with h1 | ⟨h1,h6⟩
   · exact .inr (.inr (.inr (.inl ⟨h1,h2,h3.1⟩)))
   exact .inr (.inr (.inr (.inr ⟨h1,h2,h3.1,h6⟩)))
def F294 (a0:Value) (w:World) (R:VW):Prop:=
 oX 166 a0 w λx1 w=>
 rF 166 x1 2 w λx4=>
 rL 116 x4 w λx5=>
 rD (Instr.build 116 #[]) w λx6=>
 cL 154 [x5,x6] w λx7 w=>
 rF 166 x1 0 w λx8=>
 rL 3 x8 w λx9=>
 rQ x9 (iV 1) w λx11=>
 BR x11
 (rF 166 x1 1 w λx12=>
 rL 9 x12 w λx13=>
 cL 219 [x13] w λx14 w=>
 BR x14
 (rF 166 x1 2 w λx16=>
 rL 116 x16 w λx17=>
 cL 152 [x17] w λx18 w=>
 BR x18
 (rF 166 x1 3 w λx21=>
 rL 158 x21 w λx22=>
 rN 158 3 x22 w λx23=>
 rF 166 x1 4 w λx24=>
 rL 158 x24 w λx25=>
 rN 158 3 x25 w λx26=>
 rB .add 3 T0 T0 x23 x26 w λx27=>
 rQ x27 (iV 0) w λx28=>
 R x28 w)
 (R vF w))
 (R vF w))
 (rQ x9 (iV 2) w λx31=>
 BR x31
 (rF 166 x1 1 w λx32=>
 rL 9 x32 w λx33=>
 rB .eql 9 T0 U0 x33 (Value.string (ByteArray.mk #[])) w λx34=>
 BR x34
 (rF 166 x1 2 w λx36=>
 rL 116 x36 w λx37=>
 cL 152 [x37] w λx38 w=>
 R x38 w)
 (R vF w))
 (rQ x9 (iV 3) w λx41=>
 BR x41
 (rF 166 x1 1 w λx42=>
 rL 9 x42 w λx43=>
 rB .eql 9 T0 U0 x43 (Value.string (ByteArray.mk #[])) w λx44=>
 BR x44
 (rF 166 x1 2 w λx46=>
 rL 116 x46 w λx47=>
 cL 152 [x47] w λx48 w=>
 BR x48
 (rF 166 x1 4 w λx51=>
 rL 158 x51 w λx52=>
 rN 158 3 x52 w λx53=>
 rQ x53 (iV 0) w λx54=>
 R x54 w)
 (R vF w))
 (R vF w))
 (rQ x9 (iV 4) w λx57=>
 BR x57
 (rF 166 x1 1 w λx61=>
 rL 9 x61 w λx62=>
 cL 219 [x62] w λx63 w=>
 BR x63
 (BR x7
 (rF 166 x1 3 w λx68=>
 rL 158 x68 w λx69=>
 rN 158 3 x69 w λx70=>
 rF 166 x1 4 w λx71=>
 rL 158 x71 w λx72=>
 rN 158 3 x72 w λx73=>
 rB .add 3 T0 T0 x70 x73 w λx74=>
 rQ x74 (iV 0) w λx75=>
 R x75 w)
 (R vF w))
 (R vF w))
 (rQ x9 (iV 5) w λx58=>
 BR x58
 (rF 166 x1 1 w λx61=>
 rL 9 x61 w λx62=>
 cL 219 [x62] w λx63 w=>
 BR x63
 (BR x7
 (rF 166 x1 3 w λx68=>
 rL 158 x68 w λx69=>
 rN 158 3 x69 w λx70=>
 rF 166 x1 4 w λx71=>
 rL 158 x71 w λx72=>
 rN 158 3 x72 w λx73=>
 rB .add 3 T0 T0 x70 x73 w λx74=>
 rQ x74 (iV 0) w λx75=>
 R x75 w)
 (R vF w))
 (R vF w))
 (rQ x9 (iV 6) w λx59=>
 BR x59
 (rF 166 x1 1 w λx61=>
 rL 9 x61 w λx62=>
 cL 219 [x62] w λx63 w=>
 BR x63
 (BR x7
 (rF 166 x1 3 w λx68=>
 rL 158 x68 w λx69=>
 rN 158 3 x69 w λx70=>
 rF 166 x1 4 w λx71=>
 rL 158 x71 w λx72=>
 rN 158 3 x72 w λx73=>
 rB .add 3 T0 T0 x70 x73 w λx74=>
 rQ x74 (iV 0) w λx75=>
 R x75 w)
 (R vF w))
 (R vF w))
 (rQ x9 (iV 7) w λx60=>
 BR x60
 (rF 166 x1 1 w λx61=>
 rL 9 x61 w λx62=>
 cL 219 [x62] w λx63 w=>
 BR x63
 (BR x7
 (rF 166 x1 3 w λx68=>
 rL 158 x68 w λx69=>
 rN 158 3 x69 w λx70=>
 rF 166 x1 4 w λx71=>
 rL 158 x71 w λx72=>
 rN 158 3 x72 w λx73=>
 rB .add 3 T0 T0 x70 x73 w λx74=>
 rQ x74 (iV 0) w λx75=>
 R x75 w)
 (R vF w))
 (R vF w))
 (rQ x9 (iV 8) w λx78=>
 BR x78
 (rF 166 x1 1 w λx79=>
 rL 9 x79 w λx80=>
 rB .eql 9 T0 U0 x80 (Value.string (ByteArray.mk #[])) w λx81=>
 BR x81
 (BR x7
 (rF 166 x1 3 w λx86=>
 rL 158 x86 w λx87=>
 rN 158 3 x87 w λx88=>
 rF 166 x1 4 w λx89=>
 rL 158 x89 w λx90=>
 rN 158 3 x90 w λx91=>
 rB .add 3 T0 T0 x88 x91 w λx92=>
 rQ x92 (iV 0) w λx93=>
 R x93 w)
 (R vF w))
 (R vF w))
 (R vF w))))))))
theorem F294_call {a0 w R} (h:F294 a0 w R):cL 294 [a0] w R:=co (g:=(kf [] [] [])) Tryz.func294 h
theorem zsz {w:World} {v0:Value} {W0:World} {t:DStmt}  (h0:Is W0 v0 t) (e0:Ext W0 w) (hr:zxL t) :
   CALL tp 294 [v0] w λr w'=>Ext w w'∧(r=.bool true):=by
 refine F294_call ?_;unfold F294
 have hbe:t.kind≠2→t.kind≠3→t.body=[]∧t.els=[]:=λn2 n3=>by
   rcases hr with ⟨k1,k2,k3,k4,k5⟩ | ⟨k1,k2,k3,k4,k5⟩ | ⟨k1,k2,k3,k4,k5⟩ | ⟨k1,k2,k3⟩ | ⟨k1,k2,k3,k4⟩
   · exact ⟨k4,k5⟩
   · exact ⟨k4,k5⟩
   · exact ⟨k4,k5⟩
   · omega
   omega
 refine zao zbO rfl h0 e0 λw1_ η1 hA1 hV1=>?_;refine zaa zfH ?_;refine zab za4 (zdc hA1) (Ext.refl w1_) λv5 h5=>?_;refine zaX (cells:=#[.int .i64 0,.int .i64 0,.string ByteArray.empty,.slice none 0 0]) (by kernel_rfl) ?_;have o6:OwnI (α:=DTerm) w1_.heap.size w1_.heap.size w1_ (.agg #[.int .i64 0,.int .i64 0,.string ByteArray.empty,.slice none 0 0]) RepZ.zv:=zsy;refine (zit h5 (Ext.refl w1_) o6.is (Ext.refl w1_) rfl).mono ?_;rintro _ w2_ ⟨η2,rfl⟩;refine zaa zeR ?_;refine zac ty3 (zcy hA1) η2 λhI9=>?_;refine zag ?_;refine br (λc1=>?_) (λc1=>?_)
 · refine zaa zcL ?_
   refine zaq ty9 (zbo hA1) η2 λhS13=>?_;refine (zb4 ).mono ?_;rintro _ w3_ ⟨η3,rfl⟩;refine zcd (λc2=>?_) (λc2=>?_)
   · refine zaa zfH ?_
     refine zab za4 (zdc hA1) (η2.t η3) λv17 h17=>?_;refine (zco h17 (η2.t η3)).mono ?_;rintro _ w4_ ⟨η4,rfl⟩;refine zcd (λc3=>?_) (λc3=>?_)
     · refine zaa zdV ?_
       refine zab zdp (zcU hA1) (η2.t (η3.t η4)) λv22 h22=>?_;have hln23:=zah h22;refine zae ze5 h22 ?_;refine zaa zdq ?_;refine zab zdp (zcz hA1) (η2.t (η3.t η4)) λv25 h25=>?_;have hln26:=zah h25;refine zae ze5 h25 ?_;refine zcG (by obtain ⟨q1,q2⟩:=hbe (by omega) (by omega);rw [q1,q2];simp [I64]) ?_;refine zag ?_;refine ⟨(η1.t (η2.t (η3.t η4))),?_⟩;rcases hr with ⟨k1,k2,k3,k4,k5⟩ | ⟨k1,k2,k3,k4,k5⟩ | ⟨k1,k2,k3,k4,k5⟩ | ⟨k1,k2,k3⟩ | ⟨k1,k2,k3,k4⟩<;>first | (exfalso;omega) | simp_all
     refine ⟨(η1.t (η2.t (η3.t η4))),?_⟩;rcases hr with ⟨k1,k2,k3,k4,k5⟩ | ⟨k1,k2,k3,k4,k5⟩ | ⟨k1,k2,k3,k4,k5⟩ | ⟨k1,k2,k3⟩ | ⟨k1,k2,k3,k4⟩<;>first | (exfalso;omega) | simp_all
   refine ⟨(η1.t (η2.t η3)),?_⟩;rcases hr with ⟨k1,k2,k3,k4,k5⟩ | ⟨k1,k2,k3,k4,k5⟩ | ⟨k1,k2,k3,k4,k5⟩ | ⟨k1,k2,k3⟩ | ⟨k1,k2,k3,k4⟩<;>first | (exfalso;omega) | simp_all
 refine zag ?_;refine br (λc4=>?_) (λc4=>?_)
 · refine zaa zcL ?_
   refine zaq ty9 (zbo hA1) η2 λhS33=>?_;refine zaS ?_;refine br (λc5=>?_) (λc5=>?_)
   · refine zaa zfH ?_
     refine zab za4 (zdc hA1) η2 λv37 h37=>?_;refine (zco h37 η2).mono ?_;rintro _ w5_ ⟨η5,rfl⟩;refine ⟨(η1.t (η2.t η5)),?_⟩;rcases hr with ⟨k1,k2,k3,k4,k5⟩ | ⟨k1,k2,k3,k4,k5⟩ | ⟨k1,k2,k3,k4,k5⟩ | ⟨k1,k2,k3⟩ | ⟨k1,k2,k3,k4⟩<;>first | (exfalso;omega) | simp_all
   refine ⟨(η1.t η2),?_⟩;rcases hr with ⟨k1,k2,k3,k4,k5⟩ | ⟨k1,k2,k3,k4,k5⟩ | ⟨k1,k2,k3,k4,k5⟩ | ⟨k1,k2,k3⟩ | ⟨k1,k2,k3,k4⟩<;>first | (exfalso;omega) | simp_all
 refine zag ?_;refine br (λc6=>?_) (λc6=>?_)
 · refine zaa zcL ?_
   refine zaq ty9 (zbo hA1) η2 λhS43=>?_;refine zaS ?_;refine br (λc7=>?_) (λc7=>?_)
   · refine zaa zfH ?_
     refine zab za4 (zdc hA1) η2 λv47 h47=>?_;refine (zco h47 η2).mono ?_;rintro _ w6_ ⟨η6,rfl⟩;refine zcd (λc8=>?_) (λc8=>?_)
     · refine zaa zdq ?_
       refine zab zdp (zcz hA1) (η2.t η6) λv52 h52=>?_;have hln53:=zah h52;refine zae ze5 h52 ?_;refine zag ?_;refine ⟨(η1.t (η2.t η6)),?_⟩;rcases hr with ⟨k1,k2,k3,k4,k5⟩ | ⟨k1,k2,k3,k4,k5⟩ | ⟨k1,k2,k3,k4,k5⟩ | ⟨k1,k2,k3⟩ | ⟨k1,k2,k3,k4⟩<;>first | (exfalso;omega) | simp_all
     refine ⟨(η1.t (η2.t η6)),?_⟩;rcases hr with ⟨k1,k2,k3,k4,k5⟩ | ⟨k1,k2,k3,k4,k5⟩ | ⟨k1,k2,k3,k4,k5⟩ | ⟨k1,k2,k3⟩ | ⟨k1,k2,k3,k4⟩<;>first | (exfalso;omega) | simp_all
   refine ⟨(η1.t η2),?_⟩;rcases hr with ⟨k1,k2,k3,k4,k5⟩ | ⟨k1,k2,k3,k4,k5⟩ | ⟨k1,k2,k3,k4,k5⟩ | ⟨k1,k2,k3⟩ | ⟨k1,k2,k3,k4⟩<;>first | (exfalso;omega) | simp_all
 refine zag ?_;refine br (λc9=>?_) (λc9=>?_)
 · refine zaa zcL ?_
   refine zaq ty9 (zbo hA1) η2 λhS62=>?_;refine (zb4 ).mono ?_;rintro _ w7_ ⟨η7,rfl⟩;refine zcd (λc10=>?_) (λc10=>?_)
   · refine br (λc11=>?_) (λc11=>?_)
     · refine zaa zdV ?_
       refine zab zdp (zcU hA1) (η2.t η7) λv69 h69=>?_;have hln70:=zah h69;refine zae ze5 h69 ?_;refine zaa zdq ?_;refine zab zdp (zcz hA1) (η2.t η7) λv72 h72=>?_;have hln73:=zah h72;refine zae ze5 h72 ?_;refine zcG (by obtain ⟨q1,q2⟩:=hbe (by omega) (by omega);rw [q1,q2];simp [I64]) ?_;refine zag ?_;refine ⟨(η1.t (η2.t η7)),?_⟩;rcases hr with ⟨k1,k2,k3,k4,k5⟩ | ⟨k1,k2,k3,k4,k5⟩ | ⟨k1,k2,k3,k4,k5⟩ | ⟨k1,k2,k3⟩ | ⟨k1,k2,k3,k4⟩<;>first | (exfalso;omega) | simp_all
     refine ⟨(η1.t (η2.t η7)),?_⟩;rcases hr with ⟨k1,k2,k3,k4,k5⟩ | ⟨k1,k2,k3,k4,k5⟩ | ⟨k1,k2,k3,k4,k5⟩ | ⟨k1,k2,k3⟩ | ⟨k1,k2,k3,k4⟩<;>first | (exfalso;omega) | simp_all
   refine ⟨(η1.t (η2.t η7)),?_⟩;rcases hr with ⟨k1,k2,k3,k4,k5⟩ | ⟨k1,k2,k3,k4,k5⟩ | ⟨k1,k2,k3,k4,k5⟩ | ⟨k1,k2,k3⟩ | ⟨k1,k2,k3,k4⟩<;>first | (exfalso;omega) | simp_all
 refine zag ?_;refine br (λc12=>?_) (λc12=>?_)
 · refine zaa zcL ?_
   refine zaq ty9 (zbo hA1) η2 λhS62=>?_;refine (zb4 ).mono ?_;rintro _ w8_ ⟨η8,rfl⟩;refine zcd (λc13=>?_) (λc13=>?_)
   · refine br (λc14=>?_) (λc14=>?_)
     · refine zaa zdV ?_
       refine zab zdp (zcU hA1) (η2.t η8) λv69 h69=>?_;have hln70:=zah h69;refine zae ze5 h69 ?_;refine zaa zdq ?_;refine zab zdp (zcz hA1) (η2.t η8) λv72 h72=>?_;have hln73:=zah h72;refine zae ze5 h72 ?_;refine zcG (by obtain ⟨q1,q2⟩:=hbe (by omega) (by omega);rw [q1,q2];simp [I64]) ?_;refine zag ?_;refine ⟨(η1.t (η2.t η8)),?_⟩;rcases hr with ⟨k1,k2,k3,k4,k5⟩ | ⟨k1,k2,k3,k4,k5⟩ | ⟨k1,k2,k3,k4,k5⟩ | ⟨k1,k2,k3⟩ | ⟨k1,k2,k3,k4⟩<;>first | (exfalso;omega) | simp_all
     refine ⟨(η1.t (η2.t η8)),?_⟩;rcases hr with ⟨k1,k2,k3,k4,k5⟩ | ⟨k1,k2,k3,k4,k5⟩ | ⟨k1,k2,k3,k4,k5⟩ | ⟨k1,k2,k3⟩ | ⟨k1,k2,k3,k4⟩<;>first | (exfalso;omega) | simp_all
   refine ⟨(η1.t (η2.t η8)),?_⟩;rcases hr with ⟨k1,k2,k3,k4,k5⟩ | ⟨k1,k2,k3,k4,k5⟩ | ⟨k1,k2,k3,k4,k5⟩ | ⟨k1,k2,k3⟩ | ⟨k1,k2,k3,k4⟩<;>first | (exfalso;omega) | simp_all
 refine zag ?_;refine br (λc15=>?_) (λc15=>?_)
 · refine zaa zcL ?_
   refine zaq ty9 (zbo hA1) η2 λhS62=>?_;refine (zb4 ).mono ?_;rintro _ w9_ ⟨η9,rfl⟩;refine zcd (λc16=>?_) (λc16=>?_)
   · refine br (λc17=>?_) (λc17=>?_)
     · refine zaa zdV ?_
       refine zab zdp (zcU hA1) (η2.t η9) λv69 h69=>?_;have hln70:=zah h69;refine zae ze5 h69 ?_;refine zaa zdq ?_;refine zab zdp (zcz hA1) (η2.t η9) λv72 h72=>?_;have hln73:=zah h72;refine zae ze5 h72 ?_;refine zcG (by obtain ⟨q1,q2⟩:=hbe (by omega) (by omega);rw [q1,q2];simp [I64]) ?_;refine zag ?_;refine ⟨(η1.t (η2.t η9)),?_⟩;rcases hr with ⟨k1,k2,k3,k4,k5⟩ | ⟨k1,k2,k3,k4,k5⟩ | ⟨k1,k2,k3,k4,k5⟩ | ⟨k1,k2,k3⟩ | ⟨k1,k2,k3,k4⟩<;>first | (exfalso;omega) | simp_all
     refine ⟨(η1.t (η2.t η9)),?_⟩;rcases hr with ⟨k1,k2,k3,k4,k5⟩ | ⟨k1,k2,k3,k4,k5⟩ | ⟨k1,k2,k3,k4,k5⟩ | ⟨k1,k2,k3⟩ | ⟨k1,k2,k3,k4⟩<;>first | (exfalso;omega) | simp_all
   refine ⟨(η1.t (η2.t η9)),?_⟩;rcases hr with ⟨k1,k2,k3,k4,k5⟩ | ⟨k1,k2,k3,k4,k5⟩ | ⟨k1,k2,k3,k4,k5⟩ | ⟨k1,k2,k3⟩ | ⟨k1,k2,k3,k4⟩<;>first | (exfalso;omega) | simp_all
 refine zag ?_;refine br (λc18=>?_) (λc18=>?_)
 · refine zaa zcL ?_
   refine zaq ty9 (zbo hA1) η2 λhS62=>?_;refine (zb4 ).mono ?_;rintro _ w10_ ⟨η10,rfl⟩;refine zcd (λc19=>?_) (λc19=>?_)
   · refine br (λc20=>?_) (λc20=>?_)
     · refine zaa zdV ?_
       refine zab zdp (zcU hA1) (η2.t η10) λv69 h69=>?_;have hln70:=zah h69;refine zae ze5 h69 ?_;refine zaa zdq ?_;refine zab zdp (zcz hA1) (η2.t η10) λv72 h72=>?_;have hln73:=zah h72;refine zae ze5 h72 ?_;refine zcG (by obtain ⟨q1,q2⟩:=hbe (by omega) (by omega);rw [q1,q2];simp [I64]) ?_;refine zag ?_;refine ⟨(η1.t (η2.t η10)),?_⟩;rcases hr with ⟨k1,k2,k3,k4,k5⟩ | ⟨k1,k2,k3,k4,k5⟩ | ⟨k1,k2,k3,k4,k5⟩ | ⟨k1,k2,k3⟩ | ⟨k1,k2,k3,k4⟩<;>first | (exfalso;omega) | simp_all
     refine ⟨(η1.t (η2.t η10)),?_⟩;rcases hr with ⟨k1,k2,k3,k4,k5⟩ | ⟨k1,k2,k3,k4,k5⟩ | ⟨k1,k2,k3,k4,k5⟩ | ⟨k1,k2,k3⟩ | ⟨k1,k2,k3,k4⟩<;>first | (exfalso;omega) | simp_all
   refine ⟨(η1.t (η2.t η10)),?_⟩;rcases hr with ⟨k1,k2,k3,k4,k5⟩ | ⟨k1,k2,k3,k4,k5⟩ | ⟨k1,k2,k3,k4,k5⟩ | ⟨k1,k2,k3⟩ | ⟨k1,k2,k3,k4⟩<;>first | (exfalso;omega) | simp_all
 refine zag ?_;refine br (λc21=>?_) (λc21=>?_)
 · refine zaa zcL ?_
   refine zaq ty9 (zbo hA1) η2 λhS80=>?_;refine zaS ?_;refine br (λc22=>?_) (λc22=>?_)
   · refine br (λc23=>?_) (λc23=>?_)
     · refine zaa zdV ?_
       refine zab zdp (zcU hA1) η2 λv87 h87=>?_;have hln88:=zah h87;refine zae ze5 h87 ?_;refine zaa zdq ?_;refine zab zdp (zcz hA1) η2 λv90 h90=>?_;have hln91:=zah h90;refine zae ze5 h90 ?_;refine zcG (by obtain ⟨q1,q2⟩:=hbe (by omega) (by omega);rw [q1,q2];simp [I64]) ?_;refine zag ?_;refine ⟨(η1.t η2),?_⟩;rcases hr with ⟨k1,k2,k3,k4,k5⟩ | ⟨k1,k2,k3,k4,k5⟩ | ⟨k1,k2,k3,k4,k5⟩ | ⟨k1,k2,k3⟩ | ⟨k1,k2,k3,k4⟩<;>first | (exfalso;omega) | simp_all
     refine ⟨(η1.t η2),?_⟩;rcases hr with ⟨k1,k2,k3,k4,k5⟩ | ⟨k1,k2,k3,k4,k5⟩ | ⟨k1,k2,k3,k4,k5⟩ | ⟨k1,k2,k3⟩ | ⟨k1,k2,k3,k4⟩<;>first | (exfalso;omega) | simp_all
   refine ⟨(η1.t η2),?_⟩;rcases hr with ⟨k1,k2,k3,k4,k5⟩ | ⟨k1,k2,k3,k4,k5⟩ | ⟨k1,k2,k3,k4,k5⟩ | ⟨k1,k2,k3⟩ | ⟨k1,k2,k3,k4⟩<;>first | (exfalso;omega) | simp_all
 refine ⟨(η1.t η2),?_⟩;rcases hr with ⟨k1,k2,k3,k4,k5⟩ | ⟨k1,k2,k3,k4,k5⟩ | ⟨k1,k2,k3,k4,k5⟩ | ⟨k1,k2,k3⟩ | ⟨k1,k2,k3,k4⟩<;>first | (exfalso;omega) | simp_all
def zsA (pr:List ByteArray) (n:Nat) (l:List DStmt):Prop:=∀ {w W:World} {v:Value} {d:Int},Is W v l→Ext W w→(∀ x∈l,StR pr n x)→(n:Int)≤d→d≤6 →
 CALL tp 283 [v,.int .i64 d] w λr w'=>Ext w w'∧r=.bool true
theorem zhe {pr:List ByteArray} {n:Nat} {l:List DStmt} (hp:∀ x∈pr,zbk x=true) (ih:∀ m l,m+1=n→zsA pr m l):zsA pr n l:=by
 intro w W v d h e hs hd0 hd1;have hln:=zah h;refine F283_call ?_;unfold F283;refine zat l.length (λk us w'=>us=[.int .i64 (k:Int)]∧Ext w w'∧k≤l.length) 0 (z0 _) ⟨rfl,Ext.refl w,Nat.zero_le _⟩ ?_;rintro k m u w1 hkm ⟨hu,hx1,hkl⟩;try replace hu:=zbG hu
 rw [hu];refine zae ze5 h ?_;refine zaf ?_;refine br (λhlt=>?_) (λhge=>?_)
 · have hk:k<l.length:=by omega
   obtain ⟨x,hx⟩:∃ x,x=l[k]:=⟨_,rfl⟩;have hxs:StR pr n x:=by rw [hx];exact hs _ (List.getElem_mem hk)
   refine zad ze5 zbO h hk λb16 o16 hA16=>?_;rw [←hx] at hA16;refine zab zbO hA16 (e.trans hx1) λv17 h17=>?_;refine zcX zr8 rfl zbO rfl h17 (e.trans hx1) λw2 hx2 hA6 hV6=>?_;refine JOIN.mk (λus w'=>us=[.bool (decide (x.kind=2∨x.kind=3))]∧Ext w2 w') ?_ ?_
   · refine zaa zeR ?_
     refine zac ty3 (zcy hA6) (Ext.refl _) λhI=>?_;refine zag ?_;refine br (λh2=>?_) (λh2=>?_)
     · exact ⟨by rw [decide_eq_true (.inl h2)],Ext.refl _⟩
     refine zaa zeR ?_;refine zac ty3 (zcy hA6) (Ext.refl _) λhI=>?_;refine zag ?_;exact ⟨by simp [h2],Ext.refl _⟩
   rintro u6 w3 ⟨hu,hx3⟩;try replace hu:=zbG hu
   rw [hu];refine zau hV6 hx3 ?_;refine (zsz h17 ((e.trans hx1).trans (hx2.t hx3)) (hxs.one hp)).mono ?_;rintro _ w4 ⟨hx4,rfl⟩;have hx24:=hx3.t hx4;refine za1 ?_;refine zcd (λhc=>by simp at hc) (λ_=>?_);refine gbr (λhm=>?_) (λhm=>?_)
   · have hn0:0<n:=by
       rcases Nat.eq_zero_or_pos n with h0 | h0
       · subst h0
         rcases hxs.zero with q | q | q | q<;>(have:=q.1;omega)
       exact h0
     have hkid:(∀ y∈x.body,StR pr (n-1) y)∧∀ y∈x.els,StR pr (n-1) y:=by
       obtain ⟨q,rfl⟩:∃ q,n=q+1:=⟨n-1,by omega⟩;rcases hxs.succ with h | ⟨_,_,_,h4,h5⟩
       · exfalso
         rcases h with q | q | q | q<;>(have:=q.1;omega)
       exact ⟨h4,h5⟩
     refine zag ?_;refine br (λhc=>by omega) (λ_=>?_);refine gbr (λ_=>?_) (λhc=>absurd hm hc);refine zaa zdV ?_;refine zab zdp (zcU hA6) hx24 λv40 h40=>?_;refine za0 (by unfold I64;omega) ?_;refine (ih (n-1) _ (by omega) h40 hx24 hkid.1 (by omega) (by omega)).mono ?_;rintro _ w5 ⟨hx5,rfl⟩;refine za1 ?_;refine zwP (λhc=>by simp at hc) (λ_=>?_);refine zaa zdq ?_;refine zab zdp (zcz hA6) (hx24.t hx5) λv47 h47=>?_;refine za0 (by unfold I64;omega) ?_;refine (ih (n-1) _ (by omega) h47 (hx24.t hx5) hkid.2 (by omega) (by omega)).mono ?_;rintro _ w6 ⟨hx6,rfl⟩;refine za1 ?_;refine zcd (λhc=>by simp at hc) (λ_=>?_);refine zaB ?_;exact ⟨m-1,by omega,k+1,by omega,rfl,hx1.t (hx2.t (hx24.t (hx5.t hx6))),by omega⟩
   refine gbr (λhc=>absurd hc hm) (λ_=>?_);refine zaB ?_;exact ⟨m-1,by omega,k+1,by omega,rfl,hx1.t (hx2.t hx24),by omega⟩
 exact ⟨hx1,rfl⟩
theorem zjJ {pr:List ByteArray} (hp:∀ x∈pr,zbk x=true):∀ (n:Nat) (l:List DStmt),zsA pr n l
 | 0,l=>zhe (n:=0) (l:=l) hp (λm l h=>absurd h (by omega))
 | n + 1, l => zhe (n := n + 1) (l := l) hp λm l h => by
     obtain rfl:m=n:=by omega
     exact zjJ hp m l
theorem zuj {pr:List ByteArray} {w W:World} {v:Value} {l:List DStmt} (hp:∀ x∈pr,zbk x=true) (h:Is W v l) (e:Ext W w) (hb:zqL pr l):CALL tp 245 [v] w λr w'=>Ext w w'∧r=.bool true:=by
 refine F245_call ?_;unfold F245;refine (zjI l h e (by omega) (by omega)).mono ?_;rintro _ w1 ⟨hx1,rfl⟩;refine zbW ?_;have hc:=(zhX l 60).1 (by have:=hb.2;omega);refine br (λ_=>?_) (λhn=>by have:=hb.2;omega);refine (zjJ hp 2 l h (e.trans hx1) hb.1 (by omega) (by omega)).mono ?_;rintro _ w2 ⟨hx2,rfl⟩;exact ⟨hx1.t hx2,rfl⟩
theorem zjK {w W:World} {v:Value} {p:DProg} (h:Is W v p) (e:Ext W w) (hn:p.procs.length≤1000):CALL tp 190 [v] w λr w'=>Ext w w'∧Own w.heap.size w' r (p.procs.map DProc.name):=by
 refine F190_call ?_;unfold F190;refine zcb h e λw1 hx1 hA=>?_;have hs1:=hx1.size;refine zaQ (α:=ByteArray) u24 ty9 λv5 w2 hx2 r5=>?_;have hs2:=hx2.size
 refine zat p.procs.length (λk us w'=>∃ v hi,us=[v,.int .i64 (k:Int)]∧k≤p.procs.length∧Ext w1 w'∧RowI w2.heap.size hi 9 w' v ((p.procs.take k).map DProc.name)∧hi≤w'.heap.size∧w2.heap.size≤hi) 0 (z0 _)
   ⟨.slice (some v5) 0 0,w2.heap.size,rfl,z0 _,hx2,r5,lr _,Nat.le_refl _⟩ ?_
 rintro k m u w3 hkm ⟨v3,hi,hu,hkl,hx3,r3,hhi,hlo⟩;obtain ⟨hu0,hu1⟩:=zd4 hu;rw [hu0,hu1];refine zaa zem ?_;refine zab zol (zbN hA) hx3 λv8 h8=>?_;refine zae u90 h8 ?_;refine zaf ?_;refine br (λhlt=>?_) (λhge=>?_)
 · have hk:k<p.procs.length:=by omega
   refine zaa zem ?_;refine zab zol (zbN hA) hx3 λv15 h15=>?_;refine zad u90 zmK h15 hk λb17 o17 hA17=>?_;refine zaa zlt ?_;refine zaq ty9 (zf4 hA17) hx3 λhS=>?_;have hs3:=hx3.size;refine zcn (α:=ByteArray) (lo2:=w3.heap.size) (hi2:=w3.heap.size) u24 ty9 z9 zc9 (by decide) r3 (by omega) (ztZ hS) (by omega) (by omega) (by rw [zak,List.length_map,List.length_take];omega) (by rw [List.length_map,List.length_take];omega) λv21 w4 hc4 r4=>?_;have hs4:=hc4.size;refine zaB ?_;refine ⟨m-1,by omega,k+1,by omega,v21,w4.heap.size,rfl,by omega,Ext.chgI hx3 hc4 (by omega),?_,lr _,by omega⟩;rw [tk hk,List.map_append];exact r4
 refine ⟨hx1.t hx3,?_⟩;rw [List.take_of_length_le (by omega)] at r3;exact r3.own.own.mono (by omega)
theorem zhf {w W:World} {vo vk:Value} {l:List ByteArray} {s:ByteArray} (h:Is W vk l) (e:Ext W w) (hm:s∈l):CALL tp 284 [vo,vk,.string s] w λr w'=>Ext w w'∧r=vo:=by
 refine F284_call ?_;unfold F284;refine (zmO h e).mono ?_;rintro _ w1 ⟨hx1,rfl⟩;exact br (λ_=>⟨hx1,rfl⟩) (λhn=>absurd hm hn)
def zwI (p:DProg) (pr:List ByteArray) (n:Nat) (l:List DStmt):Prop:=∀ {w W W':World} {v vp vo:Value},Is W vp p→Ext W w→Is W' v l→Ext W' w→(∀ x∈l,StR pr n x) →
 CALL tp 246 [vp,v,vo] w λr w'=>Ext w w'∧r=vo
theorem zfN {p:DProg} {pr:List ByteArray} {n:Nat} {l:List DStmt} (hg:p.globals=glb) (hl:p.locks=lks) (hpp:∀ x∈pr,x∈p.procs.map DProc.name) (hpn:p.procs.length≤1000) (ih:∀ m l,m+1=n→zwI p pr m l):zwI p pr n l:=by
 intro w W W' v vp vo hP eP h e hs;have hln:=zah h;refine F246_call ?_;unfold F246;refine zcb hP eP λw0 hx0 hAp=>?_;refine zat l.length (λk us w'=>us=[vo,.int .i64 (k:Int)]∧Ext w0 w'∧k≤l.length) 0 (z0 _) ⟨rfl,Ext.refl _,Nat.zero_le _⟩ ?_;rintro k m u w1 hkm ⟨hu,hx1,hkl⟩;obtain ⟨hu0,hu1⟩:=zd4 hu;clear hu;rw [hu0,hu1];refine zae ze5 h ?_;refine zaf ?_;refine br (λhlt=>?_) (λhge=>⟨hx0.t hx1,rfl⟩);have hk:k<l.length:=by omega
 obtain ⟨x,hx⟩:∃ x,x=l[k]:=⟨_,rfl⟩;have hxs:StR pr n x:=by rw [hx];exact hs _ (List.getElem_mem hk)
 have hst:(x.kind=1→x.name∈glb)∧(x.kind=6∨x.kind=7→x.name∈lks)∧(x.kind=4∨x.kind=5→x.name∈pr)∧(x.kind=1∨x.kind=2∨x.kind=3→TmR x.term):=by
   have h0:St0 pr x→(x.kind=1→x.name∈glb)∧(x.kind=6∨x.kind=7→x.name∈lks)∧(x.kind=4∨x.kind=5→x.name∈pr)∧(x.kind=1∨x.kind=2∨x.kind=3→TmR x.term):=λq=>by
     rcases q with q | q | q | q
     · exact ⟨λ_=>q.2.1,λ_=>by have:=q.1;omega,λ_=>by have:=q.1;omega,λ_=>q.2.2.1⟩
     · exact ⟨λ_=>by have:=q.1;omega,λ_=>by have:=q.1;omega,λ_=>q.2.1,λ_=>by have:=q.1;omega⟩
     · exact ⟨λ_=>by have:=q.1;omega,λ_=>q.2.1,λ_=>by have:=q.1;omega,λ_=>by have:=q.1;omega⟩
     exact ⟨λ_=>by have:=q.1;omega,λ_=>by have:=q.1;omega,λ_=>by have:=q.1;omega,λ_=>by have:=q.1;omega⟩
   cases n with
   | zero=>exact h0 hxs.zero
   | succ n=>
     rcases hxs.succ with q | ⟨h1,h2,h3,_,_⟩
     · exact h0 q
     exact ⟨λ_=>by omega,λ_=>by omega,λ_=>by omega,λ_=>h3⟩
 obtain ⟨hs1,hs2,hs3,hs4⟩:=hst;refine zad ze5 zbO h hk λb19 o19 hA19=>?_;rw [←hx] at hA19;have eW':=e.trans (hx0.t hx1);refine zab zbO hA19 eW' λv20 h20=>?_;refine zcX zr8 rfl zbO rfl h20 eW' λw2 hx2 hA8 hV8=>?_;have hx02:=hx1.t hx2;refine JOIN.mk (λus w'=>us=[vo]∧Ext w2 w') ?_ ?_
 · refine zaa zeR ?_
   refine zac ty3 (zcy hA8) (Ext.refl _) λhI=>?_;refine zag ?_;refine br (λh1=>?_) (λh1=>?_)
   · refine zaa zkK ?_
     refine zab zc0 (ze3 hAp) hx02 λv27 h27=>?_;refine zaa zcL ?_;refine zaq ty9 (zbo hA8) (Ext.refl _) λhS=>?_;refine (zhf h27 hx02 (by rw [hg];exact hs1 h1)).mono ?_;rintro _ w3 ⟨hx3,rfl⟩;exact ⟨rfl,hx3⟩
   refine zag ?_;refine zpO (Q:=x.kind=6∨x.kind=7) .inl (λhQ=>?_) (λkey h6=>?_)
   · refine zaa zmI ?_
     refine zab zc0 (zf5 hAp) hx02 λv27 h27=>?_;refine zaa zcL ?_;refine zaq ty9 (zbo hA8) (Ext.refl _) λhS=>?_;refine (zhf h27 hx02 (by rw [hl];exact hs2 hQ)).mono ?_;rintro _ w3 ⟨hx3,rfl⟩;exact ⟨rfl,hx3⟩
   refine zag ?_;refine br (λh7=>key (.inr h7)) (λh7=>?_);refine zag ?_;refine zpO (Q:=x.kind=4∨x.kind=5) .inl (λhQ=>?_) (λkey2 h4=>?_)
   · have hx3:=zai w2
     refine zab zmH hAp (hx02.t hx3) λv44 h44=>?_;refine zaa zcL ?_;refine zaq ty9 (zbo hA8) hx3 λhS=>?_;refine (zjK h44 (hx02.t hx3) hpn).mono ?_;rintro v45 w4 ⟨hx4,o45⟩;refine ⟨hx4,?_⟩;refine (zhf o45.is (Ext.refl _) (hpp _ (hs3 hQ))).mono ?_;rintro _ w5 ⟨hx5,rfl⟩;exact ⟨rfl,hx3.t (hx4.t hx5)⟩
   refine zag ?_;exact br (λh5=>key2 (.inr h5)) λh5=>⟨rfl,Ext.refl _⟩
 rintro u14 w6 ⟨hu,hx6⟩;try replace hu:=zbG hu
 rw [hu];refine JOIN.mk (λus w'=>us=[vo]∧Ext w6 w') ?_ ?_
 · refine zaa zeR ?_
   refine zac ty3 (zcy hA8) hx6 λhI=>?_;refine zag ?_;refine zpO (Q:=x.kind=1∨x.kind=2∨x.kind=3) .inl (λhQ=>?_) (λkey h1=>?_)
   · have hT:=hs4 hQ
     refine zaa zfH ?_;refine zab za4 (zdc hA8) hx6 λv63 h63=>?_;refine (zeT h63 hx6).mono ?_;rintro v64 w7 ⟨hx7,h64⟩;have hrl:=zox x.term;refine zat (zbI x.term).length (λq us w'=>us=[vo,.int .i64 (q:Int)]∧Ext w7 w'∧q≤(zbI x.term).length) 0 (z0 _) ⟨rfl,Ext.refl _,Nat.zero_le _⟩ ?_;rintro q mq uq w8 hqm ⟨hu,hx8,hql⟩;obtain ⟨hu0,hu1⟩:=zd4 hu;clear hu;rw [hu0,hu1];refine zae u24 h64 ?_;refine zaf ?_;refine br (λhlt=>?_) (λhge=>⟨rfl,hx7.t hx8⟩);have hq:q<(zbI x.term).length:=by omega
     have hx9:=zai w8;have hx89:=hx8.t hx9;have hx09:=hx02.t (hx6.t (hx7.t hx89));refine zaa zkK ?_;refine zab zc0 (ze3 hAp) hx09 λv73 h73=>?_;refine zad u24 ty9 h64 hq λb76 o76 hA76=>?_;refine zaq ty9 hA76 hx89 λhS=>?_;refine (zhf h73 hx09 (by rw [hg];exact hT.2.1 _ (List.getElem_mem hq))).mono ?_;rintro _ w10 ⟨hx10,rfl⟩;refine zaB ?_;exact ⟨mq-1,by omega,q+1,by omega,rfl,hx89.t hx10,by omega⟩
   refine zaa zeR ?_;refine zac ty3 (zcy hA8) hx6 λhI=>?_;refine zag ?_;refine br (λh2=>key (.inr (.inl h2))) (λh2=>?_);refine zaa zeR ?_;refine zac ty3 (zcy hA8) hx6 λhI=>?_;refine zag ?_;exact br (λh3=>key (.inr (.inr h3))) (λh3=>⟨rfl,Ext.refl _⟩)
 rintro u20 w11 ⟨hu,hx11⟩;try replace hu:=zbG hu
 rw [hu];have hx211:=hx6.t hx11;have hx011:=hx02.t hx211
 have hkid:∃ q,(∀ y∈x.body,StR pr q y)∧(∀ y∈x.els,StR pr q y)∧(q+1=n∨(x.body=[]∧x.els=[])):=by
   have h0:St0 pr x→x.body=[]∧x.els=[]:=λh=>by rcases h with q | q | q | q<;>exact ⟨q.2.2.2.1,q.2.2.2.2⟩
   cases n with
   | zero=>
     obtain ⟨h1,h2⟩:=h0 hxs.zero;exact ⟨0,by rw [h1];simp,by rw [h2];simp,.inr ⟨h1,h2⟩⟩
   | succ n=>
     rcases hxs.succ with q | ⟨_,_,_,h4,h5⟩
     · obtain ⟨h1,h2⟩:=h0 q
       exact ⟨0,by rw [h1];simp,by rw [h2];simp,.inr ⟨h1,h2⟩⟩
     exact ⟨n,h4,h5,.inl rfl⟩
 obtain ⟨q,hb,he,hq⟩:=hkid
 have hnil:zwI p pr q []:=by
   intro w W W' v vp vo hP eP h e hs;refine F246_call ?_;unfold F246;refine zcb hP eP λw0 hx0 hAp=>?_;refine zat 0 (λk us w'=>us=[vo,.int .i64 (k:Int)]∧Ext w0 w') 0 (z0 _) ⟨rfl,Ext.refl _⟩ ?_;rintro k m u w1 hkm ⟨hu,hx1⟩;obtain ⟨hu0,hu1⟩:=zd4 hu;rw [hu0,hu1];refine zae ze5 h ?_;refine zaf ?_;exact br (λhlt=>by simp at hlt;omega) (λhge=>⟨hx0.t hx1,rfl⟩)
 have ihb:zwI p pr q x.body:=by
   rcases hq with hq | ⟨h1,_⟩
   · exact ih q _ hq
   rw [h1];exact hnil
 have ihe:zwI p pr q x.els:=by
   rcases hq with hq | ⟨_,h1⟩
   · exact ih q _ hq
   rw [h1];exact hnil
 refine zab zmH hAp hx011 λv79 h79=>?_;refine zaa zdV ?_;refine zab zdp (zcU hA8) hx211 λv81 h81=>?_;refine (ihb h79 hx011 h81 hx211 hb).mono ?_;rintro _ w12 ⟨hx12,rfl⟩;refine zab zmH hAp (hx011.t hx12) λv84 h84=>?_;refine zaa zdq ?_;refine zab zdp (zcz hA8) (hx211.t hx12) λv86 h86=>?_;refine (ihe h84 (hx011.t hx12) h86 (hx211.t hx12) he).mono ?_;rintro _ w13 ⟨hx13,rfl⟩;refine zaB ?_;exact ⟨m-1,by omega,k+1,by omega,rfl,hx011.t (hx12.t hx13),by omega⟩
theorem zhg {p:DProg} {pr:List ByteArray} (hg:p.globals=glb) (hl:p.locks=lks) (hpp:∀ x∈pr,x∈p.procs.map DProc.name) (hpn:p.procs.length≤1000):∀ (n:Nat) (l:List DStmt),zwI p pr n l
 | 0,l=>zfN (n:=0) (l:=l) hg hl hpp hpn (λm l h=>absurd h (by omega))
 | n + 1, l => zfN (n := n + 1) (l := l) hg hl hpp hpn λm l h => by
     obtain rfl:m=n:=by omega
     exact zhg hg hl hpp hpn m l
theorem ProgR.facts {p:DProg} (hp:ProgR p):p.procs.length≤4∧(∀ x∈p.procs.map DProc.name,zbk x=true)∧(p.procs.map DProc.name).Nodup∧zgr∈p.procs.map DProc.name:=by
 obtain ⟨k,hk,hn⟩:=hp.n;obtain ⟨n1,n2,n3,n4⟩:=zm2 k hk;rw [←hn] at n1 n2 n3 n4;rw [List.length_map] at n1;exact ⟨n1,λx hx=>List.all_eq_true.1 n2 x hx,n3,n4⟩
theorem zm4 {w W:World} {v:Value} {p:DProg} (h:Is W v p) (e:Ext W w) (hp:ProgR p):CALL tp 189 [v] w λr w'=>Ext w w'∧r=.bool true:=by
 obtain ⟨f1,f2,f3,f4⟩:=hp.facts;refine F189_call ?_;unfold F189;refine zcb h e λw1 hx1 hA=>?_;refine zaa zkK ?_;refine zab zc0 (ze3 hA) (Ext.refl _) λv5 h5=>?_;refine (zeo h5 (Ext.refl _)).mono ?_;rintro _ w2 ⟨hx2,rfl⟩;refine za1 ?_;refine zcd (λhc=>by rw [hp.g] at hc;exact absurd hc (by decide)) (λ_=>?_);refine zaa zmI ?_;refine zab zc0 (zf5 hA) hx2 λv10 h10=>?_;refine (zeo h10 hx2).mono ?_;rintro _ w3 ⟨hx3,rfl⟩;refine za1 ?_;refine zcd (λhc=>by rw [hp.l] at hc;exact absurd hc (by decide)) (λ_=>?_);have hx13:=hx2.t hx3;refine zaa zem ?_;refine zab zol (zbN hA) hx13 λv16 h16=>?_;refine zae u90 h16 ?_;refine zb1 ?_;refine br (λhc=>by omega) (λ_=>?_);refine zat p.procs.length (λk us w'=>us=[.int .i64 (k:Int)]∧Ext w1 w'∧k≤p.procs.length) 0 (z0 _) ⟨rfl,hx13,Nat.zero_le _⟩ ?_;rintro k m u w4 hkm ⟨hu,hx4,hkl⟩;try replace hu:=zbG hu
 rw [hu];refine zaa zem ?_;refine zab zol (zbN hA) hx4 λv22 h22=>?_;refine zae u90 h22 ?_;refine zaf ?_;refine br (λhlt=>?_) (λhge=>⟨hx1.t hx4,rfl⟩);have hk:k<p.procs.length:=by omega
 have hkm':p.procs[k]∈p.procs:=List.getElem_mem hk;refine zaa zem ?_;refine zab zol (zbN hA) hx4 λv28 h28=>?_;refine zad u90 zmK h28 hk λb30 o30 hA30=>?_;refine zaa zlt ?_;refine zaq ty9 (zf4 hA30) hx4 λhS=>?_;refine (zb4 (w:=w4)).mono ?_;rintro _ w5 ⟨hx5,rfl⟩;refine za1 ?_;refine zcd (λhc=>by rw [f2 _ (List.mem_map.2 ⟨_,hkm',rfl⟩)] at hc;cases hc) (λ_=>?_);refine zaa zem ?_;refine zab zol (zbN hA) (hx4.t hx5) λv37 h37=>?_;refine zad u90 zmK h37 hk λb39 o39 hA39=>?_;refine zaa zos ?_;refine zab zdp (zhL hA39) (hx4.t hx5) λv41 h41=>?_;refine (zuj (λx hx=>f2 x (List.mem_of_mem_drop hx)) h41 (hx4.t hx5) (hp.b _ hkm')).mono ?_;rintro _ w6 ⟨hx6,rfl⟩;refine za1 ?_;refine zcd (λhc=>by cases hc) (λ_=>?_);refine zaB ?_;exact ⟨m-1,by omega,k+1,by omega,rfl,hx4.t (hx5.t hx6),by omega⟩
theorem zm5 {w W:World} {v:Value} {p:DProg} (h:Is W v p) (e:Ext W w) (hp:ProgR p):CALL tp 191 [v] w λr w'=>Ext w w'∧Is w' r ([]:List ByteArray):=by
 obtain ⟨f1,f2,f3,f4⟩:=hp.facts;refine F191_call ?_;unfold F191;refine zcb h e λw1 hx1 hA=>?_;refine zaQ (α:=ByteArray) u24 ty9 λv5 w2 hx2 r5=>?_;refine zat p.procs.length (λk us w'=>us=[.slice (some v5) 0 0,.int .i64 (k:Int)]∧Ext w2 w'∧k≤p.procs.length) 0 (z0 _) ⟨rfl,Ext.refl _,Nat.zero_le _⟩ ?_;rintro k m u w3 hkm ⟨hu,hx3,hkl⟩;obtain ⟨hu0,hu1⟩:=zd4 hu;rw [hu0,hu1];have hx13:=hx2.t hx3;refine zab zmH hA hx13 λv6 h6=>?_;refine (zm4 h6 hx13 hp).mono ?_;rintro _ w4 ⟨hx4,rfl⟩;have hx14:=hx13.t hx4;refine zcd (λ_=>?_) (λhc=>by cases hc);refine zaa zem ?_;refine zab zol (zbN hA) hx14 λv11 h11=>?_;refine zae u90 h11 ?_;refine zaf ?_;refine br (λhlt=>?_) (λhge=>⟨hx1.t hx14,r5.is.ext (hx3.t hx4)⟩);have hk:k<p.procs.length:=by omega
 have hkm':p.procs[k]∈p.procs:=List.getElem_mem hk;have hx5:=zai w4;have hx15:=hx14.t hx5;refine zab zmH hA hx15 λv17 h17=>?_;refine zaa zem ?_;refine zab zol (zbN hA) hx15 λv19 h19=>?_;refine zad u90 zmK h19 hk λb21 o21 hA21=>?_;refine zaa zos ?_;refine zab zdp (zhL hA21) hx15 λv23 h23=>?_;refine (zhg hp.g hp.l (λx hx=>List.mem_of_mem_drop hx) (by omega) 2 _ h17 hx15 h23 hx15 (hp.b _ hkm').1).mono ?_;rintro _ w6 ⟨hx6,rfl⟩;refine zaB ?_;exact ⟨m-1,by omega,k+1,by omega,rfl,hx3.t (hx4.t (hx5.t hx6)),by omega⟩
def F192 (a0 a1:Value) (w:World) (R:VW):Prop:=
 oX 92 a0 w λx2 w=>
 LOOPI [5] [(iV 0)] w λu2 w n2=>
 rF 92 x2 2 w λx7=>
 rL 90 x7 w λx8=>
 rN 90 3 x8 w λx9=>
 rC (u2 5) x9 w λx10=>
 BR x10
 (rF 92 x2 2 w λx13=>
 rL 90 x13 w λx14=>
 rX 90 x14 (u2 5) w λx16=>
 rF 160 x16 0 w λx17=>
 rL 9 x17 w λx18=>
 rB .eql 9 T0 T0 x18 a1 w λx20=>
 BR x20
 (R (u2 5) w)
 (rI (u2 5) w λx12=>
 n2 [x12] w))
 (R (iV (-1)) w)
theorem F192_call {a0 a1 w R} (h:F192 a0 a1 w R):cL 192 [a0,a1] w R:=co (g:=(kf [] [(2,4194288,[5])] [])) Tryz.func192 h
theorem zjL {w:World} {v0:Value} {W0:World} {p:DProg} {s:ByteArray}  (h0:Is W0 v0 p) (e0:Ext W0 w)  :
   CALL tp 192 [v0,.string s] w λr w'=>Ext w w'∧(r=.int .i64 (plc s (p.procs.map DProc.name))):=by
 refine F192_call ?_;unfold F192;refine zao zmH rfl h0 e0 λw1_ η1 hA2 hV2=>?_;refine zat (p.procs.length) (λk us w'=>us=[.int .i64 (k:Int)]∧Ext w1_ w'∧(s∉(p.procs.map DProc.name).take k)) (0) (by omega) ⟨by simp,Ext.refl w1_,by simp⟩ ?_;rintro k m2 uu2 w2_ hk2 ⟨hu,η2,hinv⟩;try replace hu:=zbG hu
 try rw [hu]
 try clear hu
 refine zaa zem ?_;refine zab zol (zbN hA2) η2 λv8 h8=>?_;have hln9:=zah h8;refine zae u90 h8 ?_;refine zaf ?_;refine br (λc1=>?_) (λc1=>?_)
 · refine zaa zem ?_
   refine zab zol (zbN hA2) η2 λv14 h14=>?_;refine zad u90 zmK h14 (by omega) λb16 o16 h16=>?_;refine zaa zlt ?_;refine zaq ty9 (zf4 h16) η2 λhS18=>?_;refine zaS ?_;refine br (λc2=>?_) (λc2=>?_)
   · refine ⟨(η1.t η2),?_⟩
     rw [zkN (k:=k) (by rw [List.length_map];omega) hinv (by rw [List.getElem_map];assumption)]
   refine zaB ?_;refine ⟨m2-1,by omega,k+1,by omega,by simp,η2,?_⟩;refine zcA (by rw [List.length_map];omega) hinv ?_;rw [List.getElem_map];assumption
 refine ⟨(η1.t η2),?_⟩;rw [ziQ (by rw [List.take_of_length_le (by rw [List.length_map];omega)] at hinv;exact hinv)]
theorem zm6 {w W:World} {v:Value} {p:DProg} (h:Is W v p) (e:Ext W w) (hp:ProgR p):CALL tp 124 [v] w λr w'=>Ext w w'∧r=.int .i64 0:=by
 obtain ⟨f1,f2,f3,f4⟩:=hp.facts;refine F124_call ?_;unfold F124;refine zcb h e λw1 hx1 hA=>?_;refine zab zmH hA (Ext.refl _) λv4 h4=>?_;refine (zm4 h4 (Ext.refl _) hp).mono ?_;rintro _ w2 ⟨hx2,rfl⟩;refine za1 ?_;refine zcd (λhc=>by cases hc) (λ_=>?_);refine zaa zkK ?_;refine zab zc0 (ze3 hA) hx2 λv9 h9=>?_;refine (zdG h9 hx2).mono ?_;rintro _ w3 ⟨hx3,rfl⟩;have hx13:=hx2.t hx3;refine br (λhc=>by rw [hp.g] at hc;exact absurd (by decide) hc) (λ_=>?_);refine zaa zmI ?_;refine zab zc0 (zf5 hA) hx13 λv13 h13=>?_;refine (zdG h13 hx13).mono ?_;rintro _ w4 ⟨hx4,rfl⟩;have hx14:=hx13.t hx4;refine br (λhc=>by rw [hp.l] at hc;exact absurd (by decide) hc) (λ_=>?_);refine zab zmH hA hx14 λv17 h17=>?_;refine (zjK h17 hx14 (by omega)).mono ?_;rintro v18 w5 ⟨hx5,o18⟩;refine (zdG o18.is (Ext.refl _)).mono ?_;rintro _ w6 ⟨hx6,rfl⟩;have hx16:=hx14.t (hx5.t hx6);refine br (λhc=>absurd f3 hc) (λ_=>?_);refine zab zmH hA hx16 λv22 h22=>?_;refine (zm5 h22 hx16 hp).mono ?_;rintro v23 w7 ⟨hx7,h23⟩;have hx17:=hx16.t hx7;refine zae u24 h23 ?_;refine zb1 ?_;refine br (λhc=>by simp at hc) (λ_=>?_);refine zab zmH hA hx17 λv27 h27=>?_;refine (zjL h27 hx17).mono ?_;rintro _ w8 ⟨hx8,rfl⟩;refine zaf ?_;have hm:=zeS.2 f4;refine br (λhc=>by unfold zgr at hm;omega) (λ_=>?_);exact ⟨hx1.t (hx17.t hx8),rfl⟩
end Go.Proofs.YtakjaofncelghaaGreat
namespace Go.Sh
open Rep (rep)
open Go.Sort Go.Proofs
section
variable {α:Type} [Inhabited α] {enc:α→List Value} {k:Nat}
theorem zpP (hk:∀ x,(enc x).length=k):∀ (l:List α),(l.flatMap enc).length=l.length*k
 | []=>by simp
 | x :: l=>by rw [List.flatMap_cons,List.length_append,hk,zpP hk l,List.length_cons,Nat.add_mul];omega
theorem zpQ (hk:∀ x,(enc x).length=k) (h0:0<k):∀ {l:List α} {t:Nat},t<l.length*k→(l.flatMap enc)[t]?=some ((enc l[t / k]!)[t%k]!)
 | [],t,h=>by simp at h
 | x :: l,t,h=>by
   rw [List.flatMap_cons];rcases Nat.lt_or_ge t k with ht | ht
   · rw [List.getElem?_append_left (by rw [hk];exact ht),Nat.div_eq_of_lt ht,Nat.mod_eq_of_lt ht]
     have:t<(enc x).length:=by rw [hk];exact ht
     rw [List.getElem?_eq_getElem this];simp [this]
   rw [List.getElem?_append_right (by rw [hk];exact ht),hk];have h':t-k<l.length*k:=by rw [List.length_cons,Nat.add_mul] at h;omega
   rw [zpQ hk h0 h']
   have e1:t / k=(t-k) / k+1:=by
     have:t=(t-k)+k:=by omega
     conv=>lhs;rw [this]
     rw [Nat.add_div_right _ h0]
   have e2:t%k=(t-k)%k:=by
     have:t=(t-k)+k:=by omega
     conv=>lhs;rw [this]
     rw [Nat.add_mod_right]
   rw [e1,e2];simp
theorem zm7 (hk:∀ x,(enc x).length=k) (h0:0<k) {l:List α} {t:Nat} (h:t<l.length*k):(l.flatMap enc)[t]?=some (flatK enc k l.toArray)[t]!:=by
 rw [zpQ hk h0 h,get_flatK enc k l.toArray t (by simpa using h)];simp
end
section
variable {α:Type} [Rep α] [Flat α] [Inhabited α] {w:World} {enc:α→List Value} {b o n cap:Nat} {l:List α}
theorem zm8 (henc:∀ {F w cs} {x:α},rep F w cs x→cs=enc x):∀ {l:List α} {F:List Nat} {xs:List Value},Cells F w xs l→xs=l.flatMap enc
 | [],_,_,⟨_,h⟩=>by simp [h]
 | y :: ys,_,_,⟨F1,F2,c1,c2,_,h,h1,h2⟩=>by rw [h,henc h1,zm8 henc h2,List.flatMap_cons]
theorem zm9 {w':World} (henc:∀ {F w cs} {x:α},rep F w cs x→cs=enc x):∀ {l:List α},(∀ x∈l,∃ F cs,rep F w cs x)→Cells [] w' (l.flatMap enc) l
 | [],_=>⟨rfl,rfl⟩
 | y :: ys,h=>by
   obtain ⟨F,cs,hr⟩:=h y (by simp);have hF:=Flat.flat hr;subst hF;have hc:=henc hr;subst hc;exact ⟨[],[],enc y,ys.flatMap enc,rfl,rfl,Rep.keep hr (by simp),zm9 henc λx hx=>h x (by simp [hx])⟩
theorem zna:∀ {l:List α} {F:List Nat} {xs:List Value},Cells F w xs l→∀ x∈l,∃ F cs,rep F w cs x
 | y :: ys,_,_,⟨F1,F2,c1,c2,_,h,h1,h2⟩,x,hx=>by
   rcases List.mem_cons.1 hx with rfl | hx
   · exact ⟨_,_,h1⟩
   exact zna h2 x hx
theorem znb (henc:∀ {F w cs} {x:α},rep F w cs x→cs=enc x) (hk:∀ x,(enc x).length=Rep.size α) (hw:∃ c e,w.heap[b]?=some (.cells c e (0,0))) {xs:List Value} (hc:Cells [] w xs l) (hr:w.rangeAt b o xs):HoldsK enc (Rep.size α) w b o l.toArray:=by
 intro j hj;rw [size_flatK] at hj;have hj':j<l.length*Rep.size α:=by simpa using hj
 have:=zm8 henc hc;subst this;have h1:=hr j _ (zm7 hk Rep.pos hj');refine ⟨h1,?_⟩;obtain ⟨c,e,he⟩:=hw;simp [World.frozen?,he]
theorem zoG (henc:∀ {F w cs} {x:α},rep F w cs x→cs=enc x) (hk:∀ x,(enc x).length=Rep.size α) {d':Array α} {m:Nat} {os:Array Obj} {w3:World} (hw3:w3=sortWorldK enc (Rep.size α) w b o m d' os) (hw:∃ c e,w.heap[b]?=some (.cells c e (0,0))) {xs:List Value} (hc:Cells [] w xs l) (hr:w.rangeAt b o xs)
   (h1:l.length≤cap) (h2:cap≤maxLen) (hl:d'.size=l.length) (hp:∀ x∈d'.toList,x∈l):Chg [b] w w3∧Mine [b] w3 (.slice (some ⟨b,o,none⟩) l.length cap) d'.toList:=by
 subst hw3;have hH:=znb henc hk hw hc hr;obtain ⟨c,e,he⟩:=hw;have hb:b<w.heap.size:=(Array.getElem?_eq_some_iff.1 he).1;have hsz:(putRowK enc (Rep.size α) (Sort.ahead w m) b o d').heap.size=w.heap.size:=by simp [putRowK,putRow,mapBlock,Sort.ahead]
 have hblk:∀ i,i<w.heap.size→i≠b→(sortWorldK enc (Rep.size α) w b o m d' os).heap[i]?=w.heap[i]?:=λi hi hne=>by
   unfold sortWorldK;rw [heap_grow_old _ _ (by rw [hsz];exact hi)];simp [putRowK,putRow,mapBlock,Sort.ahead,Array.getElem?_modify,hne.symm]
 have hbb:∃ c',(sortWorldK enc (Rep.size α) w b o m d' os).heap[b]?=some (.cells c' e (0,0)):=by
   unfold sortWorldK;rw [heap_grow_old _ _ (by rw [hsz];exact hb)];exact ⟨_,by simp [putRowK,putRow,mapBlock,Sort.ahead,Array.getElem?_modify,he,onCells];rfl⟩
 have hsz2:w.heap.size≤(sortWorldK enc (Rep.size α) w b o m d' os).heap.size:=by
   unfold sortWorldK grow;rw [Array.size_append,hsz];omega
 refine ⟨⟨rfl,rfl,rfl,hsz2,λi hi hm=>hblk i hi λe=>hm (by simp [e])⟩,⟨⟨_,⟨some ⟨b,o,none⟩,cap,[],d'.toList.flatMap enc,rfl,by simpa [hl] using h1,h2,?_,.inr ⟨b,o,rfl,rfl,?_,by omega⟩⟩,by simp [mkv,Rep.agg,hl]⟩,by simp,λi hi=>?_⟩⟩
 · exact zm9 (w:=w) henc λx hx=>zna hc x (hp x hx)
 · intro j v hv
   have hj:j<d'.toList.length*Rep.size α:=by
     have:=(List.getElem?_eq_some_iff.1 hv).1
     rwa [zpP hk] at this
   rw [zm7 hk Rep.pos hj,Option.some.injEq] at hv;have hj2:j<(flatK enc (Rep.size α) d').size:=by rw [size_flatK];simpa using hj
   have:=cell?_putRow id (Sort.ahead w m) b o (flatK enc (Rep.size α) l.toArray) (flatK enc (Rep.size α) d') hH (by simp [hl]) j hj2;unfold sortWorldK;rw [cell?_grow _ _ _ (by rw [hsz];exact hb)];show (putRow id (Sort.ahead w m) b o (flatK enc (Rep.size α) d')).cell? _=_;rw [this,←hv];simp
 simp only [List.mem_cons,List.not_mem_nil,or_false] at hi;subst hi;obtain ⟨c',hc'⟩:=hbb;exact ⟨c',e,hc'⟩
end
end Go.Sh
namespace Go.Sh
open Rep (rep)
section
variable {P:Program} {w:World} {α:Type} [Rep α] [Flat α] {b o n cap k:Nat} {l:List α}
theorem zqQ {F:List Nat} {v:Value} (hm:Mine F w v l) (hl:l≠[]):∃ b o cap xs,v=.slice (some ⟨b,o,none⟩) l.length cap∧F=[b]∧l.length≤cap∧cap≤maxLen∧Cells [] w xs l∧w.rangeAt b o xs∧(∃ c e,w.heap[b]?=some (.cells c e (0,0))):=by
 obtain ⟨⟨cs,⟨a,cap,Fi,xs,rfl,h1,h2,hc,h4⟩,rfl⟩,hn,hw⟩:=hm;rcases h4 with ⟨h4,_⟩ | ⟨b,o,rfl,rfl,hr,hb⟩
 · exact absurd h4 hl
 have hFi:=Cells.flat (xs:=xs) hc;subst hFi;exact ⟨b,o,cap,xs,rfl,rfl,h1,h2,hc,hr,hw b (by simp)⟩
end
end Go.Sh
namespace Go.Sh
open Rep (rep)
abbrev RInts:=RV Int 3
abbrev RIntss:=RV RInts 25
structure DStV where
 vars:List Int
 owner:List Int
 stacks:RIntss
theorem DStV.ext_iff {x y:DStV}:x=y↔(x.vars=y.vars∧x.owner=y.owner∧x.stacks=y.stacks):=⟨λh=>by rw [h];exact ⟨rfl,rfl,rfl⟩,λh=>by obtain ⟨h0,h1,h2⟩:=h;cases x;cases y;simp only at h0 h1 h2;simp only [h0,h1,h2]⟩
instance:Rep DStV:=Rep.via λx=>(x.vars,x.owner,x.stacks)
theorem zeu {w:World} {b o:Nat} {x:DStV} (h:At w b o x):At w b (o+2) x.stacks:=zbj (α:=List Int) (β:=RIntss) (p:=(x.owner,x.stacks)) (zbj (α:=List Int) (β:=(List Int)×RIntss) (p:=(x.vars,x.owner,x.stacks)) h)
instance:RepZ DStV:=⟨⟨(RepZ.zv:List Int),(RepZ.zv:List Int),(RepZ.zv:RIntss)⟩,RepZ.zc ((List Int)×(List Int)×RIntss),λw=>RepZ.zr (α:=(List Int)×(List Int)×RIntss) w⟩
theorem zoH {γ:Type} {H:List Nat→World→γ→Prop} {F:List Nat} {w:World} {b o:Nat} {G:List Nat} {x:DStV} {upd:DStV→γ} (h:Lens H F w b o G x upd) :
   ∃ G1,Lens H F w b (o+0) G1 x.vars (λy=>upd ⟨y,x.owner,x.stacks⟩):=by
 have h':Lens H F w b o G (x.vars,x.owner,x.stacks) (λp:(List Int)×(List Int)×RIntss=>upd ⟨p.1,p.2.1,p.2.2⟩):=⟨h.here,h.sub,λw' G' y' hc hO hs=>h.back w' G' _ hc hO hs⟩;obtain ⟨G0,h'⟩:=h'.fst;exact ⟨_,h'⟩
theorem zoI {γ:Type} {H:List Nat→World→γ→Prop} {F:List Nat} {w:World} {b o:Nat} {G:List Nat} {x:DStV} {upd:DStV→γ} (h:Lens H F w b o G x upd) :
   ∃ G1,Lens H F w b (o+1) G1 x.owner (λy=>upd ⟨x.vars,y,x.stacks⟩):=by
 have h':Lens H F w b o G (x.vars,x.owner,x.stacks) (λp:(List Int)×(List Int)×RIntss=>upd ⟨p.1,p.2.1,p.2.2⟩):=⟨h.here,h.sub,λw' G' y' hc hO hs=>h.back w' G' _ hc hO hs⟩;obtain ⟨G0,h'⟩:=h'.snd;obtain ⟨G1,h'⟩:=h'.fst;exact ⟨_,h'⟩
theorem zcP {γ:Type} {H:List Nat→World→γ→Prop} {F:List Nat} {w:World} {b o:Nat} {G:List Nat} {x:DStV} {upd:DStV→γ} (h:Lens H F w b o G x upd) :
   ∃ G1,Lens H F w b (o+2) G1 x.stacks (λy=>upd ⟨x.vars,x.owner,y⟩):=by
 have h':Lens H F w b o G (x.vars,x.owner,x.stacks) (λp:(List Int)×(List Int)×RIntss=>upd ⟨p.1,p.2.1,p.2.2⟩):=⟨h.here,h.sub,λw' G' y' hc hO hs=>h.back w' G' _ hc hO hs⟩;obtain ⟨G0,h'⟩:=h'.snd;obtain ⟨G1,h'⟩:=h'.snd;exact ⟨_,h'⟩
theorem zpR {w:World} {F:List Nat} {cs:List Value} {x:DStV} (h:rep F w cs x):∃ F0 c0 F1 c1 F2 c2,F=(F0++(F1++F2))∧cs=(c0++(c1++c2))∧rep F0 w c0 x.vars∧rep F1 w c1 x.owner∧rep F2 w c2 x.stacks:=by
 obtain ⟨F0,G0,c0,d0,rfl,rfl,h0,h⟩:=h;obtain ⟨F1,G1,c1,d1,rfl,rfl,h1,h⟩:=h;exact ⟨_,_,_,_,_,_,rfl,rfl,h0,h1,h⟩
def DStV.er (z:DStV):DState:=⟨z.vars,z.owner,z.stacks.l.map RV.l⟩
section
variable {w:World}
theorem zuk {F G H:List Nat} {a b:Value} {s:DStV} (h1:Mine F w a s.vars) (h2:Mine G w b s.owner) (h3:Mine H w s.stacks.v s.stacks) (hn:(F++(G++H)).Nodup):Mine (F++(G++H)) w (.agg #[a,b,s.stacks.v]) s:=
 ⟨⟨[a,b,s.stacks.v],zaI (zbA rfl h1.own) (zaI (zbA rfl h2.own) (zbA rfl h3.own)),rfl⟩,hn,h1.wr.append (h2.wr.append h3.wr)⟩
theorem zpS {a b:Value} {s:DStV} {lo hi l0 h0 l1 h1 l2 h2:Nat} (m0:OwnI l0 h0 w a s.vars) (m1:OwnI l1 h1 w b s.owner) (m2:OwnI l2 h2 w s.stacks.v s.stacks) (d01:h0≤l1∨h1≤l0) (d02:h0≤l2∨h2≤l0) (d12:h1≤l2∨h2≤l1)
   (b0:lo≤l0∧h0≤hi) (b1:lo≤l1∧h1≤hi) (b2:lo≤l2∧h2≤hi):OwnI lo hi w (.agg #[a,b,s.stacks.v]) s:=by
 obtain ⟨F0,M0,B0⟩:=m0;obtain ⟨F1,M1,B1⟩:=m1;obtain ⟨F2,M2,B2⟩:=m2;refine ⟨F0++(F1++F2),zuk M0 M1 M2 ?_,λx hx=>?_⟩
 · rw [List.nodup_append,List.nodup_append]
   refine ⟨M0.nodup,⟨M1.nodup,M2.nodup,λp hp q hq e=>?_⟩,λp hp q hq e=>?_⟩
   · subst e;have:=B1 p hp;have:=B2 p hq;omega
   subst e;have:=B0 p hp;rcases List.mem_append.1 hq with hq | hq
   · have:=B1 p hq;omega
   have:=B2 p hq;omega
 rcases List.mem_append.1 hx with hx | hx
 · have:=B0 x hx;omega
 rcases List.mem_append.1 hx with hx | hx
 · have:=B1 x hx;omega
 have:=B2 x hx;omega
end
end Go.Sh
namespace Go.Proofs.YtakjaofncelghaaGreat
open Go Go.Sh Go.Proofs
open Rep (rep)
def F52 (a0:Value) (w:World) (R:VW):Prop:=
 oX 36 a0 w λx1 w=>
 oP (aL 36) w λx2 w=>
 (λw0=>PAR w0 [[(0,6)],[(1,7),(0,6)],[(2,8),(1,7)],[(3,9)],[(4,10),(3,9)],[(5,11),(4,10),(2,8)],[(6,12),(2,8),(5,11)],[(7,3)]] (λQ=>
 (∀ (u1:Env) (T:Nat→Nat×Nat) (w:World),Ext w0 w→zaL [] w0.heap.size w.heap.size T→(True)→(λw1=>rF 36 x1 0 w λx6=>
 Ext w1 w∧Q 0 (upd u1 6 x6) (zbS T 0 (w1.heap.size,w.heap.size)) w) w) ∧
 (∀ (u1:Env) (T:Nat→Nat×Nat) (w:World),Ext w0 w→zaL [0] w0.heap.size w.heap.size T→(Q 0 u1 T w∧True)→(λw1=>rL 25 (u1 6) w λx7=>
 Ext w1 w∧Q 1 (upd u1 7 x7) (zbS T 1 (w1.heap.size,w.heap.size)) w) w) ∧
 (∀ (u1:Env) (T:Nat→Nat×Nat) (w:World),Ext w0 w→zaL [1] w0.heap.size w.heap.size T→(Q 1 u1 T w∧True)→(λw1=>cL 96 [(u1 7)] w λx8 w=>
 Ext w1 w∧Q 2 (upd u1 8 x8) (zbS T 2 (w1.heap.size,w.heap.size)) w) w) ∧
 (∀ (u1:Env) (T:Nat→Nat×Nat) (w:World),Ext w0 w→zaL [] w0.heap.size w.heap.size T→(True)→(λw1=>rF 36 x1 1 w λx9=>
 Ext w1 w∧Q 3 (upd u1 9 x9) (zbS T 3 (w1.heap.size,w.heap.size)) w) w) ∧
 (∀ (u1:Env) (T:Nat→Nat×Nat) (w:World),Ext w0 w→zaL [3] w0.heap.size w.heap.size T→(Q 3 u1 T w∧True)→(λw1=>rL 25 (u1 9) w λx10=>
 Ext w1 w∧Q 4 (upd u1 10 x10) (zbS T 4 (w1.heap.size,w.heap.size)) w) w) ∧
 (∀ (u1:Env) (T:Nat→Nat×Nat) (w:World),Ext w0 w→zaL [4,2] w0.heap.size w.heap.size T→(Q 4 u1 T w∧Q 2 u1 T w∧True)→(λw1=>cL 96 [(u1 10)] w λx11 w=>
 Ext w1 w∧Q 5 (upd u1 11 x11) (zbS T 5 (w1.heap.size,w.heap.size)) w) w) ∧
 (∀ (u1:Env) (T:Nat→Nat×Nat) (w:World),Ext w0 w→zaL [2,5] w0.heap.size w.heap.size T→(Q 2 u1 T w∧Q 5 u1 T w∧True)→(λw1=>rD (Instr.build 36 #[(0,(u1 8)),(1,(u1 11))]) w λx12=>
 Ext w1 w∧Q 6 (upd u1 12 x12) (zbS T 6 (w1.heap.size,w.heap.size)) w) w) ∧
 (∀ (u1:Env) (T:Nat→Nat×Nat) (w:World),Ext w0 w→zaL [] w0.heap.size w.heap.size T→(True)→(λw1=>oP (aL 36) w λx3 w=>
 Ext w1 w∧Q 7 (upd u1 3 x3) (zbS T 7 (w1.heap.size,w.heap.size)) w) w) ∧
 True)
 (λQ=>∀ (u1:Env) (T:Nat→Nat×Nat) (w:World),Ext w0 w→zaL [0,1,2,3,4,5,6,7] w0.heap.size w.heap.size T→(Q 0 u1 T w∧Q 1 u1 T w∧Q 2 u1 T w∧Q 3 u1 T w∧Q 4 u1 T w∧Q 5 u1 T w∧Q 6 u1 T w∧Q 7 u1 T w∧True) →
 oS 36 (u1 3) (u1 12) w λw=>
 rF 36 x1 2 w λx13=>
 rL 33 x13 w λx14=>
 rN 33 3 x14 w λx15=>
 LOOPI [16] [(iV 0)] w λu3 w n3=>
 rC (u3 16) x15 w λx17=>
 BR x17
 (rX 33 x14 (u3 16) w λx18=>
 rL 25 x18 w λx19=>
 (λw=>rF 36 (u1 3) 2 w λx20=>
 rL 33 x20 w λx21=>
 (λw_=>cL 96 [x19] w_ λx23 w=>
 Ext w_ w ∧
 (λw_=>oP (bS 33 x23) w_ λx24 w=>
 Ext w_ w ∧
 (oP (aP 33 x21 x24) w λx25 w=>
 rF 36 (u1 3) 2 w λx26=>
 oS 33 x26 x25 w λw=>
 rI (u3 16) w λx27=>
 n3 [x27] w)) w) w) (World.drew1 w))
 (rL 36 (u1 3) w λx28=>
 oS 36 x2 x28 w λw=>
 rD (zaJ 36 x2) w λr2=>R r2 w))) (World.drew1 w)
def cfg52:Cfg:=⟨extL,[],[(3,268369952,[16])],[(5,[0,1,2,3,4,5,6,7],24)],[(1,8136,8)],[],[]⟩
theorem F52_call {a0 w R} (h:F52 a0 w R):cL 52 [a0] w R:=co (g:=cfg52) Tryz.func52 h
def F55 (a0:Value) (w:World) (R:VW):Prop:=
 oX 36 a0 w λx1 w=>
 oP (aL 36) w λx2 w=>
 (λw0=>PAR w0 [[(0,5)],[(1,6)],[(2,7),(1,6)],[(3,8),(0,5),(2,7)],[(4,9)],[(5,10)],[(6,11),(5,10)],[(7,12),(4,9),(6,11),(3,8)],[(8,13),(3,8),(7,12)],[(9,3)]] (λQ=>
 (∀ (u1:Env) (T:Nat→Nat×Nat) (w:World),Ext w0 w→zaL [] w0.heap.size w.heap.size T→(True)→(λw1=>oP (Instr.buildSlice 25 0 #[]) w λx5 w=>
 Ext w1 w∧Q 0 (upd u1 5 x5) (zbS T 0 (w1.heap.size,w.heap.size)) w) w) ∧
 (∀ (u1:Env) (T:Nat→Nat×Nat) (w:World),Ext w0 w→zaL [] w0.heap.size w.heap.size T→(True)→(λw1=>rF 36 x1 0 w λx6=>
 Ext w1 w∧Q 1 (upd u1 6 x6) (zbS T 1 (w1.heap.size,w.heap.size)) w) w) ∧
 (∀ (u1:Env) (T:Nat→Nat×Nat) (w:World),Ext w0 w→zaL [1] w0.heap.size w.heap.size T→(Q 1 u1 T w∧True)→(λw1=>rL 25 (u1 6) w λx7=>
 Ext w1 w∧Q 2 (upd u1 7 x7) (zbS T 2 (w1.heap.size,w.heap.size)) w) w) ∧
 (∀ (u1:Env) (T:Nat→Nat×Nat) (w:World),Ext w0 w→zaL [0,2] w0.heap.size w.heap.size T→(Q 0 u1 T w∧Q 2 u1 T w∧True)→(λw1=>oP (aP 25 (u1 5) (u1 7)) w λx8 w=>
 Ext w1 w∧Q 3 (upd u1 8 x8) (zbS T 3 (w1.heap.size,w.heap.size)) w) w) ∧
 (∀ (u1:Env) (T:Nat→Nat×Nat) (w:World),Ext w0 w→zaL [] w0.heap.size w.heap.size T→(True)→(λw1=>oP (Instr.buildSlice 25 0 #[]) w λx9 w=>
 Ext w1 w∧Q 4 (upd u1 9 x9) (zbS T 4 (w1.heap.size,w.heap.size)) w) w) ∧
 (∀ (u1:Env) (T:Nat→Nat×Nat) (w:World),Ext w0 w→zaL [] w0.heap.size w.heap.size T→(True)→(λw1=>rF 36 x1 1 w λx10=>
 Ext w1 w∧Q 5 (upd u1 10 x10) (zbS T 5 (w1.heap.size,w.heap.size)) w) w) ∧
 (∀ (u1:Env) (T:Nat→Nat×Nat) (w:World),Ext w0 w→zaL [5] w0.heap.size w.heap.size T→(Q 5 u1 T w∧True)→(λw1=>rL 25 (u1 10) w λx11=>
 Ext w1 w∧Q 6 (upd u1 11 x11) (zbS T 6 (w1.heap.size,w.heap.size)) w) w) ∧
 (∀ (u1:Env) (T:Nat→Nat×Nat) (w:World),Ext w0 w→zaL [4,6,3] w0.heap.size w.heap.size T→(Q 4 u1 T w∧Q 6 u1 T w∧Q 3 u1 T w∧True)→(λw1=>oP (aP 25 (u1 9) (u1 11)) w λx12 w=>
 Ext w1 w∧Q 7 (upd u1 12 x12) (zbS T 7 (w1.heap.size,w.heap.size)) w) w) ∧
 (∀ (u1:Env) (T:Nat→Nat×Nat) (w:World),Ext w0 w→zaL [3,7] w0.heap.size w.heap.size T→(Q 3 u1 T w∧Q 7 u1 T w∧True)→(λw1=>rD (Instr.build 36 #[(0,(u1 8)),(1,(u1 12))]) w λx13=>
 Ext w1 w∧Q 8 (upd u1 13 x13) (zbS T 8 (w1.heap.size,w.heap.size)) w) w) ∧
 (∀ (u1:Env) (T:Nat→Nat×Nat) (w:World),Ext w0 w→zaL [] w0.heap.size w.heap.size T→(True)→(λw1=>oP (aL 36) w λx3 w=>
 Ext w1 w∧Q 9 (upd u1 3 x3) (zbS T 9 (w1.heap.size,w.heap.size)) w) w) ∧
 True)
 (λQ=>∀ (u1:Env) (T:Nat→Nat×Nat) (w:World),Ext w0 w→zaL [0,1,2,3,4,5,6,7,8,9] w0.heap.size w.heap.size T→(Q 0 u1 T w∧Q 1 u1 T w∧Q 2 u1 T w∧Q 3 u1 T w∧Q 4 u1 T w∧Q 5 u1 T w∧Q 6 u1 T w∧Q 7 u1 T w∧Q 8 u1 T w∧Q 9 u1 T w∧True) →
 oS 36 (u1 3) (u1 13) w λw=>
 LOOPI [4] [(iV 0)] w λu3 w n3=>
 rF 36 x1 2 w λx15=>
 rL 33 x15 w λx16=>
 rN 33 3 x16 w λx17=>
 rC (u3 4) x17 w λx18=>
 BR x18
 ((λw=>rF 36 (u1 3) 2 w λx21=>
 rL 33 x21 w λx22=>
 rF 36 x1 2 w λx24=>
 rL 33 x24 w λx25=>
 rX 33 x25 (u3 4) w λx27=>
 rL 25 x27 w λx28=>
 (λw_=>oP (Instr.buildSlice 25 0 #[]) w_ λx23 w=>
 Ext w_ w ∧
 ((λw_=>oP (aP 25 x23 x28) w_ λx29 w=>
 Ext w_ w ∧
 ((λw_=>oP (bS 33 x29) w_ λx30 w=>
 Ext w_ w ∧
 (oP (aP 33 x22 x30) w λx31 w=>
 rF 36 (u1 3) 2 w λx32=>
 oS 33 x32 x31 w λw=>
 rI (u3 4) w λx20=>
 n3 [x20] w)) w)) w)) w) (World.drew1 w))
 (rL 36 (u1 3) w λx33=>
 oS 36 x2 x33 w λw=>
 rD (zaJ 36 x2) w λr2=>R r2 w))) (World.drew1 w)
def cfg55:Cfg:=⟨extL,[],[(3,8589918224,[4])],[(5,[0,1,3,4,5,6,7,2,8,9,10,11,12],772)],[(1,16360,10)],[],[]⟩
theorem F55_call {a0 w R} (h:F55 a0 w R):cL 55 [a0] w R:=co (g:=cfg55) Tryz.func55 h
theorem ztL:zcu tp 36=some [.slice none 0 0,.slice none 0 0,.slice none 0 0]:=by kernel_rfl
theorem zfe {lo hi:Nat} {w:World} {v:Value} {α:Type} [Rep α] {l:List α} (h:OwnI lo hi w v l):∃ a n c,v=.slice a n c:=by
 obtain ⟨a,cap,Fi,xs,hv,_⟩:=zcY h.is;exact ⟨a,_,cap,hv⟩
theorem zeg {P:Program} {w w0:World} {α:Type} [Rep α] [Flat α] {t ty e:TypeId} {by_:Nat} {a:Option Addr} {src:Value} {m:List α} {K:Value→World→Prop} (ht:P.underlying t=some (.slice e)) (he:tyI P e=some (Rep.size α,by_,Rep.agg α))
   (hzc:(P.info? e).map (λi=>(i.zero.map (·.cells.size)))=some (some (Rep.size α))) (hs:Is w0 src m) (hx:Ext w0 w) (hm:m.length≤maxLen) (hb:m.length*by_≤140737488355328)
   (k:∀ v' w',Ext w w'→RowI w.heap.size w'.heap.size e w' v' m→K v' w'):OP P (Builtin.append_ #[t,t] ty [.slice a 0 0,src].toArray) w K:=
 zhP (lo:=w.heap.size) (hi:=w.heap.size) (l:=([]:List α)) ht he hzc (zcw _ _ _ _ _) (lr _) hs hx (by simpa using hm) (by simpa using hb) λv' w' hc hr=>k v' w' ((Ext.refl w).chgI hc (lr _)) (by simpa using hr)
theorem zsB {w w0:World} {v:Value} {l:List Int} (h:Is w0 v l) (hx:Ext w0 w) (hn:l.length≤1073741824) :
   CALL tp 96 [v] w λr w'=>Ext w w'∧RowI w.heap.size w'.heap.size 3 w' r l:=by
 refine F96_call ?_;unfold F96;obtain ⟨a,cap,Fi,xs,rfl,h1,h2,hc,h4⟩:=zcY h;refine ziq zqB ?_;refine zcd (λhnil=>?_) (λhnn=>?_)
 · have:l=[]:=by
     rcases h4 with h4 | ⟨b,o,ha,_⟩
     · exact h4
     subst ha;simp at hnil
   subst this;exact ⟨Ext.refl w,zcm _ _ _ _⟩
 refine zaQ (α:=Int) zqB zt4 λa1 w1 hx1 hr1=>?_;refine zeg (α:=Int) zqB zt4 zwZ h (hx.t hx1) (by rw [zak];omega) (by omega) λv2 w2 hx2 hr2=>?_;exact ⟨hx1.t hx2,hr2.mono hx1.size (lr _)⟩
def zv3 (s:DState):Prop:=s.vars.length≤1073741824∧s.owner.length≤1073741824∧s.stacks.length≤1073741824∧∀ x∈s.stacks,x.length≤1073741824
def cpQ (s:DState) (g1:Nat) (w0:World):ParQ:=λi u T w=>match i with
 | 0=>u 6=.pointer (some ⟨g1,0+0,none⟩)
 | 1=>Is w0 (u 7) s.vars
 | 2=>OwnI (T 2).1 (T 2).2 w (u 8) s.vars
 | 3=>u 9=.pointer (some ⟨g1,0+1,none⟩)
 | 4=>Is w0 (u 10) s.owner
 | 5=>OwnI (T 5).1 (T 5).2 w (u 11) s.owner
 | 6=>u 12=.agg #[u 8,u 11,.slice none 0 0]
 | 7=>∃ g,u 3=.pointer (some ⟨g,0,none⟩)∧(T 7).1≤g∧g<(T 7).2∧Blk g 36 w [.slice none 0 0,.slice none 0 0,.slice none 0 0]
 | _=>True
theorem ziy {w W:World} {v:Value} {s:DState} (h:Is W v s) (e:Ext W w) (hsz:zv3 s) :
   CALL tp 52 [v] w λr w'=>Ext w w'∧∃ z:DStV,OwnI w.heap.size w'.heap.size w' r z∧z.er=s:=by
 obtain ⟨hz1,hz2,hz3,hz4⟩:=hsz;refine F52_call ?_;unfold F52;refine zcb h e λw1 hx1 hA=>?_;refine zbH ztL λw2 hx2 hB2=>?_;have hg2:=hB2.lt;have hs1:=hx1.size;have hx3:=zai w2;have hs3:=hx3.size;refine PAR.mk (cpQ s w.heap.size (World.drew1 w2)) ?_ ?_ ?_
 · intro i u u' T T' wa wb hxa hxb hd hq
   match i,hd,hq with
   | 0,hd,hq=>exact (hd (0,6) (by decide)).1.trans hq
   | 1,hd,hq=>have:=(hd (1,7) (by decide)).1;show Is _ (u' 7) _;simp only [this];exact hq
   | 2,hd,hq=>
     obtain ⟨e1,e2⟩:=hd (2,8) (by decide);simp only at e1 e2;show OwnI (T' 2).1 (T' 2).2 wb (u' 8) s.vars;rw [e1,e2];exact OwnI.ext hq hxb
   | 3,hd,hq=>exact (hd (3,9) (by decide)).1.trans hq
   | 4,hd,hq=>have:=(hd (4,10) (by decide)).1;show Is _ (u' 10) _;simp only [this];exact hq
   | 5,hd,hq=>
     obtain ⟨e1,e2⟩:=hd (5,11) (by decide);simp only at e1 e2;show OwnI (T' 5).1 (T' 5).2 wb (u' 11) s.owner;rw [e1,e2];exact OwnI.ext hq hxb
   | 6,hd,hq=>
     have e1:=(hd (6,12) (by decide)).1;have e2:=(hd (2,8) (by decide)).1;have e3:=(hd (5,11) (by decide)).1;simp only at e1 e2 e3;show u' 12=.agg #[u' 8,u' 11,.slice none 0 0];rw [e1,e2,e3];exact hq
   | 7,hd,⟨g,q1,q2,q3,q4⟩=>
     obtain ⟨e1,e2⟩:=hd (7,3) (by decide);simp only at e1 e2;exact ⟨g,e1.trans q1,by rw [e2];exact q2,by rw [e2];exact q3,q4.ext hxb⟩
   | n+8,_,_=>trivial
 · refine ⟨λu T w' hx _ _=>?_,λu T w' hx _ hp=>?_,λu T w' hx _ hp=>?_,λu T w' hx _ _=>?_,λu T w' hx _ hp=>?_,λu T w' hx _ hp=>?_,λu T w' hx _ hp=>?_,λu T w' hx _ _=>?_,trivial⟩
   · exact zaa zel ⟨Ext.refl _,rfl⟩
   · have q0:u 6=_:=hp.1
     rw [q0];exact zab zaK (zbt hA) (hx2.t (hx3.t hx)) λv6 h6=>⟨Ext.refl _,(h6.ext (hx2.t hx3))⟩
   · have q1:Is _ (u 7) s.vars:=hp.1
     exact (zpv q1 hx hz1).mono λr w4 ⟨hx4,ho⟩=>⟨hx4,ho.toI⟩
   · exact zaa zc2 ⟨Ext.refl _,rfl⟩
   · have q0:u 9=_:=hp.1
     rw [q0];exact zab zaK (zbu hA) (hx2.t (hx3.t hx)) λv6 h6=>⟨Ext.refl _,(h6.ext (hx2.t hx3))⟩
   · have q1:Is _ (u 10) s.owner:=hp.1
     exact (zpv q1 hx hz2).mono λr w4 ⟨hx4,ho⟩=>⟨hx4,ho.toI⟩
   · have o1:OwnI _ _ _ (u 8) s.vars:=hp.1
     have o2:OwnI _ _ _ (u 11) s.owner:=hp.2.1;obtain ⟨a,n,cap,q1⟩:=zfe o1;obtain ⟨a',n',cap',q1'⟩:=zfe o2;rw [q1,q1'];refine zaX (cells:=#[.slice a n cap,.slice a' n' cap',.slice none 0 0]) (by kernel_rfl) ⟨Ext.refl _,?_⟩;show _=Value.agg #[u 8,u 11,.slice none 0 0];rw [q1,q1'];rfl
   exact zbH ztL λw4 hx4 hB=>⟨hx4,w'.heap.size,rfl,lr _,hB.lt,hB⟩
 rintro u T w4 hx4 hap ⟨-,-,o8,-,-,o11,q12,⟨g,q3,hg0,hg1,hB3⟩,-⟩;have q12:u 12=.agg #[u 8,u 11,.slice none 0 0]:=q12;have o8:OwnI (T 2).1 (T 2).2 w4 (u 8) s.vars:=o8;have o11:OwnI (T 5).1 (T 5).2 w4 (u 11) s.owner:=o11;have t2:=hap.1 2 (by decide);have t5:=hap.1 5 (by decide);have t7:=hap.1 7 (by decide);have d25:=hap.2 2 (by decide) 5 (by decide) (by decide);have d27:=hap.2 2 (by decide) 7 (by decide) (by decide);have d57:=hap.2 5 (by decide) 7 (by decide) (by decide);generalize u 8=v8 at *;generalize u 11=v11 at *;have hs4:=hx4.size;rw [q12,q3]
 refine zbU (x:=(⟨s.vars,s.owner,[]⟩:DState)) (lo:=0) (hi:=w4.heap.size) zcT rfl hB3 rfl
   (zfa (l2:=0) (h2:=0) o8 o11 (zdr none) (by omega) (by omega) (by omega) (by omega) (by omega) (by omega)) λw5 hc5 hB5=>?_
 have hs5:=hc5.size;have hx15:Ext w1 w5:=Ext.chgI (hx2.t (hx3.t hx4)) hc5 (by omega)
 replace o8:=o8.chg hc5 (by omega)
 replace o11:=o11.chg hc5 (by omega)
 have hB25:=((hB2.ext hx3).ext hx4).chgI hc5 (by omega);refine zaa zaW ?_;refine zab zd5 (zay hA) hx15 λv14 h14=>?_;refine zae u33 h14 ?_
 refine zat s.stacks.length (λk us w'=>us=[.int .i64 (k:Int)]∧w5.heap.size≤w'.heap.size∧Ext w1 w'∧OwnI (T 2).1 (T 2).2 w' v8 s.vars∧OwnI (T 5).1 (T 5).2 w' v11 s.owner ∧
   (∃ v1 hi,∃ l:List RInts,hi≤w'.heap.size∧w5.heap.size≤hi∧l.map RV.l=s.stacks.take k∧Blk g 36 w' [v8,v11,v1]∧RowI w5.heap.size hi 25 w' v1 l)∧Blk w1.heap.size 36 w' [.slice none 0 0,.slice none 0 0,.slice none 0 0]) 0 (z0 _)
   ⟨rfl,lr _,hx15,o8,o11,⟨.slice none 0 0,w5.heap.size,[],lr _,Nat.le_refl _,by simp,hB5,zcm _ _ _ _⟩,hB25⟩ ?_
 rintro k m uu w7 hkm ⟨hu,hs7,hx7,o8,o11,⟨v1,hi,l,hhi,hhi2,hl,hB7,r7⟩,hB27⟩;try replace hu:=zbG hu
 rw [hu];have hll:l.length=k:=by have:=congrArg List.length hl;simp at this;omega
 refine zaf ?_;refine br (λhlt=>?_) (λhge=>?_)
 · have hk:k<s.stacks.length:=by omega
   refine zad u33 zaK h14 hk λb o hA2=>?_;refine zab zaK hA2 hx7 λv19 h19=>?_;have hx8:=zai w7;have hs8:=hx8.size;refine zaa zaW ?_;refine zas zd5 (hB7.ext hx8) rfl ?_;refine (zsB h19 (hx7.t hx8) (hz4 _ (List.getElem_mem hk))).mono ?_;rintro r23 w9 ⟨hx9,r9⟩;have hs9:=hx9.size;refine ⟨hx9,?_⟩;refine ziN (α:=RInts) u33 zaK z25 zt5 (by decide) ((r7.ext hx8).ext hx9) (by omega) (zh5 r9) (by omega) (by omega) (by rw [zak];omega) (by omega) λv25 w10 hc10 r10=>?_;have hs10:=hc10.size;have hx79:=hx8.t hx9;refine zaa zaW ?_;refine zbp (α:=List RInts) zd5 rfl rfl ((hB7.ext hx79).chgI hc10 (by omega)) (by simp) r10.own λw11 hc11 hB11=>?_;have hs11:=hc11.size;refine zaB ?_;refine ⟨m-1,by omega,k+1,by omega,rfl,by omega,Ext.chgI (Ext.chgI (hx7.t hx79) hc10 (by omega)) hc11 (by omega),((o8.ext hx79).chg hc10 (by omega)).chg hc11 (by omega),((o11.ext hx79).chg hc10 (by omega)).chg hc11 (by omega),⟨v25,w10.heap.size,_,by omega,by omega,?_,hB11,r10.chg hc11 (by omega)⟩,((hB27.ext hx79).chgI hc10 (by omega)).chgI hc11 (by omega)⟩;rw [List.map_append,hl,tk hk];rfl
 have hk:k=s.stacks.length:=by omega
 refine zgL hB7 zcT ?_
 have ost:OwnI w2.heap.size w7.heap.size w7 (.agg #[v8,v11,v1]) (⟨s.vars,s.owner,⟨v1,l⟩⟩:DStV):=
   zpS (s:=⟨s.vars,s.owner,⟨v1,l⟩⟩) o8 o11 (zh5 r7) (by omega) (by omega) (by omega) (by omega) (by omega) (by omega)
 refine zbU zcT rfl hB27 rfl ost λw13 hc13 hB13=>?_;have hs13:=hc13.size;refine zer hB13 zcT ?_;refine ⟨Ext.chgI (hx1.t hx7) hc13 (by omega),_,(ost.chg hc13 (by omega)).mono (by omega) (by omega),?_⟩;show (⟨s.vars,s.owner,l.map RV.l⟩:DState)=s;rw [hl,hk,List.take_length]
def cqQ (s:DState) (g1:Nat) (w0:World):ParQ:=λi u T w=>match i with
 | 0=>∃ a,u 5=.slice (some a) 0 0
 | 1=>u 6=.pointer (some ⟨g1,0+0,none⟩)
 | 2=>Is w0 (u 7) s.vars
 | 3=>OwnI (T 3).1 (T 3).2 w (u 8) s.vars
 | 4=>∃ a,u 9=.slice (some a) 0 0
 | 5=>u 10=.pointer (some ⟨g1,0+1,none⟩)
 | 6=>Is w0 (u 11) s.owner
 | 7=>OwnI (T 7).1 (T 7).2 w (u 12) s.owner
 | 8=>u 13=.agg #[u 8,u 12,.slice none 0 0]
 | 9=>∃ g,u 3=.pointer (some ⟨g,0,none⟩)∧(T 9).1≤g∧g<(T 9).2∧Blk g 36 w [.slice none 0 0,.slice none 0 0,.slice none 0 0]
 | _=>True
theorem zkV {w W:World} {v:Value} {s:DState} (h:Is W v s) (e:Ext W w) (hsz:zv3 s) :
   CALL tp 55 [v] w λr w'=>Ext w w'∧∃ z:DStV,OwnI w.heap.size w'.heap.size w' r z∧z.er=s:=by
 obtain ⟨hz1,hz2,hz3,hz4⟩:=hsz;refine F55_call ?_;unfold F55;refine zcb h e λw1 hx1 hA=>?_;refine zbH ztL λw2 hx2 hB2=>?_;have hg2:=hB2.lt;have hs1:=hx1.size;have hx3:=zai w2;have hs3:=hx3.size;refine PAR.mk (cqQ s w.heap.size (World.drew1 w2)) ?_ ?_ ?_
 · intro i u u' T T' wa wb hxa hxb hd hq
   match i,hd,hq with
   | 0,hd,⟨a,hq⟩=>exact ⟨a,(hd (0,5) (by decide)).1.trans hq⟩
   | 1,hd,hq=>exact (hd (1,6) (by decide)).1.trans hq
   | 2,hd,hq=>have:=(hd (2,7) (by decide)).1;show Is _ (u' 7) _;simp only [this];exact hq
   | 3,hd,hq=>
     obtain ⟨e1,e2⟩:=hd (3,8) (by decide);simp only at e1 e2;show OwnI (T' 3).1 (T' 3).2 wb (u' 8) s.vars;rw [e1,e2];exact OwnI.ext hq hxb
   | 4,hd,⟨a,hq⟩=>exact ⟨a,(hd (4,9) (by decide)).1.trans hq⟩
   | 5,hd,hq=>exact (hd (5,10) (by decide)).1.trans hq
   | 6,hd,hq=>have:=(hd (6,11) (by decide)).1;show Is _ (u' 11) _;simp only [this];exact hq
   | 7,hd,hq=>
     obtain ⟨e1,e2⟩:=hd (7,12) (by decide);simp only at e1 e2;show OwnI (T' 7).1 (T' 7).2 wb (u' 12) s.owner;rw [e1,e2];exact OwnI.ext hq hxb
   | 8,hd,hq=>
     have e1:=(hd (8,13) (by decide)).1;have e2:=(hd (3,8) (by decide)).1;have e3:=(hd (7,12) (by decide)).1;simp only at e1 e2 e3;show u' 13=.agg #[u' 8,u' 12,.slice none 0 0];rw [e1,e2,e3];exact hq
   | 9,hd,⟨g,q1,q2,q3,q4⟩=>
     obtain ⟨e1,e2⟩:=hd (9,3) (by decide);simp only at e1 e2;exact ⟨g,e1.trans q1,by rw [e2];exact q2,by rw [e2];exact q3,q4.ext hxb⟩
   | n+10,_,_=>trivial
 · refine ⟨λu T w' hx _ _=>?_,λu T w' hx _ _=>?_,λu T w' hx _ hp=>?_,λu T w' hx _ hp=>?_,λu T w' hx _ _=>?_,λu T w' hx _ _=>?_,λu T w' hx _ hp=>?_,λu T w' hx _ hp=>?_,λu T w' hx _ hp=>?_,λu T w' hx _ _=>?_,trivial⟩
   · exact zaQ (α:=Int) u25 ty3 λa w4 hx4 _=>⟨hx4,a,rfl⟩
   · exact zaa zel ⟨Ext.refl _,rfl⟩
   · have q0:u 6=_:=hp.1
     rw [q0];exact zab zaK (zbt hA) (hx2.t (hx3.t hx)) λv6 h6=>⟨Ext.refl _,(h6.ext (hx2.t hx3))⟩
   · obtain ⟨a,q0⟩:∃ a,u 5=.slice (some a) 0 0:=hp.1
     have q1:Is _ (u 7) s.vars:=hp.2.1;rw [q0];exact zeg (α:=Int) u25 ty3 zc3 q1 hx (by rw [zak];omega) (by omega) λv4 w4 hx4 r4=>⟨hx4,r4.own⟩
   · exact zaQ (α:=Int) u25 ty3 λa w4 hx4 _=>⟨hx4,a,rfl⟩
   · exact zaa zc2 ⟨Ext.refl _,rfl⟩
   · have q0:u 10=_:=hp.1
     rw [q0];exact zab zaK (zbu hA) (hx2.t (hx3.t hx)) λv6 h6=>⟨Ext.refl _,(h6.ext (hx2.t hx3))⟩
   · obtain ⟨a,q0⟩:∃ a,u 9=.slice (some a) 0 0:=hp.1
     have q1:Is _ (u 11) s.owner:=hp.2.1;rw [q0];exact zeg (α:=Int) u25 ty3 zc3 q1 hx (by rw [zak];omega) (by omega) λv4 w4 hx4 r4=>⟨hx4,r4.own⟩
   · have o1:OwnI _ _ _ (u 8) s.vars:=hp.1
     have o2:OwnI _ _ _ (u 12) s.owner:=hp.2.1;obtain ⟨a,n,cap,q1⟩:=zfe o1;obtain ⟨a',n',cap',q1'⟩:=zfe o2;rw [q1,q1'];refine zaX (cells:=#[.slice a n cap,.slice a' n' cap',.slice none 0 0]) (by kernel_rfl) ⟨Ext.refl _,?_⟩;show _=Value.agg #[u 8,u 12,.slice none 0 0];rw [q1,q1'];rfl
   exact zbH ztL λw4 hx4 hB=>⟨hx4,w'.heap.size,rfl,lr _,hB.lt,hB⟩
 rintro u T w4 hx4 hap ⟨-,-,-,o8,-,-,-,o11,q12,⟨g,q3,hg0,hg1,hB3⟩,-⟩;have q12:u 13=.agg #[u 8,u 12,.slice none 0 0]:=q12;have o8:OwnI (T 3).1 (T 3).2 w4 (u 8) s.vars:=o8;have o11:OwnI (T 7).1 (T 7).2 w4 (u 12) s.owner:=o11;have t2:=hap.1 3 (by decide);have t5:=hap.1 7 (by decide);have t7:=hap.1 9 (by decide);have d25:=hap.2 3 (by decide) 7 (by decide) (by decide);have d27:=hap.2 3 (by decide) 9 (by decide) (by decide);have d57:=hap.2 7 (by decide) 9 (by decide) (by decide);generalize u 8=v8 at *;generalize u 12=v11 at *;have hs4:=hx4.size;rw [q12,q3]
 refine zbU (x:=(⟨s.vars,s.owner,[]⟩:DState)) (lo:=0) (hi:=w4.heap.size) zcT rfl hB3 rfl
   (zfa (l2:=0) (h2:=0) o8 o11 (zdr none) (by omega) (by omega) (by omega) (by omega) (by omega) (by omega)) λw5 hc5 hB5=>?_
 have hs5:=hc5.size;have hx15:Ext w1 w5:=Ext.chgI (hx2.t (hx3.t hx4)) hc5 (by omega)
 replace o8:=o8.chg hc5 (by omega)
 replace o11:=o11.chg hc5 (by omega)
 have hB25:=((hB2.ext hx3).ext hx4).chgI hc5 (by omega)
 refine zat s.stacks.length (λk us w'=>us=[.int .i64 (k:Int)]∧w5.heap.size≤w'.heap.size∧Ext w1 w'∧OwnI (T 3).1 (T 3).2 w' v8 s.vars∧OwnI (T 7).1 (T 7).2 w' v11 s.owner ∧
   (∃ v1 hi,∃ l:List RInts,hi≤w'.heap.size∧w5.heap.size≤hi∧l.map RV.l=s.stacks.take k∧Blk g 36 w' [v8,v11,v1]∧RowI w5.heap.size hi 25 w' v1 l)∧Blk w1.heap.size 36 w' [.slice none 0 0,.slice none 0 0,.slice none 0 0]) 0 (z0 _)
   ⟨rfl,lr _,hx15,o8,o11,⟨.slice none 0 0,w5.heap.size,[],lr _,Nat.le_refl _,by simp,hB5,zcm _ _ _ _⟩,hB25⟩ ?_
 rintro k m uu w7 hkm ⟨hu,hs7,hx7,o8,o11,⟨v1,hi,l,hhi,hhi2,hl,hB7,r7⟩,hB27⟩;try replace hu:=zbG hu
 rw [hu];have hll:l.length=k:=by have:=congrArg List.length hl;simp at this;omega
 refine zaa zaW ?_;refine zab zd5 (zay hA) hx7 λv16 h16=>?_;refine zae u33 h16 ?_;refine zaf ?_;refine br (λhlt=>?_) (λhge=>?_)
 · have hk:k<s.stacks.length:=by omega
   have hx8:=zai w7;have hs8:=hx8.size;refine zaa zaW ?_;refine zas zd5 (hB7.ext hx8) rfl ?_;refine zaa zaW ?_;refine zab zd5 (zay hA) (hx7.t hx8) λv14 h14=>?_;refine zad u33 zaK h14 hk λb o hA2=>?_;refine zab zaK hA2 (hx7.t hx8) λv19 h19=>?_;have hlk:=hz4 _ (List.getElem_mem hk);refine zaQ (α:=Int) u25 ty3 λa23 w8' hx8' _=>?_;refine ⟨hx8',?_⟩;have hs8':=hx8'.size;refine zeg (α:=Int) u25 ty3 zc3 h19 (hx7.t (hx8.t hx8')) (by rw [zak];omega) (by omega) λr23 w9 hx9' r9'=>?_;have hs9':=hx9'.size;refine ⟨hx9',?_⟩;have hx9:=hx8'.trans hx9';have hs9:=hx9.size;have r9:=r9'.mono hs8' (lr _);refine ziN (α:=RInts) u33 zaK z25 zt5 (by decide) ((r7.ext hx8).ext hx9) (by omega) (zh5 r9) (by omega) (by omega) (by rw [zak];omega) (by omega) λv25 w10 hc10 r10=>?_;have hs10:=hc10.size;have hx79:=hx8.t hx9;refine zaa zaW ?_;refine zbp (α:=List RInts) zd5 rfl rfl ((hB7.ext hx79).chgI hc10 (by omega)) (by simp) r10.own λw11 hc11 hB11=>?_;have hs11:=hc11.size;refine zaB ?_;refine ⟨m-1,by omega,k+1,by omega,rfl,by omega,Ext.chgI (Ext.chgI (hx7.t hx79) hc10 (by omega)) hc11 (by omega),((o8.ext hx79).chg hc10 (by omega)).chg hc11 (by omega),((o11.ext hx79).chg hc10 (by omega)).chg hc11 (by omega),⟨v25,w10.heap.size,_,by omega,by omega,?_,hB11,r10.chg hc11 (by omega)⟩,((hB27.ext hx79).chgI hc10 (by omega)).chgI hc11 (by omega)⟩;rw [List.map_append,hl,tk hk];rfl
 have hk:k=s.stacks.length:=by omega
 refine zgL hB7 zcT ?_
 have ost:OwnI w2.heap.size w7.heap.size w7 (.agg #[v8,v11,v1]) (⟨s.vars,s.owner,⟨v1,l⟩⟩:DStV):=
   zpS (s:=⟨s.vars,s.owner,⟨v1,l⟩⟩) o8 o11 (zh5 r7) (by omega) (by omega) (by omega) (by omega) (by omega) (by omega)
 refine zbU zcT rfl hB27 rfl ost λw13 hc13 hB13=>?_;have hs13:=hc13.size;refine zer hB13 zcT ?_;refine ⟨Ext.chgI (hx1.t hx7) hc13 (by omega),_,(ost.chg hc13 (by omega)).mono (by omega) (by omega),?_⟩;show (⟨s.vars,s.owner,l.map RV.l⟩:DState)=s;rw [hl,hk,List.take_length]
theorem zv4 {P:Program} {w:World} {t e:TypeId} {b a n cap sz by_ k:Nat} {ag:Bool} {u:Value} {K:Value→Prop} (ht:P.underlying t=some (.slice e)) (he:tyI P e=some (sz,by_,ag)) (hu:u=.slice (some ⟨b,a,none⟩) n cap) (hk:k<n) (kk:K (.pointer (some ⟨b,a+k*sz,none⟩))) :
   RD P (Instr.indexAt t u (.int .i64 (k:Int))) w K:=by
 subst hu;exact za3 (λw' _=>by rw [zb2 ht he (by omega) (by omega)];simp) kk
instance:Flat DRace:=⟨λh=>by obtain ⟨F1,F2,c1,c2,rfl,rfl,⟨rfl,_⟩,⟨F3,F4,c3,c4,rfl,rfl,⟨rfl,_⟩,⟨rfl,_⟩⟩⟩:=h;rfl⟩
section
variable {α:Type} [DecidableEq α]
end
end Go.Proofs.YtakjaofncelghaaGreat
