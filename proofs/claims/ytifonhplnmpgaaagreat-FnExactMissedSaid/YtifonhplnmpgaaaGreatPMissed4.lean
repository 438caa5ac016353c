/-
  Parts of the proof, put together by program.
-/
import Derived.Test.YtifonhplnmpgaaaGreatPMissed3
set_option linter.unusedVariables false
set_option linter.unusedSimpArgs false
set_option linter.unusedSectionVars false
namespace Go.Proofs.YtifonhplnmpgaaaGreat
open Go Go.Sh Go.Proofs
open Rep (rep)
def zxq:DIns:=⟨0,0,term0,0⟩
def en (c:DCode) (i:Nat):Int:=c.entry.getD i 0
def zal (c:DCode) (j:Nat):DIns:=c.ins.getD j zxq
theorem zbm {c:DCode} {i:Nat} (h:i<c.entry.length):c.entry[i]=en c i:=by unfold en;rw [List.getD_eq_getElem?_getD,List.getElem?_eq_getElem h];rfl
theorem zaz {c:DCode} {i:Nat} (h:i<c.ins.length):c.ins[i]=zal c i:=by unfold zal;rw [List.getD_eq_getElem?_getD,List.getElem?_eq_getElem h];rfl
def prc (c:DCode) (a:Int):Nat→Int
 | 0=>-1
 | n+1=>if en c n≤a then n else prc c a n
def zaw (c:DCode) (a:Int):Int:=prc c a c.entry.length
theorem ziw {c:DCode} {a:Int} {m:Nat}:∀ {n:Nat},m≤n→(∀ j,m≤j→j<n→a<en c j)→prc c a n=prc c a m
 | 0,h,_=>by rw [Nat.le_zero.1 h]
 | n+1,h,hj=>by
   by_cases e:m=n+1
   · rw [e]
   rw [prc,if_neg (by have:=hj n (by omega) (by omega);omega)];exact ziw (by omega) λj h1 h2=>hj j h1 (by omega)
theorem zuI {c:DCode} {a:Int}:∀ (n:Nat),-1≤prc c a n∧prc c a n<n
 | 0=>by simp [prc]
 | n+1=>by
   have:=zuI (c:=c) (a:=a) n;rw [prc];split<;>omega
theorem zg6 {c:DCode} {a:Int}:-1≤zaw c a∧zaw c a<c.entry.length:=zuI _
def zfc (c:DCode) (p:Int):Int:=if p+1<c.entry.length then en c (p+1).toNat-1 else (c.ins.length:Int)-1
def zdX (c:DCode) (i:Nat):Int:=if i+1<c.entry.length then en c (i+1) else c.ins.length
theorem zev (c:DCode) (i:Nat):zfc c i=zdX c i-1:=by
 unfold zfc zdX;have e:((i:Int)+1).toNat=i+1:=by omega
 by_cases h:i+1<c.entry.length
 · rw [if_pos (by omega),if_pos h,e]
 rw [if_neg (by omega),if_neg h]
def F97 (a0 a1:Value) (w:World) (R:VW):Prop:=
 oX 32 a0 w λx2 w=>
 rF 32 x2 3 w λx6=>
 rL 23 x6 w λx7=>
 rN 23 3 x7 w λx8=>
 rB .sub 3 T0 U0 x8 (iV 1) w λx9=>
 LOOPI [5] [x9] w λu2 w n2=>
 rB .geq 3 T0 U0 (u2 5) (iV 0) w λx11=>
 BR x11
 (rF 32 x2 3 w λx14=>
 rL 23 x14 w λx15=>
 rX 23 x15 (u2 5) w λx17=>
 rL 3 x17 w λx18=>
 rB .leq 3 T0 T0 x18 a1 w λx20=>
 BR x20
 (R (u2 5) w)
 (rB .sub 3 T0 U0 (u2 5) (iV 1) w λx13=>
 n2 [x13] w))
 (R (iV (-1)) w)
theorem F97_call {a0 a1 w R} (h:F97 a0 a1 w R):cL 97 [a0,a1] w R:=co (g:=(kf [] [(2,4193328,[5])] [])) Tryz.func97 h
theorem zd8 {w:World} {v0:Value} {W0:World} {c:DCode} {a:Int}  (h0:Is W0 v0 c) (e0:Ext W0 w)  :
   CALL tp 97 [v0,.int .i64 a] w λr w'=>Ext w w'∧(r=.int .i64 (zaw c a)):=by
 refine F97_call ?_;unfold F97;refine zar zbq rfl h0 e0 λw1_ η1 hA2 hV2=>?_;refine zab za6 ?_;refine zaa za4 (zap hA2) (Ext.refl w1_) λv7 h7=>?_;have hln8:=zah h7;refine zae u23 h7 ?_;refine zbd (by unfold I64;omega) ?_;refine zam (c.entry.length) (λk us w'=>us=[.int .i64 ((c.entry.length:Int)-1-(k:Int))]∧Ext w1_ w'∧(∀ j,c.entry.length-k≤j→j<c.entry.length→a<en c j)) (0) (by omega) ⟨by simp,Ext.refl w1_,λj h1 h2=>by omega⟩ ?_;rintro k m2 uu2 w2_ hk2 ⟨hu,η2,hinv⟩;try replace hu:=zbi hu
 try rw [hu]
 try clear hu
 have hln:=zah h7;refine zb0 ?_;refine br (λc1=>?_) (λc1=>?_)
 · refine zab za6 ?_
   refine zaa za4 (zap hA2) η2 λv15 h15=>?_;refine zaW u23 ty3 h15 (by omega) (by omega) λb17 o17 h17=>?_;have hn17:((c.entry.length:Int)-1-(k:Int)).toNat=c.entry.length-k-1:=by omega
   simp only [hn17] at h17;refine zad ty3 h17 η2 λhI18=>?_;refine zdV ?_;refine br (λc2=>?_) (λc2=>?_)
   · refine ⟨(η1.t η2),?_⟩
     rw [zbm] at c2;unfold zaw;rw [ziw (m:=c.entry.length-k) (by omega) hinv,show c.entry.length-k=(c.entry.length-k-1)+1 by omega,prc,if_pos c2];congr 1;omega
   refine zbd (by unfold I64;omega) ?_;refine ⟨m2-1,by omega,k+1,by omega,by simp;omega,η2,?_⟩;intro j h1 h2;by_cases hj:j=c.entry.length-k-1
   · subst hj
     rw [zbm] at c2;omega
   exact hinv j (by omega) h2
 refine ⟨(η1.t η2),?_⟩;unfold zaw;rw [ziw (m:=c.entry.length-k) (by omega) hinv,show c.entry.length-k=0 by omega];rfl
def F124 (a0 a1:Value) (w:World) (R:VW):Prop:=
 oX 32 a0 w λx2 w=>
 rI a1 w λx6=>
 rF 32 x2 3 w λx7=>
 rL 23 x7 w λx8=>
 rN 23 3 x8 w λx9=>
 rC x6 x9 w λx10=>
 BR x10
 (rF 32 x2 3 w λx11=>
 rL 23 x11 w λx12=>
 rI a1 w λx14=>
 rX 23 x12 x14 w λx15=>
 rL 3 x15 w λx16=>
 rB .sub 3 T0 U0 x16 (iV 1) w λx17=>
 R x17 w)
 (rF 32 x2 4 w λx18=>
 rL 30 x18 w λx19=>
 rN 30 3 x19 w λx20=>
 rB .sub 3 T0 U0 x20 (iV 1) w λx21=>
 R x21 w)
theorem F124_call {a0 a1 w R} (h:F124 a0 a1 w R):cL 124 [a0,a1] w R:=co (g:=(kf [] [] [])) Tryz.func124 h
theorem zeg {w:World} {v0:Value} {W0:World} {c:DCode} {p:Int}  (h0:Is W0 v0 c) (e0:Ext W0 w) (hp0:-1≤p) (hp1:p<1000000000000) (hE:∀ i,i<c.entry.length→0≤en c i) :
   CALL tp 124 [v0,.int .i64 p] w λr w'=>Ext w w'∧(r=.int .i64 (zfc c p)):=by
 refine F124_call ?_;unfold F124;refine zar zbq rfl h0 e0 λw1_ η1 hA2 hV2=>?_;refine zcL (by unfold I64;omega) ?_;refine zab za6 ?_;refine zaa za4 (zap hA2) (Ext.refl w1_) λv8 h8=>?_;have hln9:=zah h8;refine zae u23 h8 ?_;refine zag ?_;refine br (λc1=>?_) (λc1=>?_)
 · refine zab za6 ?_
   refine zaa za4 (zap hA2) (Ext.refl w1_) λv12 h12=>?_;refine zcL (by unfold I64;omega) ?_;refine zaW u23 ty3 h12 (by omega) (by omega) λb15 o15 h15=>?_;refine zad ty3 h15 (Ext.refl w1_) λhI16=>?_;have hE1:=hE (p+1).toNat (by omega);rw [←zbm (by omega)] at hE1;refine zbd (by unfold I64 at *;omega) ?_;refine ⟨η1,?_⟩;unfold zfc;rw [if_pos c1,zbm]
 refine zab zaD ?_;refine zaa zcu (zai hA2) (Ext.refl w1_) λv19 h19=>?_;have hln20:=zah h19;refine zae u30 h19 ?_;refine zbd (by unfold I64;have:=zah h19;omega) ?_;refine ⟨η1,?_⟩;unfold zfc;rw [if_neg c1]
def zkc:ByteArray:=ByteArray.mk #[109,97,105,110]
def NamesR (c:DCode):Prop:=(decide ((c.globals.length:Int)≤6)&&c.globals.all zbM)=true∧(decide ((c.locks.length:Int)≤6)&&c.locks.all zbM)=true∧(decide ((c.procs.length:Int)≤8)&&c.procs.all zbM)=true ∧
 c.globals.Nodup∧c.locks.Nodup∧c.procs.Nodup∧zkc∈c.procs
instance (c:DCode):Decidable (NamesR c):=by unfold NamesR;infer_instance
def EntS (c:DCode):Prop:=c.entry.length=c.procs.length∧c.ins.length≤1500∧(∀ i,i<c.entry.length→(i=0→en c 0=0)∧(0<i→en c (i-1)<en c i)∧en c i<c.ins.length) ∧
 ∀ j,j<c.ins.length→((zal c j).op=9↔zfc c (zaw c j)=j)
instance (c:DCode):Decidable (EntS c):=by unfold EntS;infer_instance
theorem zd1 {P:Nat→Prop} {k:Nat} (h:∀ i,i<k→P i) (hk:P k):∀ i,i<k+1→P i:=λi hi=>by
 by_cases e:i=k
 · rw [e];exact hk
 exact h i (by omega)
theorem zhG {c:DCode} {n:Nat} {m:Int} (h:∀ i,i<n→(i=0→en c 0=0)∧(0<i→en c (i-1)<en c i)∧en c i<m):∀ i,i<n→0≤en c i
 | 0,hi=>by rw [(h 0 hi).1 rfl];omega
 | i+1,hi=>by
   have h1:=zhG h i (by omega);have h2:=(h (i+1) hi).2.1 (by omega);simp only [Nat.add_sub_cancel] at h2;omega
def F70 (a0:Value) (w:World) (R:VW):Prop:=
 oX 32 a0 w λx1 w=>
 rF 32 x1 0 w λx5=>
 rL 22 x5 w λx6=>
 cL 121 [x6,(iV 6)] w λx7 w=>
 rT x7 w λx8=>
 BR x8
 (R vF w)
 (rF 32 x1 1 w λx10=>
 rL 22 x10 w λx11=>
 cL 121 [x11,(iV 6)] w λx12 w=>
 rT x12 w λx13=>
 BR x13
 (R vF w)
 (rF 32 x1 2 w λx16=>
 rL 22 x16 w λx17=>
 cL 121 [x17,(iV 8)] w λx18 w=>
 rT x18 w λx19=>
 BR x19
 (R vF w)
 (rF 32 x1 0 w λx22=>
 rL 22 x22 w λx23=>
 cL 122 [x23] w λx24 w=>
 BR x24
 (R vF w)
 (rF 32 x1 1 w λx27=>
 rL 22 x27 w λx28=>
 cL 122 [x28] w λx29 w=>
 BR x29
 (R vF w)
 (rF 32 x1 2 w λx32=>
 rL 22 x32 w λx33=>
 cL 122 [x33] w λx34 w=>
 BR x34
 (R vF w)
 (rF 32 x1 3 w λx37=>
 rL 23 x37 w λx38=>
 rN 23 3 x38 w λx39=>
 rF 32 x1 2 w λx40=>
 rL 22 x40 w λx41=>
 rN 22 3 x41 w λx42=>
 rB .neq 3 T0 T0 x39 x42 w λx43=>
 BR x43
 (R vF w)
 (rF 32 x1 4 w λx46=>
 rL 30 x46 w λx47=>
 rN 30 3 x47 w λx48=>
 rB .gtr 3 T0 U0 x48 (iV 1500) w λx49=>
 BR x49
 (R vF w)
 (rF 32 x1 2 w λx52=>
 rL 22 x52 w λx53=>
 cL 123 [x53,(Value.string (ByteArray.mk #[109,97,105,110]))] w λx54 w=>
 rB .lss 3 T0 U0 x54 (iV 0) w λx55=>
 BR x55
 (R vF w)
 (LOOPI [3] [(iV 0)] w λu4 w n4=>
 rF 32 x1 3 w λx58=>
 rL 23 x58 w λx59=>
 rN 23 3 x59 w λx60=>
 rC (u4 3) x60 w λx61=>
 BR x61
 ((λw=>rQ (u4 3) (iV 0) w λx65=>
 BR x65
 (rF 32 x1 3 w λx67=>
 rL 23 x67 w λx68=>
 rX 23 x68 (iV 0) w λx69=>
 rL 3 x69 w λx70=>
 rB .neq 3 T0 U0 x70 (iV 0) w λx71=>
 BR x71
 (R vF w)
 (rB .gtr 3 T0 U0 (u4 3) (iV 0) w λx75=>
 GBR x75
 (rF 32 x1 3 w λx77=>
 rL 23 x77 w λx78=>
 rX 23 x78 (u4 3) w λx80=>
 rL 3 x80 w λx81=>
 rF 32 x1 3 w λx82=>
 rL 23 x82 w λx83=>
 rB .sub 3 T0 U0 (u4 3) (iV 1) w λx85=>
 rX 23 x83 x85 w λx86=>
 rL 3 x86 w λx87=>
 rB .leq 3 T0 T0 x81 x87 w λx88=>
 BR x88
 (R vF w)
 (rF 32 x1 3 w λx92=>
 rL 23 x92 w λx93=>
 rX 23 x93 (u4 3) w λx95=>
 rL 3 x95 w λx96=>
 rF 32 x1 4 w λx97=>
 rL 30 x97 w λx98=>
 rN 30 3 x98 w λx99=>
 rB .geq 3 T0 T0 x96 x99 w λx100=>
 BR x100
 (R vF w)
 (rI (u4 3) w λx63=>
 n4 [x63] w)))
 (rF 32 x1 3 w λx92=>
 rL 23 x92 w λx93=>
 rX 23 x93 (u4 3) w λx95=>
 rL 3 x95 w λx96=>
 rF 32 x1 4 w λx97=>
 rL 30 x97 w λx98=>
 rN 30 3 x98 w λx99=>
 rB .geq 3 T0 T0 x96 x99 w λx100=>
 BR x100
 (R vF w)
 (rI (u4 3) w λx63=>
 n4 [x63] w))
 (BR undef
 (BR undef
 (R vF w)
 (rF 32 x1 3 w λx92=>
 rL 23 x92 w λx93=>
 rX 23 x93 (u4 3) w λx95=>
 rL 3 x95 w λx96=>
 rF 32 x1 4 w λx97=>
 rL 30 x97 w λx98=>
 rN 30 3 x98 w λx99=>
 rB .geq 3 T0 T0 x96 x99 w λx100=>
 BR x100
 (R vF w)
 (rI (u4 3) w λx63=>
 n4 [x63] w)))
 (rF 32 x1 3 w λx92=>
 rL 23 x92 w λx93=>
 rX 23 x93 (u4 3) w λx95=>
 rL 3 x95 w λx96=>
 rF 32 x1 4 w λx97=>
 rL 30 x97 w λx98=>
 rN 30 3 x98 w λx99=>
 rB .geq 3 T0 T0 x96 x99 w λx100=>
 BR x100
 (R vF w)
 (rI (u4 3) w λx63=>
 n4 [x63] w)))))
 (rB .gtr 3 T0 U0 (u4 3) (iV 0) w λx75=>
 GBR x75
 (rF 32 x1 3 w λx77=>
 rL 23 x77 w λx78=>
 rX 23 x78 (u4 3) w λx80=>
 rL 3 x80 w λx81=>
 rF 32 x1 3 w λx82=>
 rL 23 x82 w λx83=>
 rB .sub 3 T0 U0 (u4 3) (iV 1) w λx85=>
 rX 23 x83 x85 w λx86=>
 rL 3 x86 w λx87=>
 rB .leq 3 T0 T0 x81 x87 w λx88=>
 BR x88
 (R vF w)
 (rF 32 x1 3 w λx92=>
 rL 23 x92 w λx93=>
 rX 23 x93 (u4 3) w λx95=>
 rL 3 x95 w λx96=>
 rF 32 x1 4 w λx97=>
 rL 30 x97 w λx98=>
 rN 30 3 x98 w λx99=>
 rB .geq 3 T0 T0 x96 x99 w λx100=>
 BR x100
 (R vF w)
 (rI (u4 3) w λx63=>
 n4 [x63] w)))
 (rF 32 x1 3 w λx92=>
 rL 23 x92 w λx93=>
 rX 23 x93 (u4 3) w λx95=>
 rL 3 x95 w λx96=>
 rF 32 x1 4 w λx97=>
 rL 30 x97 w λx98=>
 rN 30 3 x98 w λx99=>
 rB .geq 3 T0 T0 x96 x99 w λx100=>
 BR x100
 (R vF w)
 (rI (u4 3) w λx63=>
 n4 [x63] w))
 (BR undef
 (BR undef
 (R vF w)
 (rF 32 x1 3 w λx92=>
 rL 23 x92 w λx93=>
 rX 23 x93 (u4 3) w λx95=>
 rL 3 x95 w λx96=>
 rF 32 x1 4 w λx97=>
 rL 30 x97 w λx98=>
 rN 30 3 x98 w λx99=>
 rB .geq 3 T0 T0 x96 x99 w λx100=>
 BR x100
 (R vF w)
 (rI (u4 3) w λx63=>
 n4 [x63] w)))
 (rF 32 x1 3 w λx92=>
 rL 23 x92 w λx93=>
 rX 23 x93 (u4 3) w λx95=>
 rL 3 x95 w λx96=>
 rF 32 x1 4 w λx97=>
 rL 30 x97 w λx98=>
 rN 30 3 x98 w λx99=>
 rB .geq 3 T0 T0 x96 x99 w λx100=>
 BR x100
 (R vF w)
 (rI (u4 3) w λx63=>
 n4 [x63] w))))) (World.drew1 w))
 (LOOPI [4] [(iV 0)] w λu9 w n9=>
 rF 32 x1 4 w λx103=>
 rL 30 x103 w λx104=>
 rN 30 3 x104 w λx105=>
 rC (u9 4) x105 w λx106=>
 BR x106
 ((λw=>rF 32 x1 4 w λx109=>
 rL 30 x109 w λx110=>
 rX 30 x110 (u9 4) w λx112=>
 rF 111 x112 0 w λx113=>
 rL 3 x113 w λx114=>
 rQ x114 (iV 9) w λx115=>
 rL 32 x1 w λx116=>
 rL 32 x1 w λx117=>
 (λw_=>cL 97 [x117,(u9 4)] w_ λx119 w=>
 Ext w_ w ∧
 (λw_=>cL 124 [x116,x119] w_ λx120 w=>
 Ext w_ w ∧
 rB .eql 3 T0 T0 x120 (u9 4) w λx122=>
 rB .neq 4 T0 T0 x115 x122 w λx123=>
 BR x123
 (R vF w)
 (rI (u9 4) w λx108=>
 n9 [x108] w)) w) w) (World.drew1 w))
 (R vT w)))))))))))
theorem F70_call {a0 w R} (h:F70 a0 w R):cL 70 [a0] w R:=co (g:=(kf [] [(4,5070602400912773490798736965644,[3]),(9,21267642861956253053543306977672691732,[4])] [(6,[0,1,2,3,4,5,6,7,8,9,10,11,12,13,14,15,16,17,18,19,20,21,22,23,24,25,26,27,28,29,30,31,32,33,34,35,36,37],0),(11,[0,1,2,3,4,5,6,7,8,9,12,10,11,13,14],3072)])) Tryz.func70 h
theorem znX {w:World} {v0:Value} {W0:World} {c:DCode}  (h0:Is W0 v0 c) (e0:Ext W0 w)  :
   CALL tp 70 [v0] w λr w'=>Ext w w'∧(r=.bool (decide (NamesR c∧EntS c))):=by
 refine F70_call ?_;unfold F70;refine zar zbq rfl h0 e0 λw1_ η1 hA1 hV1=>?_;refine zab zdi ?_;refine zaa zb1 (za8 hA1) (Ext.refl w1_) λv6 h6=>?_;refine (zgs h6 (Ext.refl w1_)).mono ?_;rintro _ w2_ ⟨η2,rfl⟩;refine zaX ?_;refine zbz (λc1=>?_) (λc1=>?_)
 · refine ⟨(η1.t η2),?_⟩
   have:¬(NamesR c∧EntS c):=λh=>by rw [h.1.1] at c1;cases c1
   simp only [this,decide_false]
 refine zab zc5 ?_;refine zaa zb1 (za5 hA1) η2 λv11 h11=>?_;refine (zgs h11 η2).mono ?_;rintro _ w3_ ⟨η3,rfl⟩;refine zaX ?_;refine zbz (λc2=>?_) (λc2=>?_)
 · refine ⟨(η1.t (η2.t η3)),?_⟩
   have:¬(NamesR c∧EntS c):=λh=>by rw [h.1.2.1] at c2;cases c2
   simp only [this,decide_false]
 refine zab zbf ?_;refine zaa zb1 (zau hA1) (η2.t η3) λv17 h17=>?_;refine (zgs h17 (η2.t η3)).mono ?_;rintro _ w4_ ⟨η4,rfl⟩;refine zaX ?_;refine zbz (λc3=>?_) (λc3=>?_)
 · refine ⟨(η1.t (η2.t (η3.t η4))),?_⟩
   have:¬(NamesR c∧EntS c):=λh=>by rw [h.1.2.2.1] at c3;cases c3
   simp only [this,decide_false]
 refine zab zdi ?_;refine zaa zb1 (za8 hA1) (η2.t (η3.t η4)) λv23 h23=>?_;refine (zgu h23 (η2.t (η3.t η4))).mono ?_;rintro _ w5_ ⟨η5,rfl⟩;refine br (λc4=>?_) (λc4=>?_)
 · refine ⟨(η1.t (η2.t (η3.t (η4.t η5)))),?_⟩
   have:¬(NamesR c∧EntS c):=λh=>c4 h.1.2.2.2.1;simp only [this,decide_false]
 refine zab zc5 ?_;refine zaa zb1 (za5 hA1) (η2.t (η3.t (η4.t η5))) λv28 h28=>?_;refine (zgu h28 (η2.t (η3.t (η4.t η5)))).mono ?_;rintro _ w6_ ⟨η6,rfl⟩;refine br (λc5=>?_) (λc5=>?_)
 · refine ⟨(η1.t (η2.t (η3.t (η4.t (η5.t η6))))),?_⟩
   have:¬(NamesR c∧EntS c):=λh=>c5 h.1.2.2.2.2.1;simp only [this,decide_false]
 refine zab zbf ?_;refine zaa zb1 (zau hA1) (η2.t (η3.t (η4.t (η5.t η6)))) λv33 h33=>?_;refine (zgu h33 (η2.t (η3.t (η4.t (η5.t η6))))).mono ?_;rintro _ w7_ ⟨η7,rfl⟩;refine br (λc6=>?_) (λc6=>?_)
 · refine ⟨(η1.t (η2.t (η3.t (η4.t (η5.t (η6.t η7)))))),?_⟩
   have:¬(NamesR c∧EntS c):=λh=>c6 h.1.2.2.2.2.2.1;simp only [this,decide_false]
 refine zab za6 ?_;refine zaa za4 (zap hA1) (η2.t (η3.t (η4.t (η5.t (η6.t η7))))) λv38 h38=>?_;have hln39:=zah h38;refine zae u23 h38 ?_;refine zab zbf ?_;refine zaa zb1 (zau hA1) (η2.t (η3.t (η4.t (η5.t (η6.t η7))))) λv41 h41=>?_;have hln42:=zah h41;refine zae u22 h41 ?_;refine zaB ?_;refine br (λc7=>?_) (λc7=>?_)
 · refine ⟨(η1.t (η2.t (η3.t (η4.t (η5.t (η6.t η7)))))),?_⟩
   have:¬(NamesR c∧EntS c):=λh=>c7 (by rw [h.2.1]);simp only [this,decide_false]
 refine zab zaD ?_;refine zaa zcu (zai hA1) (η2.t (η3.t (η4.t (η5.t (η6.t η7))))) λv47 h47=>?_;have hln48:=zah h47;refine zae u30 h47 ?_;refine zcK ?_;refine br (λc8=>?_) (λc8=>?_)
 · refine ⟨(η1.t (η2.t (η3.t (η4.t (η5.t (η6.t η7)))))),?_⟩
   have:¬(NamesR c∧EntS c):=λh=>by have:=h.2.2.1;omega
   simp only [this,decide_false]
 refine zab zbf ?_;refine zaa zb1 (zau hA1) (η2.t (η3.t (η4.t (η5.t (η6.t η7))))) λv53 h53=>?_;refine (zdG h53 (η2.t (η3.t (η4.t (η5.t (η6.t η7)))))).mono ?_;rintro _ w8_ ⟨η8,rfl⟩;refine zag ?_;refine br (λc9=>?_) (λc9=>?_)
 · refine ⟨(η1.t (η2.t (η3.t (η4.t (η5.t (η6.t (η7.t η8))))))),?_⟩
   have:¬(NamesR c∧EntS c):=λh=>by have:=zfG.2 h.1.2.2.2.2.2.2;unfold zkc at this;omega
   simp only [this,decide_false]
 refine zam (c.entry.length) (λk us w'=>us=[.int .i64 (k:Int)]∧Ext w8_ w'∧(∀ i,i<k→(i=0→en c 0=0)∧(0<i→en c (i-1)<en c i)∧en c i<c.ins.length)) (0) (by omega) ⟨by simp,Ext.refl w8_,λi h=>by omega⟩ ?_;rintro k m4 uu4 w9_ hk4 ⟨hu,η9,hent⟩;try replace hu:=zbi hu
 try rw [hu]
 try clear hu
 refine zab za6 ?_;refine zaa za4 (zap hA1) (η2.t (η3.t (η4.t (η5.t (η6.t (η7.t (η8.t η9))))))) λv59 h59=>?_;have hln60:=zah h59;refine zae u23 h59 ?_;refine zag ?_;refine br (λc10=>?_) (λc10=>?_)
 · have η10:=zaj w9_
   refine zao ?_;refine br (λc11=>?_) (λc11=>?_)
   · refine zab za6 ?_
     refine zaa za4 (zap hA1) (η2.t (η3.t (η4.t (η5.t (η6.t (η7.t (η8.t (η9.t η10)))))))) λv68 h68=>?_;refine zaW u23 ty3 h68 (by omega) (by omega) λb69 o69 h69=>?_;refine zad ty3 h69 (η2.t (η3.t (η4.t (η5.t (η6.t (η7.t (η8.t (η9.t η10)))))))) λhI70=>?_;refine zaB ?_;refine br (λc12=>?_) (λc12=>?_)
     · refine ⟨(η1.t (η2.t (η3.t (η4.t (η5.t (η6.t (η7.t (η8.t (η9.t η10))))))))),?_⟩
       rw [zbm] at c12;have:¬(NamesR c∧EntS c):=λh=>c12 ((h.2.2.2.1 0 (by omega)).1 rfl);simp only [this,decide_false]
     refine zcK ?_;refine gbr (λc13=>?_) (λc13=>?_)
     · refine zab za6 ?_
       refine zaa za4 (zap hA1) (η2.t (η3.t (η4.t (η5.t (η6.t (η7.t (η8.t (η9.t η10)))))))) λv78 h78=>?_;refine zac u23 ty3 h78 (by omega) λb80 o80 h80=>?_;refine zad ty3 h80 (η2.t (η3.t (η4.t (η5.t (η6.t (η7.t (η8.t (η9.t η10)))))))) λhI81=>?_;refine zab za6 ?_;refine zaa za4 (zap hA1) (η2.t (η3.t (η4.t (η5.t (η6.t (η7.t (η8.t (η9.t η10)))))))) λv83 h83=>?_;refine zbd (by unfold I64;omega) ?_;refine zaW u23 ty3 h83 (by omega) (by omega) λb86 o86 h86=>?_;refine zad ty3 h86 (η2.t (η3.t (η4.t (η5.t (η6.t (η7.t (η8.t (η9.t η10)))))))) λhI87=>?_;have hn86:((k:Int)-1).toNat=k-1:=by omega
       refine zdV ?_;refine br (λc14=>?_) (λc14=>?_)
       · refine ⟨(η1.t (η2.t (η3.t (η4.t (η5.t (η6.t (η7.t (η8.t (η9.t η10))))))))),?_⟩
         exact absurd c11 (by omega)
       refine zab za6 ?_;refine zaa za4 (zap hA1) (η2.t (η3.t (η4.t (η5.t (η6.t (η7.t (η8.t (η9.t η10)))))))) λv93 h93=>?_;refine zac u23 ty3 h93 (by omega) λb95 o95 h95=>?_;refine zad ty3 h95 (η2.t (η3.t (η4.t (η5.t (η6.t (η7.t (η8.t (η9.t η10)))))))) λhI96=>?_;refine zab zaD ?_;refine zaa zcu (zai hA1) (η2.t (η3.t (η4.t (η5.t (η6.t (η7.t (η8.t (η9.t η10)))))))) λv98 h98=>?_;have hln99:=zah h98;refine zae u30 h98 ?_;refine zb0 ?_;refine br (λc15=>?_) (λc15=>?_)
       · refine ⟨(η1.t (η2.t (η3.t (η4.t (η5.t (η6.t (η7.t (η8.t (η9.t η10))))))))),?_⟩
         exact absurd c11 (by omega)
       refine zas ?_;refine ⟨m4-1,by omega,k+1,by omega,by simp,(η9.t η10),?_⟩;exact absurd c11 (by omega)
     refine zab za6 ?_;refine zaa za4 (zap hA1) (η2.t (η3.t (η4.t (η5.t (η6.t (η7.t (η8.t (η9.t η10)))))))) λv93 h93=>?_;refine zac u23 ty3 h93 (by omega) λb95 o95 h95=>?_;refine zad ty3 h95 (η2.t (η3.t (η4.t (η5.t (η6.t (η7.t (η8.t (η9.t η10)))))))) λhI96=>?_;refine zab zaD ?_;refine zaa zcu (zai hA1) (η2.t (η3.t (η4.t (η5.t (η6.t (η7.t (η8.t (η9.t η10)))))))) λv98 h98=>?_;have hln99:=zah h98;refine zae u30 h98 ?_;refine zb0 ?_;refine br (λc16=>?_) (λc16=>?_)
     · refine ⟨(η1.t (η2.t (η3.t (η4.t (η5.t (η6.t (η7.t (η8.t (η9.t η10))))))))),?_⟩
       rw [zbm] at c16;have:¬(NamesR c∧EntS c):=λh=>by have:=(h.2.2.2.1 k (by omega)).2.2;omega
       simp only [this,decide_false]
     refine zas ?_;refine ⟨m4-1,by omega,k+1,by omega,by simp,(η9.t η10),?_⟩;rw [zbm] at c16 c12;have hk0:k=0:=by omega
     subst hk0;exact zd1 hent ⟨λ_=>Decidable.not_not.1 c12,λh=>by omega,by omega⟩
   refine zcK ?_;refine gbr (λc17=>?_) (λc17=>?_)
   · refine zab za6 ?_
     refine zaa za4 (zap hA1) (η2.t (η3.t (η4.t (η5.t (η6.t (η7.t (η8.t (η9.t η10)))))))) λv78 h78=>?_;refine zac u23 ty3 h78 (by omega) λb80 o80 h80=>?_;refine zad ty3 h80 (η2.t (η3.t (η4.t (η5.t (η6.t (η7.t (η8.t (η9.t η10)))))))) λhI81=>?_;refine zab za6 ?_;refine zaa za4 (zap hA1) (η2.t (η3.t (η4.t (η5.t (η6.t (η7.t (η8.t (η9.t η10)))))))) λv83 h83=>?_;refine zbd (by unfold I64;omega) ?_;refine zaW u23 ty3 h83 (by omega) (by omega) λb86 o86 h86=>?_;refine zad ty3 h86 (η2.t (η3.t (η4.t (η5.t (η6.t (η7.t (η8.t (η9.t η10)))))))) λhI87=>?_;have hn86:((k:Int)-1).toNat=k-1:=by omega
     refine zdV ?_;refine br (λc18=>?_) (λc18=>?_)
     · refine ⟨(η1.t (η2.t (η3.t (η4.t (η5.t (η6.t (η7.t (η8.t (η9.t η10))))))))),?_⟩
       rw [zbm,zbm] at c18;simp only [hn86] at c18;have:¬(NamesR c∧EntS c):=λh=>by have:=(h.2.2.2.1 k (by omega)).2.1 (by omega);omega
       simp only [this,decide_false]
     refine zab za6 ?_;refine zaa za4 (zap hA1) (η2.t (η3.t (η4.t (η5.t (η6.t (η7.t (η8.t (η9.t η10)))))))) λv93 h93=>?_;refine zac u23 ty3 h93 (by omega) λb95 o95 h95=>?_;refine zad ty3 h95 (η2.t (η3.t (η4.t (η5.t (η6.t (η7.t (η8.t (η9.t η10)))))))) λhI96=>?_;refine zab zaD ?_;refine zaa zcu (zai hA1) (η2.t (η3.t (η4.t (η5.t (η6.t (η7.t (η8.t (η9.t η10)))))))) λv98 h98=>?_;have hln99:=zah h98;refine zae u30 h98 ?_;refine zb0 ?_;refine br (λc19=>?_) (λc19=>?_)
     · refine ⟨(η1.t (η2.t (η3.t (η4.t (η5.t (η6.t (η7.t (η8.t (η9.t η10))))))))),?_⟩
       rw [zbm] at c19;have:¬(NamesR c∧EntS c):=λh=>by have:=(h.2.2.2.1 k (by omega)).2.2;omega
       simp only [this,decide_false]
     refine zas ?_;refine ⟨m4-1,by omega,k+1,by omega,by simp,(η9.t η10),?_⟩;rw [zbm] at c19;rw [zbm,zbm] at c18;simp only [hn86] at c18;exact zd1 hent ⟨λh=>by omega,λ_=>by omega,by omega⟩
   refine zab za6 ?_;refine zaa za4 (zap hA1) (η2.t (η3.t (η4.t (η5.t (η6.t (η7.t (η8.t (η9.t η10)))))))) λv93 h93=>?_;refine zac u23 ty3 h93 (by omega) λb95 o95 h95=>?_;refine zad ty3 h95 (η2.t (η3.t (η4.t (η5.t (η6.t (η7.t (η8.t (η9.t η10)))))))) λhI96=>?_;refine zab zaD ?_;refine zaa zcu (zai hA1) (η2.t (η3.t (η4.t (η5.t (η6.t (η7.t (η8.t (η9.t η10)))))))) λv98 h98=>?_;have hln99:=zah h98;refine zae u30 h98 ?_;refine zb0 ?_;refine br (λc20=>?_) (λc20=>?_)
   · refine ⟨(η1.t (η2.t (η3.t (η4.t (η5.t (η6.t (η7.t (η8.t (η9.t η10))))))))),?_⟩
     exact absurd c11 (by omega)
   refine zas ?_;refine ⟨m4-1,by omega,k+1,by omega,by simp,(η9.t η10),?_⟩;exact absurd c11 (by omega)
 refine zam (c.ins.length) (λk us w'=>us=[.int .i64 (k:Int)]∧Ext w9_ w'∧(∀ j,j<k→((zal c j).op=9↔zfc c (zaw c j)=j))) (0) (by omega) ⟨by simp,Ext.refl w9_,λi h=>by omega⟩ ?_;rintro k m9 uu9 w11_ hk9 ⟨hu,η11,hinv⟩;try replace hu:=zbi hu
 try rw [hu]
 try clear hu
 refine zab zaD ?_;refine zaa zcu (zai hA1) (η2.t (η3.t (η4.t (η5.t (η6.t (η7.t (η8.t (η9.t η11)))))))) λv104 h104=>?_;have hln105:=zah h104;refine zae u30 h104 ?_;refine zag ?_;refine br (λc21=>?_) (λc21=>?_)
 · have η12:=zaj w11_
   refine zab zaD ?_;refine zaa zcu (zai hA1) (η2.t (η3.t (η4.t (η5.t (η6.t (η7.t (η8.t (η9.t (η11.t η12))))))))) λv110 h110=>?_;refine zac u30 zaO h110 (by omega) λb112 o112 h112=>?_;refine zab zaM ?_;refine zad ty3 (zav h112) (η2.t (η3.t (η4.t (η5.t (η6.t (η7.t (η8.t (η9.t (η11.t η12))))))))) λhI114=>?_;refine zao ?_;refine zaR hV1 (η2.t (η3.t (η4.t (η5.t (η6.t (η7.t (η8.t (η9.t (η11.t η12))))))))) ?_;refine zaR hV1 (η2.t (η3.t (η4.t (η5.t (η6.t (η7.t (η8.t (η9.t (η11.t η12))))))))) ?_
   have h8:c.entry.length≤8:=by
     simp only [Bool.not_eq_false',Bool.and_eq_true,decide_eq_true_eq] at c3;have:=c3.1;omega
   refine (zd8 h0 (e0.t (η1.t (η2.t (η3.t (η4.t (η5.t (η6.t (η7.t (η8.t (η9.t (η11.t η12)))))))))))).mono ?_;rintro _ w13_ ⟨η13,rfl⟩;refine ⟨η13,?_⟩;refine (zeg h0 (e0.t (η1.t (η2.t (η3.t (η4.t (η5.t (η6.t (η7.t (η8.t (η9.t (η11.t (η12.t η13)))))))))))) (by have:=zg6 (c:=c) (a:=k);omega) (by have:=zg6 (c:=c) (a:=k);omega) (zhG λi hi=>hent i (by omega))).mono ?_;rintro _ w14_ ⟨η14,rfl⟩;refine ⟨η14,?_⟩;refine zao ?_;refine zvf u4 ?_;refine br (λc22=>?_) (λc22=>?_)
   · refine ⟨(η1.t (η2.t (η3.t (η4.t (η5.t (η6.t (η7.t (η8.t (η9.t (η11.t (η12.t (η13.t η14)))))))))))),?_⟩
     rw [zaz] at c22;have:¬(NamesR c∧EntS c):=λh=>c22 (decide_eq_decide.2 (h.2.2.2.2 k (by omega)));simp only [this,decide_false]
   refine zas ?_;refine ⟨m9-1,by omega,k+1,by omega,by simp,(η11.t (η12.t (η13.t η14))),?_⟩;rw [zaz] at c22;exact zd1 hinv (decide_eq_decide.1 (Decidable.not_not.1 c22))
 refine ⟨(η1.t (η2.t (η3.t (η4.t (η5.t (η6.t (η7.t (η8.t (η9.t η11))))))))),?_⟩
 have:NamesR c∧EntS c:=by
   refine ⟨⟨by simpa using c1,by simpa using c2,by simpa using c3,Decidable.not_not.1 c4,Decidable.not_not.1 c5,Decidable.not_not.1 c6,zfG.1 (by unfold zkc;omega)⟩,by omega,by omega,λi hi=>hent i (by omega),λj hj=>hinv j (by omega)⟩
 simp only [this,and_self,decide_true]
def zcq (c:DCode) (op:Int):Int:=if op=1 then c.globals.length else if op=4∨op=5 then c.procs.length else if op=6∨op=7 then c.locks.length else 1
def zgv (c:DCode) (a:DIns) (b e:Int):Prop:=(1≤a.op∧a.op≤9)∧(0≤a.arg∧a.arg<zcq c a.op) ∧
 (if a.op=1∨a.op=2 then zbP 6 a.term=true∧(∀ s∈zcb a.term,s∈c.globals) else a.term=term0)∧(if a.op=2∨a.op=3 then b≤a.to∧a.to<e else a.to=0)
instance (c:DCode) (a:DIns) (b e:Int):Decidable (zgv c a b e):=by unfold zgv;infer_instance
def F71 (a0 a1:Value) (w:World) (R:VW):Prop:=
 oX 32 a0 w λx2 w=>
 rF 32 x2 4 w λx10=>
 rL 30 x10 w λx11=>
 rX 30 x11 a1 w λx13=>
 rL 111 x13 w λx14=>
 oP (aL 111) w λx5 w=>
 oS 111 x5 x14 w λw=>
 JOIN [6] (λJ12=>
 rF 111 x5 0 w λx15=>
 rL 3 x15 w λx16=>
 rQ x16 (iV 1) w λx18=>
 BR x18
 (rF 32 x2 0 w λx19=>
 rL 22 x19 w λx20=>
 rN 22 3 x20 w λx21=>
 rB .sub 3 T0 U0 x21 (iV 1) w λx22=>
 J12 [x22] w)
 (rQ x16 (iV 6) w λx24=>
 BR x24
 (rF 32 x2 1 w λx26=>
 rL 22 x26 w λx27=>
 rN 22 3 x27 w λx28=>
 rB .sub 3 T0 U0 x28 (iV 1) w λx29=>
 J12 [x29] w)
 (rQ x16 (iV 7) w λx25=>
 BR x25
 (rF 32 x2 1 w λx26=>
 rL 22 x26 w λx27=>
 rN 22 3 x27 w λx28=>
 rB .sub 3 T0 U0 x28 (iV 1) w λx29=>
 J12 [x29] w)
 (rQ x16 (iV 4) w λx31=>
 BR x31
 (rF 32 x2 2 w λx33=>
 rL 22 x33 w λx34=>
 rN 22 3 x34 w λx35=>
 rB .sub 3 T0 U0 x35 (iV 1) w λx36=>
 J12 [x36] w)
 (rQ x16 (iV 5) w λx32=>
 BR x32
 (rF 32 x2 2 w λx33=>
 rL 22 x33 w λx34=>
 rN 22 3 x34 w λx35=>
 rB .sub 3 T0 U0 x35 (iV 1) w λx36=>
 J12 [x36] w)
 (J12 [(iV 0)] w)))))) (λu12 w=>
 rF 111 x5 0 w λx37=>
 rL 3 x37 w λx38=>
 cL 125 [x38,(iV 1),(iV 9)] w λx39 w=>
 rT x39 w λx40=>
 BR x40
 (R vF w)
 (rF 111 x5 1 w λx42=>
 rL 3 x42 w λx43=>
 cL 125 [x43,(iV 0),(u12 6)] w λx45 w=>
 rT x45 w λx46=>
 BR x46
 (R vF w)
 (JOIN [] (λJ25=>
 rF 111 x5 0 w λx48=>
 rL 3 x48 w λx49=>
 rQ x49 (iV 1) w λx50=>
 BR x50
 (rF 111 x5 2 w λx56=>
 rL 109 x56 w λx57=>
 cL 126 [x57] w λx58 w=>
 rT x58 w λx59=>
 BR x59
 (R vF w)
 (rF 111 x5 2 w λx60=>
 rL 109 x60 w λx61=>
 cL 127 [x61] w λx62 w=>
 LOOPI [8] [(iV 0)] w λu19 w n19=>
 rN 22 3 x62 w λx65=>
 rC (u19 8) x65 w λx66=>
 BR x66
 ((λw=>rF 32 x2 0 w λx69=>
 rL 22 x69 w λx70=>
 rX 22 x62 (u19 8) w λx73=>
 rL 9 x73 w λx74=>
 cL 123 [x70,x74] w λx75 w=>
 rB .lss 3 T0 U0 x75 (iV 0) w λx76=>
 BR x76
 (R vF w)
 (rI (u19 8) w λx68=>
 n19 [x68] w)) (World.drew1 w))
 (J25 [] w)))
 (rF 111 x5 0 w λx52=>
 rL 3 x52 w λx53=>
 rQ x53 (iV 2) w λx54=>
 BR x54
 (rF 111 x5 2 w λx56=>
 rL 109 x56 w λx57=>
 cL 126 [x57] w λx58 w=>
 rT x58 w λx59=>
 BR x59
 (R vF w)
 (rF 111 x5 2 w λx60=>
 rL 109 x60 w λx61=>
 cL 127 [x61] w λx62 w=>
 LOOPI [8] [(iV 0)] w λu19 w n19=>
 rN 22 3 x62 w λx65=>
 rC (u19 8) x65 w λx66=>
 BR x66
 ((λw=>rF 32 x2 0 w λx69=>
 rL 22 x69 w λx70=>
 rX 22 x62 (u19 8) w λx73=>
 rL 9 x73 w λx74=>
 cL 123 [x70,x74] w λx75 w=>
 rB .lss 3 T0 U0 x75 (iV 0) w λx76=>
 BR x76
 (R vF w)
 (rI (u19 8) w λx68=>
 n19 [x68] w)) (World.drew1 w))
 (J25 [] w)))
 (rF 111 x5 2 w λx77=>
 rL 109 x77 w λx78=>
 rD (Instr.build 109 #[]) w λx79=>
 cL 128 [x78,x79] w λx80 w=>
 rT x80 w λx81=>
 BR x81
 (R vF w)
 (J25 [] w)))) (λu25 w=>
 JOIN [] (λJ27=>
 rF 111 x5 0 w λx82=>
 rL 3 x82 w λx83=>
 rB .neq 3 T0 U0 x83 (iV 2) w λx84=>
 BR x84
 (rF 111 x5 0 w λx86=>
 rL 3 x86 w λx87=>
 rB .neq 3 T0 U0 x87 (iV 3) w λx88=>
 BR x88
 (rF 111 x5 3 w λx90=>
 rL 3 x90 w λx91=>
 rQ x91 (iV 0) w λx92=>
 R x92 w)
 (J27 [] w))
 (J27 [] w)) (λu27 w=>
 rL 32 x2 w λx93=>
 cL 97 [x93,a1] w λx95 w=>
 (λw=>rF 111 x5 3 w λx96=>
 rL 3 x96 w λx97=>
 rF 32 x2 3 w λx98=>
 rL 23 x98 w λx99=>
 rX 23 x99 x95 w λx101=>
 rL 3 x101 w λx102=>
 rL 32 x2 w λx103=>
 (λw_=>cL 124 [x103,x95] w_ λx105 w=>
 Ext w_ w ∧
 cL 125 [x97,x102,x105] w λx106 w=>
 R x106 w) w) (World.drew1 w))))))
theorem F71_call {a0 a1 w R} (h:F71 a0 a1 w R):cL 71 [a0,a1] w R:=co (g:=(kf [(12,137438920768,[6]),(25,4835703278177041722114448,[]),(27,9898684611004583682494169104,[])] [(19,151106504079791792062736,[8])] [(21,[0,1,2,3,4,5,6,7],0),(28,[0,1,2,3,4,5,6,7,8,9,10,11],512)])) Tryz.func71 h
theorem zrN {w:World} {v0:Value} {W0:World} {c:DCode} {j:Nat}  (h0:Is W0 v0 c) (e0:Ext W0 w) (hj:j<c.ins.length) (hE:∀ i,i<c.entry.length→0≤en c i) (h8:c.entry.length≤8) (hp:0≤zaw c j) :
   CALL tp 71 [v0,.int .i64 (j:Int)] w λr w'=>Ext w w'∧(r=.bool (decide (zgv c (zal c j) (en c (zaw c j).toNat) (zfc c (zaw c j)+1)))):=by
 refine F71_call ?_;unfold F71;have hpl:=zg6 (c:=c) (a:=j);refine zar zbq rfl h0 e0 λw1_ η1 hA2 hV2=>?_;refine zab zaD ?_;refine zaa zcu (zai hA2) (Ext.refl w1_) λv11 h11=>?_;refine zac u30 zaO h11 (by omega) λb13 o13 h13=>?_;refine zaa zaO h13 (Ext.refl w1_) λv14 h14=>?_;rw [zaz] at h14;obtain ⟨a,ha⟩:∃ a,a=zal c j:=⟨_,rfl⟩;rw [←ha] at h14 ⊢;refine zb7 zfx rfl zaO rfl h14 (Ext.refl w1_) λw2_ η2 hA5 hV5=>?_;refine JOIN.mk (λus w'=>us=[.int .i64 (zcq c a.op-1)]∧Ext w2_ w'∧(True)) ?_ ?_
 · refine zab zaM ?_
   refine zad ty3 (zav hA5) (Ext.refl w2_) λhI16=>?_;refine zao ?_;refine br (λc1=>?_) (λc1=>?_)
   · refine zab zdi ?_
     refine zaa zb1 (za8 hA2) η2 λv20 h20=>?_;have hln21:=zah h20;refine zae u22 h20 ?_;refine zbd (by unfold I64;have:=zah h20;omega) ?_;refine ⟨by unfold zcq;rw [if_pos c1],Ext.refl w2_,?_⟩;trivial
   refine zao ?_;refine br (λc2=>?_) (λc2=>?_)
   · refine zab zc5 ?_
     refine zaa zb1 (za5 hA2) η2 λv27 h27=>?_;have hln28:=zah h27;refine zae u22 h27 ?_;refine zbd (by unfold I64;have:=zah h27;omega) ?_;refine ⟨by unfold zcq;rw [if_neg (by omega),if_neg (by omega),if_pos (by omega)],Ext.refl w2_,?_⟩;trivial
   refine zao ?_;refine br (λc3=>?_) (λc3=>?_)
   · refine zab zc5 ?_
     refine zaa zb1 (za5 hA2) η2 λv27 h27=>?_;have hln28:=zah h27;refine zae u22 h27 ?_;refine zbd (by unfold I64;have:=zah h27;omega) ?_;refine ⟨by unfold zcq;rw [if_neg (by omega),if_neg (by omega),if_pos (by omega)],Ext.refl w2_,?_⟩;trivial
   refine zao ?_;refine br (λc4=>?_) (λc4=>?_)
   · refine zab zbf ?_
     refine zaa zb1 (zau hA2) η2 λv34 h34=>?_;have hln35:=zah h34;refine zae u22 h34 ?_;refine zbd (by unfold I64;have:=zah h34;omega) ?_;refine ⟨by unfold zcq;rw [if_neg (by omega),if_pos (by omega)],Ext.refl w2_,?_⟩;trivial
   refine zao ?_;refine br (λc5=>?_) (λc5=>?_)
   · refine zab zbf ?_
     refine zaa zb1 (zau hA2) η2 λv34 h34=>?_;have hln35:=zah h34;refine zae u22 h34 ?_;refine zbd (by unfold I64;have:=zah h34;omega) ?_;refine ⟨by unfold zcq;rw [if_neg (by omega),if_pos (by omega)],Ext.refl w2_,?_⟩;trivial
   refine ⟨by unfold zcq;rw [if_neg (by omega),if_neg (by omega),if_neg (by omega)];rfl,Ext.refl w2_,?_⟩;trivial
 rintro uj12 w3_ ⟨hu,η3,hinv⟩;try replace hu:=zbi hu
 try rw [hu]
 try clear hu
 refine zab zaM ?_;refine zad ty3 (zav hA5) η3 λhI38=>?_;refine (l01In_ok ).mono ?_;rintro _ w4_ ⟨η4,rfl⟩;refine zaq ?_;refine br (λc6=>?_) (λc6=>?_)
 · refine ⟨(η1.t (η2.t (η3.t η4))),?_⟩
   have:¬zgv c a (en c (zaw c j).toNat) (zfc c (zaw c j)+1):=λh=>c6 h.1;simp only [this,decide_false]
 refine zab zaK ?_;refine zad ty3 (zat hA5) (η3.t η4) λhI43=>?_;refine (l01In_ok ).mono ?_;rintro _ w5_ ⟨η5,rfl⟩;refine zaq ?_;refine br (λc7=>?_) (λc7=>?_)
 · refine ⟨(η1.t (η2.t (η3.t (η4.t η5)))),?_⟩
   have:¬zgv c a (en c (zaw c j).toNat) (zfc c (zaw c j)+1):=λh=>c7 (by have:=h.2.1;omega);simp only [this,decide_false]
 refine JOIN.mk (λus w'=>us=[]∧Ext w5_ w'∧(if a.op=1∨a.op=2 then zbP 6 a.term=true∧(∀ s∈zcb a.term,s∈c.globals) else a.term=term0)) ?_ ?_
 · refine zab zaM ?_
   refine zad ty3 (zav hA5) (η3.t (η4.t η5)) λhI49=>?_;refine zao ?_;refine br (λc8=>?_) (λc8=>?_)
   · refine zab zcf ?_
     refine zaa zbB (zbG hA5) (η3.t (η4.t η5)) λv57 h57=>?_;refine (zfb h57 (η3.t (η4.t η5))).mono ?_;rintro _ w7_ ⟨η7,rfl⟩;refine zaX ?_;refine zbz (λc9=>?_) (λc9=>?_)
     · refine ⟨(η1.t (η2.t (η3.t (η4.t (η5.t η7))))),?_⟩
       have:¬zgv c a (en c (zaw c j).toNat) (zfc c (zaw c j)+1):=λh=>by have:=h.2.2.1;rw [if_pos (.inl c8)] at this;rw [this.1] at c9;cases c9
       simp only [this,decide_false]
     refine zab zcf ?_;refine zaa zbB (zbG hA5) (η3.t (η4.t (η5.t η7))) λv61 h61=>?_;refine (zeG h61 (η3.t (η4.t (η5.t η7)))).mono ?_;rintro r62 w8_ ⟨η8,h62⟩;refine zam ((zcb a.term).length) (λk us w'=>us=[.int .i64 (k:Int)]∧Ext w8_ w'∧(∀ s∈(zcb a.term).take k,s∈c.globals)) (0) (by omega) ⟨by simp,Ext.refl w8_,by simp⟩ ?_;rintro k m19 uu19 w9_ hk19 ⟨hu,η9,hinv⟩;try replace hu:=zbi hu
     try rw [hu]
     try clear hu
     have hln65:=zah h62;refine zae u22 h62 ?_;refine zag ?_;refine br (λc10=>?_) (λc10=>?_)
     · have η10:=zaj w9_
       refine zab zdi ?_;refine zaa zb1 (za8 hA2) (η2.t (η3.t (η4.t (η5.t (η7.t (η8.t (η9.t η10))))))) λv70 h70=>?_;refine zac u22 ty9 h62 (by omega) λb73 o73 h73=>?_;refine zaS ty9 h73 (η9.t η10) λhS74=>?_;refine (zdG h70 (η2.t (η3.t (η4.t (η5.t (η7.t (η8.t (η9.t η10)))))))).mono ?_;rintro _ w11_ ⟨η11,rfl⟩;refine zag ?_;refine br (λc11=>?_) (λc11=>?_)
       · refine ⟨(η1.t (η2.t (η3.t (η4.t (η5.t (η7.t (η8.t (η9.t (η10.t η11))))))))),?_⟩
         have:¬zgv c a (en c (zaw c j).toNat) (zfc c (zaw c j)+1):=λh=>by
           have:=h.2.2.1;rw [if_pos (.inl c8)] at this;have:=zfG.2 (this.2 _ (List.getElem_mem (n:=k) (by omega)));omega
         simp only [this,decide_false]
       refine zas ?_;refine ⟨m19-1,by omega,k+1,by omega,by simp,(η9.t (η10.t η11)),?_⟩;intro s hs;rw [tk (by omega)] at hs;rcases List.mem_append.1 hs with hs | hs
       · exact hinv s hs
       simp only [List.mem_cons,List.not_mem_nil,or_false] at hs;subst hs;exact zfG.1 (by omega)
     refine ⟨by simp,(η7.t (η8.t η9)),?_⟩;rw [if_pos (.inl c8)];rw [List.take_of_length_le (by omega)] at hinv;exact ⟨by simpa using c9,hinv⟩
   refine zab zaM ?_;refine zad ty3 (zav hA5) (η3.t (η4.t η5)) λhI53=>?_;refine zao ?_;refine br (λc12=>?_) (λc12=>?_)
   · refine zab zcf ?_
     refine zaa zbB (zbG hA5) (η3.t (η4.t η5)) λv57 h57=>?_;refine (zfb h57 (η3.t (η4.t η5))).mono ?_;rintro _ w12_ ⟨η12,rfl⟩;refine zaX ?_;refine zbz (λc13=>?_) (λc13=>?_)
     · refine ⟨(η1.t (η2.t (η3.t (η4.t (η5.t η12))))),?_⟩
       have:¬zgv c a (en c (zaw c j).toNat) (zfc c (zaw c j)+1):=λh=>by have:=h.2.2.1;rw [if_pos (.inr c12)] at this;rw [this.1] at c13;cases c13
       simp only [this,decide_false]
     refine zab zcf ?_;refine zaa zbB (zbG hA5) (η3.t (η4.t (η5.t η12))) λv61 h61=>?_;refine (zeG h61 (η3.t (η4.t (η5.t η12)))).mono ?_;rintro r62 w13_ ⟨η13,h62⟩;refine zam ((zcb a.term).length) (λk us w'=>us=[.int .i64 (k:Int)]∧Ext w13_ w'∧(∀ s∈(zcb a.term).take k,s∈c.globals)) (0) (by omega) ⟨by simp,Ext.refl w13_,by simp⟩ ?_;rintro k m19 uu19 w14_ hk19 ⟨hu,η14,hinv⟩;try replace hu:=zbi hu
     try rw [hu]
     try clear hu
     have hln65:=zah h62;refine zae u22 h62 ?_;refine zag ?_;refine br (λc14=>?_) (λc14=>?_)
     · have η15:=zaj w14_
       refine zab zdi ?_;refine zaa zb1 (za8 hA2) (η2.t (η3.t (η4.t (η5.t (η12.t (η13.t (η14.t η15))))))) λv70 h70=>?_;refine zac u22 ty9 h62 (by omega) λb73 o73 h73=>?_;refine zaS ty9 h73 (η14.t η15) λhS74=>?_;refine (zdG h70 (η2.t (η3.t (η4.t (η5.t (η12.t (η13.t (η14.t η15)))))))).mono ?_;rintro _ w16_ ⟨η16,rfl⟩;refine zag ?_;refine br (λc15=>?_) (λc15=>?_)
       · refine ⟨(η1.t (η2.t (η3.t (η4.t (η5.t (η12.t (η13.t (η14.t (η15.t η16))))))))),?_⟩
         have:¬zgv c a (en c (zaw c j).toNat) (zfc c (zaw c j)+1):=λh=>by
           have:=h.2.2.1;rw [if_pos (.inr c12)] at this;have:=zfG.2 (this.2 _ (List.getElem_mem (n:=k) (by omega)));omega
         simp only [this,decide_false]
       refine zas ?_;refine ⟨m19-1,by omega,k+1,by omega,by simp,(η14.t (η15.t η16)),?_⟩;intro s hs;rw [tk (by omega)] at hs;rcases List.mem_append.1 hs with hs | hs
       · exact hinv s hs
       simp only [List.mem_cons,List.not_mem_nil,or_false] at hs;subst hs;exact zfG.1 (by omega)
     refine ⟨by simp,(η12.t (η13.t η14)),?_⟩;rw [if_pos (.inr c12)];rw [List.take_of_length_le (by omega)] at hinv;exact ⟨by simpa using c13,hinv⟩
   refine zab zcf ?_;refine zaa zbB (zbG hA5) (η3.t (η4.t η5)) λv78 h78=>?_;refine zrk (α:=DTerm) zwX zrg (by kernel_rfl) rfl λv79 h79=>?_;refine (zmH h78 (η3.t (η4.t η5)) h79 (Ext.refl w5_) rfl).mono ?_;rintro _ w17_ ⟨η17,rfl⟩;refine zaq ?_;refine br (λc16=>?_) (λc16=>?_)
   · refine ⟨(η1.t (η2.t (η3.t (η4.t (η5.t η17))))),?_⟩
     have:¬zgv c a (en c (zaw c j).toNat) (zfc c (zaw c j)+1):=λh=>by have:=h.2.2.1;rw [if_neg (by omega)] at this;exact c16 this
     simp only [this,decide_false]
   refine ⟨by simp,η17,?_⟩;rw [if_neg (by omega)];exact Decidable.not_not.1 c16
 rintro uj25 w6_ ⟨hu,η17,hT⟩;try replace hu:=zbi hu
 clear hu;refine JOIN.mk (λus w'=>us=[]∧Ext w6_ w'∧(a.op=2∨a.op=3)) ?_ ?_
 · refine zab zaM ?_
   refine zad ty3 (zav hA5) (η3.t (η4.t (η5.t η17))) λhI83=>?_;refine zaB ?_;refine br (λc17=>?_) (λc17=>?_)
   · refine zab zaM ?_
     refine zad ty3 (zav hA5) (η3.t (η4.t (η5.t η17))) λhI87=>?_;refine zaB ?_;refine br (λc18=>?_) (λc18=>?_)
     · refine zab zcB ?_
       refine zad ty3 (zbH hA5) (η3.t (η4.t (η5.t η17))) λhI91=>?_;refine zao ?_;refine ⟨(η1.t (η2.t (η3.t (η4.t (η5.t η17))))),?_⟩;congr 1;rw [decide_eq_decide];constructor
       · exact λh=>⟨Decidable.not_not.1 c6,by omega,hT,by rw [if_neg (by omega)];exact h⟩
       intro h;have:=h.2.2.2;rw [if_neg (by omega)] at this;exact this
     refine ⟨by simp,Ext.refl w6_,?_⟩;omega
   refine ⟨by simp,Ext.refl w6_,?_⟩;omega
 rintro uj27 w18_ ⟨hu,η18,hop⟩;try replace hu:=zbi hu
 clear hu;refine zaR hV2 (η2.t (η3.t (η4.t (η5.t (η17.t η18))))) ?_;refine (zd8 h0 (e0.t (η1.t (η2.t (η3.t (η4.t (η5.t (η17.t η18)))))))).mono ?_;rintro _ w19_ ⟨η19,rfl⟩;have η20:=zaj w19_;refine zab zcB ?_;refine zad ty3 (zbH hA5) (η3.t (η4.t (η5.t (η17.t (η18.t (η19.t η20)))))) λhI97=>?_;refine zab za6 ?_;refine zaa za4 (zap hA2) (η2.t (η3.t (η4.t (η5.t (η17.t (η18.t (η19.t η20))))))) λv99 h99=>?_;refine zaW u23 ty3 h99 (by omega) (by omega) λb101 o101 h101=>?_;refine zad ty3 h101 (η2.t (η3.t (η4.t (η5.t (η17.t (η18.t (η19.t η20))))))) λhI102=>?_;refine zaR hV2 (η2.t (η3.t (η4.t (η5.t (η17.t (η18.t (η19.t η20))))))) ?_;refine (zeg h0 (e0.t (η1.t (η2.t (η3.t (η4.t (η5.t (η17.t (η18.t (η19.t η20))))))))) (by omega) (by omega) (by assumption)).mono ?_;rintro _ w21_ ⟨η21,rfl⟩;refine ⟨η21,?_⟩;refine (l01In_ok ).mono ?_;rintro _ w22_ ⟨η22,rfl⟩;refine ⟨(η1.t (η2.t (η3.t (η4.t (η5.t (η17.t (η18.t (η19.t (η20.t (η21.t η22)))))))))),?_⟩;congr 1;rw [decide_eq_decide,zbm];constructor
 · exact λh=>⟨Decidable.not_not.1 c6,by omega,hT,by rw [if_pos hop];omega⟩
 intro h;have:=h.2.2.2;rw [if_pos hop] at this;omega
def CodeR (c:DCode):Prop:=NamesR c∧EntS c∧∀ j,j<c.ins.length→zgv c (zal c j) (en c (zaw c j).toNat) (zfc c (zaw c j)+1)
instance (c:DCode):Decidable (CodeR c):=by unfold CodeR;infer_instance
theorem EntS.nonneg {c:DCode} (h:EntS c):∀ i,i<c.entry.length→0≤en c i:=zhG h.2.2.1
theorem NamesR.procs8 {c:DCode} (h:NamesR c):c.procs.length≤8∧0<c.procs.length:=by
 have h1:=h.2.2.1;simp only [Bool.and_eq_true,decide_eq_true_eq] at h1;have h2:=List.length_pos_of_mem h.2.2.2.2.2.2;omega
theorem zhH {c:DCode} {a:Int} (h0:en c 0≤a):∀ {n:Nat},0<n→0≤prc c a n
 | 1,_=>by rw [prc,if_pos h0];omega
 | n+2,_=>by
   rw [prc];split
   · omega
   exact zhH h0 (by omega)
theorem zlp {c:DCode} (hn:NamesR c) (h:EntS c) {a:Int} (ha:0≤a):0≤zaw c a:=by
 have h1:=hn.procs8;have h2:=h.1;exact zhH (by have:=(h.2.2.1 0 (by omega)).1 rfl;omega) (by omega)
def F35 (a0:Value) (w:World) (R:VW):Prop:=
 oX 32 a0 w λx1 w=>
 rL 32 x1 w λx4=>
 cL 70 [x4] w λx5 w=>
 rT x5 w λx6=>
 BR x6
 (R vF w)
 (LOOPI [3] [(iV 0)] w λu4 w n4=>
 rF 32 x1 4 w λx8=>
 rL 30 x8 w λx9=>
 rN 30 3 x9 w λx10=>
 rC (u4 3) x10 w λx11=>
 BR x11
 (rL 32 x1 w λx14=>
 cL 71 [x14,(u4 3)] w λx16 w=>
 rT x16 w λx17=>
 BR x17
 (R vF w)
 (rI (u4 3) w λx13=>
 n4 [x13] w))
 (R vT w))
theorem F35_call {a0 w R} (h:F35 a0 w R):cL 35 [a0] w R:=co (g:=(kf [] [(4,262028,[3])] [])) Tryz.func35 h
theorem zlq {w:World} {v0:Value} {W0:World} {c:DCode}  (h0:Is W0 v0 c) (e0:Ext W0 w)  :
   CALL tp 35 [v0] w λr w'=>Ext w w'∧(r=.bool (decide (CodeR c))):=by
 refine F35_call ?_;unfold F35;refine zar zbq rfl h0 e0 λw1_ η1 hA1 hV1=>?_;refine zaR hV1 (Ext.refl w1_) ?_;refine (znX h0 (e0.t η1)).mono ?_;rintro _ w2_ ⟨η2,rfl⟩
 skip
 refine zaq ?_;refine br (λc1=>?_) (λc1=>?_)
 · refine ⟨(η1.t η2),?_⟩
   have:¬CodeR c:=λh=>c1 ⟨h.1,h.2.1⟩;simp only [this,decide_false]
 refine zam (c.ins.length) (λk us w'=>us=[.int .i64 (k:Int)]∧Ext w2_ w'∧(∀ j,j<k→zgv c (zal c j) (en c (zaw c j).toNat) (zfc c (zaw c j)+1))) (0) (by omega) ⟨by simp,Ext.refl w2_,λi h=>by omega⟩ ?_;rintro k m4 uu4 w3_ hk4 ⟨hu,η3,hinv⟩;try replace hu:=zbi hu
 try rw [hu]
 try clear hu
 replace c1:=Decidable.not_not.1 c1
 refine zab zaD ?_;refine zaa zcu (zai hA1) (η2.t η3) λv9 h9=>?_;have hln10:=zah h9;refine zae u30 h9 ?_;refine zag ?_;refine br (λc2=>?_) (λc2=>?_)
 · refine zaR hV1 (η2.t η3) ?_
   refine (zrN h0 (e0.t (η1.t (η2.t η3))) (by omega) c1.2.nonneg (by have:=c1.1.procs8;have:=c1.2.1;omega) (zlp c1.1 c1.2 (by omega))).mono ?_;rintro _ w4_ ⟨η4,rfl⟩;refine zaq ?_;refine br (λc3=>?_) (λc3=>?_)
   · refine ⟨(η1.t (η2.t (η3.t η4))),?_⟩
     have:¬CodeR c:=λh=>c3 (h.2.2 k (by omega));simp only [this,decide_false]
   refine zas ?_;refine ⟨m4-1,by omega,k+1,by omega,by simp,(η3.t η4),?_⟩;exact zd1 hinv (Decidable.not_not.1 c3)
 refine ⟨(η1.t (η2.t η3)),?_⟩;have:CodeR c:=⟨c1.1,c1.2,λj hj=>hinv j (by omega)⟩;simp only [this,decide_true]
def F132 (a0:Value) (w:World) (R:VW):Prop:=
 oX 32 a0 w λx1 w=>
 rF 32 x1 0 w λx3=>
 rL 22 x3 w λx4=>
 cL 181 [x4,(iV 6)] w λx5 w=>
 rT x5 w λx6=>
 BR x6
 (R vF w)
 (rF 32 x1 1 w λx8=>
 rL 22 x8 w λx9=>
 cL 181 [x9,(iV 6)] w λx10 w=>
 rT x10 w λx11=>
 BR x11
 (R vF w)
 (rF 32 x1 2 w λx14=>
 rL 22 x14 w λx15=>
 cL 181 [x15,(iV 8)] w λx16 w=>
 rT x16 w λx17=>
 BR x17
 (R vF w)
 (rF 32 x1 0 w λx19=>
 rL 22 x19 w λx20=>
 cL 182 [x20] w λx21 w=>
 BR x21
 (R vF w)
 (rF 32 x1 1 w λx23=>
 rL 22 x23 w λx24=>
 cL 182 [x24] w λx25 w=>
 BR x25
 (R vF w)
 (rF 32 x1 2 w λx28=>
 rL 22 x28 w λx29=>
 cL 182 [x29] w λx30 w=>
 BR x30
 (R vF w)
 (rF 32 x1 2 w λx32=>
 rL 22 x32 w λx33=>
 cL 169 [x33,(Value.string (ByteArray.mk #[109,97,105,110]))] w λx34 w=>
 R x34 w))))))
theorem F132_call {a0 w R} (h:F132 a0 w R):cL 132 [a0] w R:=co (g:=(kf [] [] [])) Tryz.func132 h
theorem zlr {w:World} {v0:Value} {W0:World} {c:DCode}  (h0:Is W0 v0 c) (e0:Ext W0 w)  :
   CALL tp 132 [v0] w λr w'=>Ext w w'∧(r=.bool (decide (NamesR c))):=by
 refine F132_call ?_;unfold F132;refine zar zbq rfl h0 e0 λw1_ η1 hA1 hV1=>?_;refine zab zdi ?_;refine zaa zb1 (za8 hA1) (Ext.refl w1_) λv4 h4=>?_;refine (zgr h4 (Ext.refl w1_)).mono ?_;rintro _ w2_ ⟨η2,rfl⟩;refine zaX ?_;refine zbz (λc1=>?_) (λc1=>?_)
 · refine ⟨(η1.t η2),?_⟩
   have:¬NamesR c:=λh=>by rw [h.1] at c1;cases c1
   simp only [this,decide_false]
 refine zab zc5 ?_;refine zaa zb1 (za5 hA1) η2 λv9 h9=>?_;refine (zgr h9 η2).mono ?_;rintro _ w3_ ⟨η3,rfl⟩;refine zaX ?_;refine zbz (λc2=>?_) (λc2=>?_)
 · refine ⟨(η1.t (η2.t η3)),?_⟩
   have:¬NamesR c:=λh=>by rw [h.2.1] at c2;cases c2
   simp only [this,decide_false]
 refine zab zbf ?_;refine zaa zb1 (zau hA1) (η2.t η3) λv15 h15=>?_;refine (zgr h15 (η2.t η3)).mono ?_;rintro _ w4_ ⟨η4,rfl⟩;refine zaX ?_;refine zbz (λc3=>?_) (λc3=>?_)
 · refine ⟨(η1.t (η2.t (η3.t η4))),?_⟩
   have:¬NamesR c:=λh=>by rw [h.2.2.1] at c3;cases c3
   simp only [this,decide_false]
 refine zab zdi ?_;refine zaa zb1 (za8 hA1) (η2.t (η3.t η4)) λv20 h20=>?_;refine (zgt h20 (η2.t (η3.t η4))).mono ?_;rintro _ w5_ ⟨η5,rfl⟩;refine br (λc4=>?_) (λc4=>?_)
 · refine ⟨(η1.t (η2.t (η3.t (η4.t η5)))),?_⟩
   have:¬NamesR c:=λh=>c4 h.2.2.2.1;simp only [this,decide_false]
 refine zab zc5 ?_;refine zaa zb1 (za5 hA1) (η2.t (η3.t (η4.t η5))) λv24 h24=>?_;refine (zgt h24 (η2.t (η3.t (η4.t η5)))).mono ?_;rintro _ w6_ ⟨η6,rfl⟩;refine br (λc5=>?_) (λc5=>?_)
 · refine ⟨(η1.t (η2.t (η3.t (η4.t (η5.t η6))))),?_⟩
   have:¬NamesR c:=λh=>c5 h.2.2.2.2.1;simp only [this,decide_false]
 refine zab zbf ?_;refine zaa zb1 (zau hA1) (η2.t (η3.t (η4.t (η5.t η6)))) λv29 h29=>?_;refine (zgt h29 (η2.t (η3.t (η4.t (η5.t η6))))).mono ?_;rintro _ w7_ ⟨η7,rfl⟩;refine br (λc6=>?_) (λc6=>?_)
 · refine ⟨(η1.t (η2.t (η3.t (η4.t (η5.t (η6.t η7)))))),?_⟩
   have:¬NamesR c:=λh=>c6 h.2.2.2.2.2.1;simp only [this,decide_false]
 refine zab zbf ?_;refine zaa zb1 (zau hA1) (η2.t (η3.t (η4.t (η5.t (η6.t η7))))) λv33 h33=>?_;refine (zco h33 (η2.t (η3.t (η4.t (η5.t (η6.t η7)))))).mono ?_;rintro _ w8_ ⟨η8,rfl⟩;refine ⟨(η1.t (η2.t (η3.t (η4.t (η5.t (η6.t (η7.t η8))))))),?_⟩;congr 1;rw [decide_eq_decide];exact ⟨λh=>⟨by simpa using c1,by simpa using c2,by simpa using c3,Decidable.not_not.1 c4,Decidable.not_not.1 c5,Decidable.not_not.1 c6,h⟩,λh=>h.2.2.2.2.2.2⟩
def zls (c:DCode):Nat→Nat
 | 0=>0
 | k+1=>zls c k+if (zal c k).op=9 then 1 else 0
theorem zrO (c:DCode):∀ k,zls c k≤k
 | 0=>Nat.le_refl _
 | k+1=>by have:=zrO c k;rw [zls];split<;>omega
def EntI (c:DCode):Prop:=c.ins.length≤1500∧c.entry.length=c.procs.length∧en c 0=0∧zls c c.ins.length=c.entry.length ∧
 ∀ i,i<c.entry.length→en c i<zdX c i∧zdX c i≤c.ins.length∧(zal c (zdX c i-1).toNat).op=9
instance (c:DCode):Decidable (EntI c):=by unfold EntI;infer_instance
theorem zgw {c:DCode} (h0:en c 0=0):∀ {q:Nat},q<c.entry.length→(∀ i,i<q→en c i<zdX c i)→0≤en c q
 | 0,_,_=>by omega
 | q+1,hq,h=>by
   have h1:=zgw h0 (q:=q) (by omega) λi hi=>h i (by omega);have h2:=h q (by omega);unfold zdX at h2;rw [if_pos hq] at h2;omega
def F133 (a0:Value) (w:World) (R:VW):Prop:=
 oX 32 a0 w λx1 w=>
 rF 32 x1 4 w λx9=>
 rL 30 x9 w λx10=>
 rN 30 3 x10 w λx11=>
 rB .gtr 3 T0 U0 x11 (iV 1500) w λx12=>
 BR x12
 (R vF w)
 (rF 32 x1 3 w λx14=>
 rL 23 x14 w λx15=>
 rN 23 3 x15 w λx16=>
 rF 32 x1 2 w λx17=>
 rL 22 x17 w λx18=>
 rN 22 3 x18 w λx19=>
 rB .neq 3 T0 T0 x16 x19 w λx20=>
 BR x20
 (R vF w)
 (rF 32 x1 3 w λx23=>
 rL 23 x23 w λx24=>
 rX 23 x24 (iV 0) w λx25=>
 rL 3 x25 w λx26=>
 rB .neq 3 T0 U0 x26 (iV 0) w λx27=>
 BR x27
 (R vF w)
 (rF 32 x1 4 w λx29=>
 rL 30 x29 w λx30=>
 rN 30 3 x30 w λx31=>
 LOOPI [3,32] [(iV 0),(iV 0)] w λu5 w n5=>
 rC (u5 32) x31 w λx33=>
 BR x33
 (rX 30 x30 (u5 32) w λx34=>
 rL 111 x34 w λx35=>
 oP (aL 111) w λx5 w=>
 oS 111 x5 x35 w λw=>
 rF 111 x5 0 w λx36=>
 rL 3 x36 w λx37=>
 rQ x37 (iV 9) w λx38=>
 BR x38
 (rI (u5 3) w λx40=>
 rI (u5 32) w λx41=>
 n5 [x40,x41] w)
 (rI (u5 32) w λx41=>
 n5 [(u5 3),x41] w))
 (rF 32 x1 3 w λx43=>
 rL 23 x43 w λx44=>
 rN 23 3 x44 w λx45=>
 rB .neq 3 T0 T0 (u5 3) x45 w λx46=>
 BR x46
 (R vF w)
 (rF 32 x1 3 w λx47=>
 rL 23 x47 w λx48=>
 rN 23 3 x48 w λx49=>
 LOOPI [50] [(iV 0)] w λu13 w n13=>
 rC (u13 50) x49 w λx51=>
 BR x51
 ((λw=>rF 32 x1 3 w λx53=>
 rL 23 x53 w λx54=>
 rX 23 x54 (u13 50) w λx56=>
 rL 3 x56 w λx57=>
 rF 32 x1 4 w λx58=>
 rL 30 x58 w λx59=>
 rN 30 3 x59 w λx60=>
 JOIN [8] (λJ18=>
 rI (u13 50) w λx62=>
 rF 32 x1 3 w λx63=>
 rL 23 x63 w λx64=>
 rN 23 3 x64 w λx65=>
 rC x62 x65 w λx66=>
 BR x66
 (rF 32 x1 3 w λx67=>
 rL 23 x67 w λx68=>
 rI (u13 50) w λx70=>
 rX 23 x68 x70 w λx71=>
 rL 3 x71 w λx72=>
 J18 [x72] w)
 (J18 [x60] w)) (λu18 w=>
 rB .leq 3 T0 T0 (u18 8) x57 w λx75=>
 BR x75
 (R vF w)
 (rF 32 x1 4 w λx78=>
 rL 30 x78 w λx79=>
 rN 30 3 x79 w λx80=>
 rB .gtr 3 T0 T0 (u18 8) x80 w λx81=>
 BR x81
 (R vF w)
 (rF 32 x1 4 w λx84=>
 rL 30 x84 w λx85=>
 rB .sub 3 T0 U0 (u18 8) (iV 1) w λx87=>
 rX 30 x85 x87 w λx88=>
 rF 111 x88 0 w λx89=>
 rL 3 x89 w λx90=>
 rB .neq 3 T0 U0 x90 (iV 9) w λx91=>
 BR x91
 (R vF w)
 (rI (u13 50) w λx93=>
 n13 [x93] w))))) (World.drew1 w))
 (R vT w))))))
theorem F133_call {a0 w R} (h:F133 a0 w R):cL 133 [a0] w R:=co (g:=(kf [(18,9442427122730076733696,[8])] [(5,4393751543848,[3,32]),(13,19807040628564958498479145412,[50])] [(15,[0,1,2,3,4,5,6,7,8,9],0)])) Tryz.func133 h
theorem zjl {w:World} {v0:Value} {W0:World} {c:DCode}  (h0:Is W0 v0 c) (e0:Ext W0 w) (hp:0<c.procs.length) :
   CALL tp 133 [v0] w λr w'=>Ext w w'∧(r=.bool (decide (EntI c))):=by
 refine F133_call ?_;unfold F133;refine zar zbq rfl h0 e0 λw1_ η1 hA1 hV1=>?_;refine zab zaD ?_;refine zaa zcu (zai hA1) (Ext.refl w1_) λv10 h10=>?_;have hln11:=zah h10;refine zae u30 h10 ?_;refine zcK ?_;refine br (λc1=>?_) (λc1=>?_)
 · refine ⟨η1,?_⟩
   have:¬EntI c:=λh=>by have:=h.1;omega
   simp only [this,decide_false]
 refine zab za6 ?_;refine zaa za4 (zap hA1) (Ext.refl w1_) λv15 h15=>?_;have hln16:=zah h15;refine zae u23 h15 ?_;refine zab zbf ?_;refine zaa zb1 (zau hA1) (Ext.refl w1_) λv18 h18=>?_;have hln19:=zah h18;refine zae u22 h18 ?_;refine zaB ?_;refine br (λc2=>?_) (λc2=>?_)
 · refine ⟨η1,?_⟩
   have:¬EntI c:=λh=>by have:=h.2.1;omega
   simp only [this,decide_false]
 refine zab za6 ?_;refine zaa za4 (zap hA1) (Ext.refl w1_) λv24 h24=>?_;refine zaW u23 ty3 h24 (by omega) (by omega) λb25 o25 h25=>?_;refine zad ty3 h25 (Ext.refl w1_) λhI26=>?_;refine zaB ?_;refine br (λc3=>?_) (λc3=>?_)
 · refine ⟨η1,?_⟩
   rw [zbm] at c3;have:¬EntI c:=λh=>c3 h.2.2.1;simp only [this,decide_false]
 refine zab zaD ?_;refine zaa zcu (zai hA1) (Ext.refl w1_) λv30 h30=>?_;have hln31:=zah h30;refine zae u30 h30 ?_;refine zam (c.ins.length) (λk us w'=>us=[.int .i64 (zls c k:Int),.int .i64 (k:Int)]∧Ext w1_ w'∧(True)) (0) (by omega) ⟨rfl,Ext.refl w1_,trivial⟩ ?_;rintro k m5 uu5 w2_ hk5 ⟨hu,η2,hinv⟩;obtain ⟨hu0,hu1⟩:=zbL hu;clear hu;try rw [hu0]
 try rw [hu1]
 try clear hu0 hu1
 have hel:=zrO c k;refine zag ?_;refine br (λc4=>?_) (λc4=>?_)
 · refine zac u30 zaO h30 (by omega) λb34 o34 h34=>?_
   refine zaa zaO h34 η2 λv35 h35=>?_;rw [zaz] at h35;refine zb7 zfx rfl zaO rfl h35 η2 λw3_ η3 hA5 hV5=>?_;refine zab zaM ?_;refine zad ty3 (zav hA5) (Ext.refl w3_) λhI37=>?_;refine zao ?_;refine br (λc5=>?_) (λc5=>?_)
   · refine zas ?_
     refine zas ?_;refine ⟨m5-1,by omega,k+1,by omega,by rw [zls,if_pos c5],(η2.t η3),?_⟩;trivial
   refine zas ?_;refine ⟨m5-1,by omega,k+1,by omega,by rw [zls,if_neg c5];rfl,(η2.t η3),?_⟩;trivial
 refine zab za6 ?_;refine zaa za4 (zap hA1) η2 λv44 h44=>?_;have hln45:=zah h44;refine zae u23 h44 ?_;refine zaB ?_;refine br (λc6=>?_) (λc6=>?_)
 · refine ⟨(η1.t η2),?_⟩
   have:¬EntI c:=λh=>c6 (by rw [show k=c.ins.length by omega,h.2.2.2.1]);simp only [this,decide_false]
 refine zab za6 ?_;refine zaa za4 (zap hA1) η2 λv48 h48=>?_;have hln49:=zah h48;refine zae u23 h48 ?_;refine zam (c.entry.length) (λq us w'=>us=[.int .i64 (q:Int)]∧Ext w2_ w'∧(∀ i,i<q→en c i<zdX c i∧zdX c i≤c.ins.length∧(zal c (zdX c i-1).toNat).op=9)) (0) (by omega) ⟨by simp,Ext.refl w2_,λi h=>by omega⟩ ?_;rintro q m13 uu13 w4_ hk13 ⟨hu,η4,hent⟩;try replace hu:=zbi hu
 try rw [hu]
 try clear hu
 refine zag ?_;refine br (λc7=>?_) (λc7=>?_)
 · have η5:=zaj w4_
   refine zab za6 ?_;refine zaa za4 (zap hA1) (η2.t (η4.t η5)) λv54 h54=>?_;refine zac u23 ty3 h54 (by omega) λb56 o56 h56=>?_;refine zad ty3 h56 (η2.t (η4.t η5)) λhI57=>?_;refine zab zaD ?_;refine zaa zcu (zai hA1) (η2.t (η4.t η5)) λv59 h59=>?_;have hln60:=zah h59;refine zae u30 h59 ?_;refine JOIN.mk (λus w'=>us=[.int .i64 (zdX c q)]∧Ext (World.drew1 w4_) w'∧(True)) ?_ ?_
   · refine zas ?_
     refine zab za6 ?_;refine zaa za4 (zap hA1) (η2.t (η4.t η5)) λv64 h64=>?_;have hln65:=zah h64;refine zae u23 h64 ?_;refine zag ?_;refine br (λc8=>?_) (λc8=>?_)
     · refine zab za6 ?_
       refine zaa za4 (zap hA1) (η2.t (η4.t η5)) λv68 h68=>?_;refine zas ?_;refine zac u23 ty3 h68 (by omega) λb71 o71 h71=>?_;refine zad ty3 h71 (η2.t (η4.t η5)) λhI72=>?_;refine ⟨by unfold zdX;rw [if_pos (by omega),zbm],Ext.refl (World.drew1 w4_),?_⟩;trivial
     refine ⟨by unfold zdX;rw [if_neg (by omega)],Ext.refl (World.drew1 w4_),?_⟩;trivial
   rintro uj18 w6_ ⟨hu,η6,hinv⟩;try replace hu:=zbi hu
   try rw [hu]
   try clear hu
   refine zdV ?_;refine br (λc9=>?_) (λc9=>?_)
   · refine ⟨(η1.t (η2.t (η4.t (η5.t η6)))),?_⟩
     rw [zbm] at c9;have:¬EntI c:=λh=>by have:=(h.2.2.2.2 q (by omega)).1;omega
     simp only [this,decide_false]
   refine zab zaD ?_;refine zaa zcu (zai hA1) (η2.t (η4.t (η5.t η6))) λv79 h79=>?_;have hln80:=zah h79;refine zae u30 h79 ?_;refine zcK ?_;refine br (λc10=>?_) (λc10=>?_)
   · refine ⟨(η1.t (η2.t (η4.t (η5.t η6)))),?_⟩
     have:¬EntI c:=λh=>by have:=(h.2.2.2.2 q (by omega)).2.1;omega
     simp only [this,decide_false]
   refine zab zaD ?_;refine zaa zcu (zai hA1) (η2.t (η4.t (η5.t η6))) λv85 h85=>?_;rw [zbm] at c3 c9;have hq0:=zgw (Decidable.not_not.1 c3) (q:=q) (by omega) λi hi=>(hent i hi).1;refine zbd (by unfold I64;omega) ?_;refine zaW u30 zaO h85 (by omega) (by omega) λb88 o88 h88=>?_;refine zab zaM ?_;refine zad ty3 (zav h88) (η2.t (η4.t (η5.t η6))) λhI90=>?_;refine zaB ?_;refine br (λc11=>?_) (λc11=>?_)
   · refine ⟨(η1.t (η2.t (η4.t (η5.t η6)))),?_⟩
     rw [zaz] at c11;have:¬EntI c:=λh=>c11 (h.2.2.2.2 q (by omega)).2.2;simp only [this,decide_false]
   refine zas ?_;refine ⟨m13-1,by omega,q+1,by omega,by simp,(η4.t (η5.t η6)),?_⟩;rw [zaz] at c11;exact zd1 hent ⟨by omega,by omega,Decidable.not_not.1 c11⟩
 refine ⟨(η1.t (η2.t η4)),?_⟩;rw [zbm] at c3;have:EntI c:=⟨by omega,by omega,Decidable.not_not.1 c3,by rw [show c.ins.length=k by omega];omega,λi hi=>hent i (by omega)⟩;simp only [this,decide_true]
def F183 (a0 a1:Value) (w:World) (R:VW):Prop:=
 oX 32 a0 w λx2 w=>
 rQ a1 (iV 1) w λx7=>
 BR x7
 (rF 32 x2 0 w λx8=>
 rL 22 x8 w λx9=>
 rN 22 3 x9 w λx10=>
 R x10 w)
 (rQ a1 (iV 4) w λx12=>
 BR x12
 (rF 32 x2 2 w λx14=>
 rL 22 x14 w λx15=>
 rN 22 3 x15 w λx16=>
 R x16 w)
 (rQ a1 (iV 5) w λx13=>
 BR x13
 (rF 32 x2 2 w λx14=>
 rL 22 x14 w λx15=>
 rN 22 3 x15 w λx16=>
 R x16 w)
 (rQ a1 (iV 6) w λx18=>
 BR x18
 (rF 32 x2 1 w λx20=>
 rL 22 x20 w λx21=>
 rN 22 3 x21 w λx22=>
 R x22 w)
 (rQ a1 (iV 7) w λx19=>
 BR x19
 (rF 32 x2 1 w λx20=>
 rL 22 x20 w λx21=>
 rN 22 3 x21 w λx22=>
 R x22 w)
 (R (iV 1) w)))))
theorem F183_call {a0 a1 w R} (h:F183 a0 a1 w R):cL 183 [a0,a1] w R:=co (g:=(kf [] [] [])) Tryz.func183 h
theorem zqm {w:World} {v0:Value} {W0:World} {c:DCode} {op:Int}  (h0:Is W0 v0 c) (e0:Ext W0 w)  :
   CALL tp 183 [v0,.int .i64 op] w λr w'=>Ext w w'∧(r=.int .i64 (zcq c op)):=by
 refine F183_call ?_;unfold F183;refine zar zbq rfl h0 e0 λw1_ η1 hA2 hV2=>?_;refine zao ?_;refine br (λc1=>?_) (λc1=>?_)
 · refine zab zdi ?_
   refine zaa zb1 (za8 hA2) (Ext.refl w1_) λv9 h9=>?_;have hln10:=zah h9;refine zae u22 h9 ?_;refine ⟨η1,?_⟩;unfold zcq;rw [if_pos c1]
 refine zao ?_;refine br (λc2=>?_) (λc2=>?_)
 · refine zab zbf ?_
   refine zaa zb1 (zau hA2) (Ext.refl w1_) λv15 h15=>?_;have hln16:=zah h15;refine zae u22 h15 ?_;refine ⟨η1,?_⟩;unfold zcq;rw [if_neg (by omega),if_pos (by omega)]
 refine zao ?_;refine br (λc3=>?_) (λc3=>?_)
 · refine zab zbf ?_
   refine zaa zb1 (zau hA2) (Ext.refl w1_) λv15 h15=>?_;have hln16:=zah h15;refine zae u22 h15 ?_;refine ⟨η1,?_⟩;unfold zcq;rw [if_neg (by omega),if_pos (by omega)]
 refine zao ?_;refine br (λc4=>?_) (λc4=>?_)
 · refine zab zc5 ?_
   refine zaa zb1 (za5 hA2) (Ext.refl w1_) λv21 h21=>?_;have hln22:=zah h21;refine zae u22 h21 ?_;refine ⟨η1,?_⟩;unfold zcq;rw [if_neg (by omega),if_neg (by omega),if_pos (by omega)]
 refine zao ?_;refine br (λc5=>?_) (λc5=>?_)
 · refine zab zc5 ?_
   refine zaa zb1 (za5 hA2) (Ext.refl w1_) λv21 h21=>?_;have hln22:=zah h21;refine zae u22 h21 ?_;refine ⟨η1,?_⟩;unfold zcq;rw [if_neg (by omega),if_neg (by omega),if_pos (by omega)]
 refine ⟨η1,?_⟩;unfold zcq;rw [if_neg (by omega),if_neg (by omega),if_neg (by omega)]
def F135 (a0 a1 a2 a3:Value) (w:World) (R:VW):Prop:=
 oX 32 a0 w λx4 w=>
 oX 111 a1 w λx5 w=>
 (λw=>rF 111 x5 0 w λx11=>
 rL 3 x11 w λx12=>
 rB .lss 3 T0 U0 x12 (iV 1) w λx13=>
 BR x13
 (R vF w)
 (rF 111 x5 0 w λx15=>
 rL 3 x15 w λx16=>
 rB .gtr 3 T0 U0 x16 (iV 9) w λx17=>
 BR x17
 (R vF w)
 (rF 111 x5 1 w λx20=>
 rL 3 x20 w λx21=>
 rB .lss 3 T0 U0 x21 (iV 0) w λx22=>
 BR x22
 (R vF w)
 (rF 111 x5 1 w λx25=>
 rL 3 x25 w λx26=>
 rL 32 x4 w λx27=>
 rF 111 x5 0 w λx28=>
 rL 3 x28 w λx29=>
 (λw_=>cL 183 [x27,x29] w_ λx30 w=>
 Ext w_ w ∧
 rB .geq 3 T0 T0 x26 x30 w λx31=>
 BR x31
 (R vF w)
 (JOIN [] (λJ14=>
 rF 111 x5 0 w λx33=>
 rL 3 x33 w λx34=>
 rQ x34 (iV 1) w λx35=>
 BR x35
 (rF 111 x5 2 w λx41=>
 rL 109 x41 w λx42=>
 cL 184 [x42] w λx43 w=>
 rT x43 w λx44=>
 BR x44
 (R vF w)
 (rF 111 x5 2 w λx45=>
 rL 109 x45 w λx46=>
 cL 168 [x46] w λx47 w=>
 rN 22 3 x47 w λx48=>
 LOOPI [49] [(iV 0)] w λu7 w n7=>
 rC (u7 49) x48 w λx50=>
 BR x50
 (rX 22 x47 (u7 49) w λx51=>
 rL 9 x51 w λx52=>
 rF 32 x4 0 w λx53=>
 rL 22 x53 w λx54=>
 cL 169 [x54,x52] w λx56 w=>
 rT x56 w λx57=>
 BR x57
 (R vF w)
 (rI (u7 49) w λx58=>
 n7 [x58] w))
 (J14 [] w)))
 (rF 111 x5 0 w λx37=>
 rL 3 x37 w λx38=>
 rQ x38 (iV 2) w λx39=>
 BR x39
 (rF 111 x5 2 w λx41=>
 rL 109 x41 w λx42=>
 cL 184 [x42] w λx43 w=>
 rT x43 w λx44=>
 BR x44
 (R vF w)
 (rF 111 x5 2 w λx45=>
 rL 109 x45 w λx46=>
 cL 168 [x46] w λx47 w=>
 rN 22 3 x47 w λx48=>
 LOOPI [49] [(iV 0)] w λu7 w n7=>
 rC (u7 49) x48 w λx50=>
 BR x50
 (rX 22 x47 (u7 49) w λx51=>
 rL 9 x51 w λx52=>
 rF 32 x4 0 w λx53=>
 rL 22 x53 w λx54=>
 cL 169 [x54,x52] w λx56 w=>
 rT x56 w λx57=>
 BR x57
 (R vF w)
 (rI (u7 49) w λx58=>
 n7 [x58] w))
 (J14 [] w)))
 (rF 111 x5 2 w λx59=>
 rL 109 x59 w λx60=>
 cL 185 [x60] w λx61 w=>
 rT x61 w λx62=>
 BR x62
 (R vF w)
 (J14 [] w)))) (λu14 w=>
 rF 111 x5 0 w λx63=>
 rL 3 x63 w λx64=>
 rQ x64 (iV 2) w λx65=>
 BR x65
 (rF 111 x5 3 w λx71=>
 rL 3 x71 w λx72=>
 rB .geq 3 T0 T0 x72 a2 w λx74=>
 BR x74
 (rF 111 x5 3 w λx76=>
 rL 3 x76 w λx77=>
 rC x77 a3 w λx79=>
 R x79 w)
 (R vF w))
 (rF 111 x5 0 w λx67=>
 rL 3 x67 w λx68=>
 rQ x68 (iV 3) w λx69=>
 BR x69
 (rF 111 x5 3 w λx71=>
 rL 3 x71 w λx72=>
 rB .geq 3 T0 T0 x72 a2 w λx74=>
 BR x74
 (rF 111 x5 3 w λx76=>
 rL 3 x76 w λx77=>
 rC x77 a3 w λx79=>
 R x79 w)
 (R vF w))
 (rF 111 x5 3 w λx81=>
 rL 3 x81 w λx82=>
 rQ x82 (iV 0) w λx83=>
 R x83 w))))) w)))) (World.drew1 w)
theorem F135_call {a0 a1 a2 a3 w R} (h:F135 a0 a1 a2 a3 w R):cL 135 [a0,a1,a2,a3] w R:=co (g:=(kf [(14,9223372028264842496,[])] [(7,575897802350003456,[49])] [(1,[0,1,2,3,4,5,6,7,8,9,10,11,12,13,14,15,16,17,18,19,20,21],524288)])) Tryz.func135 h
theorem znY {w:World} {v0:Value} {W0:World} {c:DCode} {v1:Value} {W1:World} {a:DIns} {b:Int} {e:Int}  (h0:Is W0 v0 c) (e0:Ext W0 w) (h1:Is W1 v1 a) (e1:Ext W1 w)  :
   CALL tp 135 [v0,v1,.int .i64 b,.int .i64 e] w λr w'=>Ext w w'∧(r=.bool (decide (zgv c a b e))):=by
 refine F135_call ?_;unfold F135;refine zar zbq rfl h0 e0 λw1_ η1 hA4 hV4=>?_;refine zar zaO rfl h1 (e1.trans η1) λw2_ η2 hA5 hV5=>?_;have η3:=zaj w2_;refine zab zaM ?_;refine zad ty3 (zav hA5) η3 λhI12=>?_;refine zag ?_;refine br (λc1=>?_) (λc1=>?_)
 · refine ⟨(η1.t (η2.t η3)),?_⟩
   have:¬zgv c a b e:=λh=>by have:=h.1;omega
   simp only [this,decide_false]
 refine zab zaM ?_;refine zad ty3 (zav hA5) η3 λhI16=>?_;refine zcK ?_;refine br (λc2=>?_) (λc2=>?_)
 · refine ⟨(η1.t (η2.t η3)),?_⟩
   have:¬zgv c a b e:=λh=>by have:=h.1;omega
   simp only [this,decide_false]
 refine zab zaK ?_;refine zad ty3 (zat hA5) η3 λhI21=>?_;refine zag ?_;refine br (λc3=>?_) (λc3=>?_)
 · refine ⟨(η1.t (η2.t η3)),?_⟩
   have:¬zgv c a b e:=λh=>by have:=h.2.1;omega
   simp only [this,decide_false]
 refine zab zaK ?_;refine zad ty3 (zat hA5) η3 λhI26=>?_;refine zaR hV4 (η2.t η3) ?_;refine zab zaM ?_;refine zad ty3 (zav hA5) η3 λhI29=>?_;refine (zqm h0 (e0.t (η1.t (η2.t η3)))).mono ?_;rintro _ w4_ ⟨η4,rfl⟩;refine ⟨η4,?_⟩;refine zb0 ?_;refine br (λc4=>?_) (λc4=>?_)
 · refine ⟨(η1.t (η2.t (η3.t η4))),?_⟩
   have:¬zgv c a b e:=λh=>by have:=h.2.1;omega
   simp only [this,decide_false]
 refine JOIN.mk (λus w'=>us=[]∧Ext w4_ w'∧(if a.op=1∨a.op=2 then zbP 6 a.term=true∧(∀ s∈zcb a.term,s∈c.globals) else a.term=term0)) ?_ ?_
 · refine zab zaM ?_
   refine zad ty3 (zav hA5) (η3.t η4) λhI34=>?_;refine zao ?_;refine br (λc5=>?_) (λc5=>?_)
   · refine zab zcf ?_
     refine zaa zbB (zbG hA5) (η3.t η4) λv42 h42=>?_;refine (zfa h42 (η3.t η4)).mono ?_;rintro _ w6_ ⟨η6,rfl⟩;refine zaX ?_;refine zbz (λc6=>?_) (λc6=>?_)
     · refine ⟨(η1.t (η2.t (η3.t (η4.t η6)))),?_⟩
       have:¬zgv c a b e:=λh=>by have:=h.2.2.1;rw [if_pos (.inl c5)] at this;rw [this.1] at c6;cases c6
       simp only [this,decide_false]
     refine zab zcf ?_;refine zaa zbB (zbG hA5) (η3.t (η4.t η6)) λv46 h46=>?_;refine (zeF h46 (η3.t (η4.t η6))).mono ?_;rintro r47 w7_ ⟨η7,h47⟩;have hln48:=zah h47;refine zae u22 h47 ?_;refine zam ((zcb a.term).length) (λk us w'=>us=[.int .i64 (k:Int)]∧Ext w7_ w'∧(∀ s∈(zcb a.term).take k,s∈c.globals)) (0) (by omega) ⟨by simp,Ext.refl w7_,by simp⟩ ?_;rintro k m7 uu7 w8_ hk7 ⟨hu,η8,hinv⟩;try replace hu:=zbi hu
     try rw [hu]
     try clear hu
     refine zag ?_;refine br (λc7=>?_) (λc7=>?_)
     · refine zac u22 ty9 h47 (by omega) λb51 o51 h51=>?_
       refine zaS ty9 h51 η8 λhS52=>?_;refine zab zdi ?_;refine zaa zb1 (za8 hA4) (η2.t (η3.t (η4.t (η6.t (η7.t η8))))) λv54 h54=>?_;refine (zco h54 (η2.t (η3.t (η4.t (η6.t (η7.t η8)))))).mono ?_;rintro _ w9_ ⟨η9,rfl⟩;refine zaq ?_;refine br (λc8=>?_) (λc8=>?_)
       · refine ⟨(η1.t (η2.t (η3.t (η4.t (η6.t (η7.t (η8.t η9))))))),?_⟩
         have:¬zgv c a b e:=λh=>by
           have:=h.2.2.1;rw [if_pos (.inl c5)] at this;exact c8 (this.2 _ (List.getElem_mem (n:=k) (by omega)))
         simp only [this,decide_false]
       refine zas ?_;refine ⟨m7-1,by omega,k+1,by omega,by simp,(η8.t η9),?_⟩;intro s hs;rw [tk (by omega)] at hs;rcases List.mem_append.1 hs with hs | hs
       · exact hinv s hs
       simp only [List.mem_cons,List.not_mem_nil,or_false] at hs;subst hs;exact Decidable.not_not.1 c8
     refine ⟨by simp,(η6.t (η7.t η8)),?_⟩;rw [if_pos (.inl c5)];rw [List.take_of_length_le (by omega)] at hinv;exact ⟨by simpa using c6,hinv⟩
   refine zab zaM ?_;refine zad ty3 (zav hA5) (η3.t η4) λhI38=>?_;refine zao ?_;refine br (λc9=>?_) (λc9=>?_)
   · refine zab zcf ?_
     refine zaa zbB (zbG hA5) (η3.t η4) λv42 h42=>?_;refine (zfa h42 (η3.t η4)).mono ?_;rintro _ w10_ ⟨η10,rfl⟩;refine zaX ?_;refine zbz (λc10=>?_) (λc10=>?_)
     · refine ⟨(η1.t (η2.t (η3.t (η4.t η10)))),?_⟩
       have:¬zgv c a b e:=λh=>by have:=h.2.2.1;rw [if_pos (.inr c9)] at this;rw [this.1] at c10;cases c10
       simp only [this,decide_false]
     refine zab zcf ?_;refine zaa zbB (zbG hA5) (η3.t (η4.t η10)) λv46 h46=>?_;refine (zeF h46 (η3.t (η4.t η10))).mono ?_;rintro r47 w11_ ⟨η11,h47⟩;have hln48:=zah h47;refine zae u22 h47 ?_;refine zam ((zcb a.term).length) (λk us w'=>us=[.int .i64 (k:Int)]∧Ext w11_ w'∧(∀ s∈(zcb a.term).take k,s∈c.globals)) (0) (by omega) ⟨by simp,Ext.refl w11_,by simp⟩ ?_;rintro k m7 uu7 w12_ hk7 ⟨hu,η12,hinv⟩;try replace hu:=zbi hu
     try rw [hu]
     try clear hu
     refine zag ?_;refine br (λc11=>?_) (λc11=>?_)
     · refine zac u22 ty9 h47 (by omega) λb51 o51 h51=>?_
       refine zaS ty9 h51 η12 λhS52=>?_;refine zab zdi ?_;refine zaa zb1 (za8 hA4) (η2.t (η3.t (η4.t (η10.t (η11.t η12))))) λv54 h54=>?_;refine (zco h54 (η2.t (η3.t (η4.t (η10.t (η11.t η12)))))).mono ?_;rintro _ w13_ ⟨η13,rfl⟩;refine zaq ?_;refine br (λc12=>?_) (λc12=>?_)
       · refine ⟨(η1.t (η2.t (η3.t (η4.t (η10.t (η11.t (η12.t η13))))))),?_⟩
         have:¬zgv c a b e:=λh=>by
           have:=h.2.2.1;rw [if_pos (.inr c9)] at this;exact c12 (this.2 _ (List.getElem_mem (n:=k) (by omega)))
         simp only [this,decide_false]
       refine zas ?_;refine ⟨m7-1,by omega,k+1,by omega,by simp,(η12.t η13),?_⟩;intro s hs;rw [tk (by omega)] at hs;rcases List.mem_append.1 hs with hs | hs
       · exact hinv s hs
       simp only [List.mem_cons,List.not_mem_nil,or_false] at hs;subst hs;exact Decidable.not_not.1 c12
     refine ⟨by simp,(η10.t (η11.t η12)),?_⟩;rw [if_pos (.inr c9)];rw [List.take_of_length_le (by omega)] at hinv;exact ⟨by simpa using c10,hinv⟩
   refine zab zcf ?_;refine zaa zbB (zbG hA5) (η3.t η4) λv60 h60=>?_;refine (zlj h60 (η3.t η4)).mono ?_;rintro _ w14_ ⟨η14,rfl⟩;refine zaq ?_;refine br (λc13=>?_) (λc13=>?_)
   · refine ⟨(η1.t (η2.t (η3.t (η4.t η14)))),?_⟩
     have:¬zgv c a b e:=λh=>by have:=h.2.2.1;rw [if_neg (by omega)] at this;exact c13 this
     simp only [this,decide_false]
   refine ⟨by simp,η14,?_⟩;rw [if_neg (by omega)];exact Decidable.not_not.1 c13
 rintro uj14 w5_ ⟨hu,η14,hT⟩;try replace hu:=zbi hu
 clear hu;refine zab zaM ?_;refine zad ty3 (zav hA5) (η3.t (η4.t η14)) λhI64=>?_;refine zao ?_;refine br (λc14=>?_) (λc14=>?_)
 · refine zab zcB ?_
   refine zad ty3 (zbH hA5) (η3.t (η4.t η14)) λhI72=>?_;refine zb0 ?_;refine br (λc15=>?_) (λc15=>?_)
   · refine zab zcB ?_
     refine zad ty3 (zbH hA5) (η3.t (η4.t η14)) λhI77=>?_;refine zag ?_;refine ⟨(η1.t (η2.t (η3.t (η4.t η14)))),?_⟩
     first
       | (have no:¬zgv c a b e:=λh=>by
           have h4:=h.2.2.2;rw [if_pos (by omega)] at h4;omega
          simp only [no,decide_false]
          done)
       | (congr 1
          rw [decide_eq_decide];constructor
          · exact λh=>⟨by omega,by omega,hT,by first | (rw [if_pos (by omega)];omega) | (rw [if_neg (by omega)];omega)⟩
          intro h;have h4:=h.2.2.2
          first | (rw [if_pos (by omega)] at h4;omega) | (rw [if_neg (by omega)] at h4;omega))
   refine ⟨(η1.t (η2.t (η3.t (η4.t η14)))),?_⟩
   first
     | (have no:¬zgv c a b e:=λh=>by
         have h4:=h.2.2.2;rw [if_pos (by omega)] at h4;omega
        simp only [no,decide_false]
        done)
     | (congr 1
        rw [decide_eq_decide];constructor
        · exact λh=>⟨by omega,by omega,hT,by first | (rw [if_pos (by omega)];omega) | (rw [if_neg (by omega)];omega)⟩
        intro h;have h4:=h.2.2.2
        first | (rw [if_pos (by omega)] at h4;omega) | (rw [if_neg (by omega)] at h4;omega))
 refine zab zaM ?_;refine zad ty3 (zav hA5) (η3.t (η4.t η14)) λhI68=>?_;refine zao ?_;refine br (λc16=>?_) (λc16=>?_)
 · refine zab zcB ?_
   refine zad ty3 (zbH hA5) (η3.t (η4.t η14)) λhI72=>?_;refine zb0 ?_;refine br (λc17=>?_) (λc17=>?_)
   · refine zab zcB ?_
     refine zad ty3 (zbH hA5) (η3.t (η4.t η14)) λhI77=>?_;refine zag ?_;refine ⟨(η1.t (η2.t (η3.t (η4.t η14)))),?_⟩
     first
       | (have no:¬zgv c a b e:=λh=>by
           have h4:=h.2.2.2;rw [if_pos (by omega)] at h4;omega
          simp only [no,decide_false]
          done)
       | (congr 1
          rw [decide_eq_decide];constructor
          · exact λh=>⟨by omega,by omega,hT,by first | (rw [if_pos (by omega)];omega) | (rw [if_neg (by omega)];omega)⟩
          intro h;have h4:=h.2.2.2
          first | (rw [if_pos (by omega)] at h4;omega) | (rw [if_neg (by omega)] at h4;omega))
   refine ⟨(η1.t (η2.t (η3.t (η4.t η14)))),?_⟩
   first
     | (have no:¬zgv c a b e:=λh=>by
         have h4:=h.2.2.2;rw [if_pos (by omega)] at h4;omega
        simp only [no,decide_false]
        done)
     | (congr 1
        rw [decide_eq_decide];constructor
        · exact λh=>⟨by omega,by omega,hT,by first | (rw [if_pos (by omega)];omega) | (rw [if_neg (by omega)];omega)⟩
        intro h;have h4:=h.2.2.2
        first | (rw [if_pos (by omega)] at h4;omega) | (rw [if_neg (by omega)] at h4;omega))
 refine zab zcB ?_;refine zad ty3 (zbH hA5) (η3.t (η4.t η14)) λhI82=>?_;refine zao ?_;refine ⟨(η1.t (η2.t (η3.t (η4.t η14)))),?_⟩
 first
   | (have no:¬zgv c a b e:=λh=>by
       have h4:=h.2.2.2;rw [if_pos (by omega)] at h4;omega
      simp only [no,decide_false]
      done)
   | (congr 1
      rw [decide_eq_decide];constructor
      · exact λh=>⟨by omega,by omega,hT,by first | (rw [if_pos (by omega)];omega) | (rw [if_neg (by omega)];omega)⟩
      intro h;have h4:=h.2.2.2
      first | (rw [if_pos (by omega)] at h4;omega) | (rw [if_neg (by omega)] at h4;omega))
def F134 (a0 a1:Value) (w:World) (R:VW):Prop:=
 oX 32 a0 w λx2 w=>
 rI a1 w λx6=>
 rF 32 x2 3 w λx7=>
 rL 23 x7 w λx8=>
 rN 23 3 x8 w λx9=>
 rC x6 x9 w λx10=>
 BR x10
 (rF 32 x2 3 w λx11=>
 rL 23 x11 w λx12=>
 rI a1 w λx14=>
 rX 23 x12 x14 w λx15=>
 rL 3 x15 w λx16=>
 R x16 w)
 (rF 32 x2 4 w λx17=>
 rL 30 x17 w λx18=>
 rN 30 3 x18 w λx19=>
 R x19 w)
theorem F134_call {a0 a1 w R} (h:F134 a0 a1 w R):cL 134 [a0,a1] w R:=co (g:=(kf [] [] [])) Tryz.func134 h
theorem zc8 {w:World} {v0:Value} {W0:World} {c:DCode} {i:Nat}  (h0:Is W0 v0 c) (e0:Ext W0 w) (hi:i<1000000000000) :
   CALL tp 134 [v0,.int .i64 (i:Int)] w λr w'=>Ext w w'∧(r=.int .i64 (zdX c i)):=by
 refine F134_call ?_;unfold F134;refine zar zbq rfl h0 e0 λw1_ η1 hA2 hV2=>?_;refine zas ?_;refine zab za6 ?_;refine zaa za4 (zap hA2) (Ext.refl w1_) λv8 h8=>?_;have hln9:=zah h8;refine zae u23 h8 ?_;refine zag ?_;refine br (λc1=>?_) (λc1=>?_)
 · refine zab za6 ?_
   refine zaa za4 (zap hA2) (Ext.refl w1_) λv12 h12=>?_;refine zas ?_;refine zac u23 ty3 h12 (by omega) λb15 o15 h15=>?_;refine zad ty3 h15 (Ext.refl w1_) λhI16=>?_;refine ⟨η1,?_⟩;unfold zdX;rw [if_pos (by omega),zbm]
 refine zab zaD ?_;refine zaa zcu (zai hA2) (Ext.refl w1_) λv18 h18=>?_;have hln19:=zah h18;refine zae u30 h18 ?_;refine ⟨η1,?_⟩;unfold zdX;rw [if_neg (by omega)]
structure EntF (c:DCode):Prop where
 len:c.entry.length=c.procs.length
 ins:c.ins.length≤1500
 zero:en c 0=0
 lt:∀ i,i<c.entry.length→en c i<zdX c i∧zdX c i≤c.ins.length
theorem EntF.nonneg {c:DCode} (h:EntF c) {i:Nat} (hi:i<c.entry.length):0≤en c i:=zgw h.zero hi λj hj=>(h.lt j (by omega)).1
theorem EntF.step {c:DCode} (h:EntF c) {i:Nat} (hi:i+1<c.entry.length):zdX c i=en c (i+1):=by unfold zdX;rw [if_pos hi]
theorem EntF.last {c:DCode} (h:EntF c) {i:Nat} (hi:i+1=c.entry.length):zdX c i=c.ins.length:=by unfold zdX;rw [if_neg (by omega)]
theorem EntF.mono {c:DCode} (h:EntF c):∀ {i j:Nat},i<j→j<c.entry.length→zdX c i≤en c j
 | i,j+1,hij,hj=>by
   by_cases e:i=j
   · subst e;rw [h.step hj];exact Int.le_refl _
   have h1:=h.mono (i:=i) (j:=j) (by omega) (by omega);have h2:=(h.lt j (by omega)).1;rw [h.step hj] at h2;omega
theorem EntF.proc {c:DCode} (h:EntF c) {i:Nat} {a:Int} (hi:i<c.entry.length) (h1:en c i≤a) (h2:a<zdX c i):zaw c a=i:=by
 unfold zaw;rw [ziw (m:=i+1) (by omega) λj hj1 hj2=>by have:=h.mono (i:=i) (j:=j) (by omega) hj2;omega];rw [prc,if_pos h1]
theorem EntF.find {c:DCode} (h:EntF c) (hp:0<c.procs.length) {a:Int} (h0:0≤a) (h1:a<c.ins.length):∃ i,i<c.entry.length∧en c i≤a∧a<zdX c i∧zaw c a=i:=by
 have hlen:=h.len;have h2:0≤zaw c a:=zhH (by rw [h.zero];exact h0) (by omega);have h3:=(zg6 (c:=c) (a:=a)).2
 have key:∀ n,n≤c.entry.length→(∀ j,n≤j→j<c.entry.length→a<en c j)→0<n→∃ i,i<n∧en c i≤a∧a<zdX c i:=by
   intro n
   induction n with
   | zero=>intro _ _ h;omega
   | succ n ih=>
     intro hn hj _;by_cases hle:en c n≤a
     · refine ⟨n,by omega,hle,?_⟩
       by_cases hl:n+1<c.entry.length
       · rw [h.step hl];exact hj (n+1) (by omega) hl
       rw [h.last (by omega)];exact h1
     by_cases h0n:n=0
     · subst h0n;rw [h.zero] at hle;omega
     obtain ⟨i,hi,hx⟩:=ih (by omega) (λj hj1 hj2=>by
       by_cases e:j=n
       · subst e;omega
       exact hj j (by omega) hj2) (by omega)
     exact ⟨i,by omega,hx⟩
 obtain ⟨i,hi,hx,hy⟩:=key c.entry.length (lr _) (λj hj1 hj2=>by omega) (by omega);exact ⟨i,hi,hx,hy,h.proc hi hx hy⟩
theorem EntS.f {c:DCode} (h:EntS c) (hp:0<c.procs.length):EntF c:=by
 obtain ⟨h1,h2,h3,h4⟩:=h;refine ⟨h1,h2,(h3 0 (by omega)).1 rfl,λi hi=>?_⟩;unfold zdX;split
 · rename_i hl
   have:=h3 (i+1) hl;have h5:=this.2.1 (by omega);simp only [Nat.add_sub_cancel] at h5;exact ⟨h5,by omega⟩
 exact ⟨(h3 i hi).2.2,Int.le_refl _⟩
theorem EntI.f {c:DCode} (h:EntI c):EntF c:=⟨h.2.1,h.1,h.2.2.1,λi hi=>⟨(h.2.2.2.2 i hi).1,(h.2.2.2.2 i hi).2.1⟩⟩
theorem zrP (c:DCode) (a:Nat):∀ (d:Nat),zls c a≤zls c (a+d)∧(zls c (a+d)=zls c a↔∀ j,a≤j→j<a+d→¬(zal c j).op=9)
 | 0=>⟨Nat.le_refl _,⟨λ_ j h1 h2=>by omega,λ_=>rfl⟩⟩
 | d+1=>by
   obtain ⟨h1,h2⟩:=zrP c a d;rw [←Nat.add_assoc,zls];refine ⟨by omega,?_⟩;split
   · rename_i h9
     exact ⟨λh=>by omega,λh=>absurd h9 (h (a+d) (by omega) (by omega))⟩
   rename_i h9
   rw [Nat.add_zero,h2];constructor
   · intro h j hj1 hj2
     by_cases e:j=a+d
     · subst e;exact h9
     exact h j hj1 (by omega)
   exact λh j hj1 hj2=>h j hj1 (by omega)
def eb (c:DCode) (n:Nat):Nat:=if n=0 then 0 else (zdX c (n-1)).toNat
theorem EntF.eb_en {c:DCode} (h:EntF c) {n:Nat} (hn:n<c.entry.length):(eb c n:Int)=en c n:=by
 unfold eb;split
 · rename_i h0;subst h0;rw [h.zero];rfl
 have h1:=h.nonneg hn
 have h2:zdX c (n-1)=en c n:=by
   have:=h.step (i:=n-1) (by omega)
   rwa [show n-1+1=n by omega] at this
 rw [h2];omega
theorem EntF.eb_succ {c:DCode} (h:EntF c) {n:Nat} (hn:n<c.entry.length):(eb c (n+1):Int)=zdX c n:=by
 unfold eb;rw [if_neg (by omega),Nat.add_sub_cancel];have:=(h.lt n hn).1;have:=h.nonneg hn;omega
theorem zhI {c:DCode} (h:EntF c) (he:∀ i,i<c.entry.length→(zal c (zdX c i-1).toNat).op=9):∀ n,n≤c.entry.length →
   n≤zls c (eb c n)∧(zls c (eb c n)=n↔∀ j:Nat,j<eb c n→(zal c j).op=9→∃ i,i<n∧zdX c i=j+1)
 | 0,_=>⟨Nat.zero_le _,⟨λ_ j hj=>by simp [eb] at hj,λ_=>rfl⟩⟩
 | n+1,hn=>by
   obtain ⟨h1,h2⟩:=zhI h he n (by omega);have ha:=h.eb_en (n:=n) (by omega);have hb:=h.eb_succ (n:=n) (by omega);have hlt:=(h.lt n (by omega)).1;have h9:=he n (by omega);have e9:(zdX c n-1).toNat=eb c (n+1)-1:=by omega
   rw [e9] at h9;obtain ⟨d,hd⟩:∃ d,eb c (n+1)=eb c n+d+1:=⟨eb c (n+1)-eb c n-1,by omega⟩;have hd':eb c (n+1)-1=eb c n+d:=by omega
   rw [hd'] at h9;obtain ⟨h3,h4⟩:=zrP c (eb c n) d;rw [hd,zls,if_pos h9];refine ⟨by omega,?_⟩;have hsplit:zls c (eb c n+d)+1=n+1↔(zls c (eb c n)=n∧zls c (eb c n+d)=zls c (eb c n)):=by omega
   rw [hsplit,h2,h4];constructor
   · rintro ⟨p1,p2⟩ j hj hj9
     by_cases hja:j<eb c n
     · obtain ⟨i,hi,hx⟩:=p1 j hja hj9
       exact ⟨i,by omega,hx⟩
     by_cases hje:j=eb c n+d
     · exact ⟨n,by omega,by omega⟩
     exact absurd hj9 (p2 j (by omega) (by omega))
   intro p;constructor
   · intro j hj hj9
     obtain ⟨i,hi,hx⟩:=p j (by omega) hj9;by_cases hin:i=n
     · subst hin;omega
     exact ⟨i,by omega,hx⟩
   intro j hj1 hj2 hj9;obtain ⟨i,hi,hx⟩:=p j (by omega) hj9;by_cases hin:i=n
   · subst hin;omega
   have:=h.mono (i:=i) (j:=n) (by omega) (by omega);omega
theorem zrQ {c:DCode} (hp:0<c.procs.length):EntI c↔EntS c:=by
 constructor
 · intro h
   have hf:=h.f;obtain ⟨_,_,_,hc,hall⟩:=h;have hlen:=hf.len;have he:∀ i,i<c.entry.length→(zal c (zdX c i-1).toNat).op=9:=λi hi=>(hall i hi).2.2;obtain ⟨_,h2⟩:=zhI hf he c.entry.length (lr _)
   have hb:eb c c.entry.length=c.ins.length:=by
     have:=hf.eb_succ (n:=c.entry.length-1) (by omega);rw [hf.last (by omega),show c.entry.length-1+1=c.entry.length by omega] at this;omega
   rw [hb] at h2;have h3:=h2.1 hc;refine ⟨hf.len,hf.ins,λi hi=>⟨λ_=>hf.zero,λh0=>?_,?_⟩,λj hj=>?_⟩
   · have h4:=(hf.lt (i-1) (by omega)).1
     have h5:=hf.step (i:=i-1) (by omega);rw [show i-1+1=i by omega] at h5;omega
   · have:=hf.lt i hi;omega
   obtain ⟨i,hi,hx,hy,hpr⟩:=hf.find hp (a:=j) (by omega) (by omega);rw [hpr,zev];constructor
   · intro h9
     obtain ⟨i',hi',hx'⟩:=h3 j hj h9;have:=hf.lt i' hi';have hpr':=hf.proc (a:=j) hi' (by omega) (by omega);have:i'=i:=by omega
     subst this;omega
   intro h9;have:=he i hi
   rwa [show (zdX c i-1).toNat=j by omega] at this
 intro h;have hf:=h.f hp;have hlen:=hf.len;have h4:=h.2.2.2
 have he:∀ i,i<c.entry.length→(zal c (zdX c i-1).toNat).op=9:=λi hi=>by
   have h1:=hf.lt i hi;have h0:=hf.nonneg hi;have:=(h4 (zdX c i-1).toNat (by omega)).2;refine this ?_;rw [hf.proc (i:=i) hi (by omega) (by omega),zev];omega
 obtain ⟨_,h2⟩:=zhI hf he c.entry.length (lr _)
 have hb:eb c c.entry.length=c.ins.length:=by
   have:=hf.eb_succ (n:=c.entry.length-1) (by omega);rw [hf.last (by omega),show c.entry.length-1+1=c.entry.length by omega] at this;omega
 rw [hb] at h2;refine ⟨hf.ins,hf.len,hf.zero,h2.2 λj hj h9=>?_,λi hi=>⟨(hf.lt i hi).1,(hf.lt i hi).2,he i hi⟩⟩;obtain ⟨i,hi,hx,hy,hpr⟩:=hf.find hp (a:=j) (by omega) (by omega);have:=(h4 j hj).1 h9;rw [hpr,zev] at this;exact ⟨i,hi,by omega⟩
theorem zmM {c:DCode} (hn:NamesR c) (he:EntI c):CodeR c↔∀ i,i<c.entry.length→∀ j:Nat,en c i≤j→(j:Int)<zdX c i→zgv c (zal c j) (en c i) (zdX c i):=by
 have hf:=he.f;have hp:=hn.procs8.2;constructor
 · intro h i hi j h1 h2
   have h3:=hf.lt i hi;have:=h.2.2 j (by omega);rw [hf.proc hi h1 h2,zev,Int.toNat_natCast] at this
   rwa [Int.sub_add_cancel] at this
 intro h;refine ⟨hn,(zrQ hp).1 he,λj hj=>?_⟩;obtain ⟨i,hi,hx,hy,hpr⟩:=hf.find hp (a:=j) (by omega) (by omega);rw [hpr,zev,Int.toNat_natCast,Int.sub_add_cancel];exact h i hi j hx hy
def F77 (a0:Value) (w:World) (R:VW):Prop:=
 oX 32 a0 w λx1 w=>
 rL 32 x1 w λx8=>
 cL 132 [x8] w λx9 w=>
 rT x9 w λx10=>
 BR x10
 (R vF w)
 (rL 32 x1 w λx12=>
 cL 133 [x12] w λx13 w=>
 rT x13 w λx14=>
 BR x14
 (R vF w)
 (rF 32 x1 3 w λx16=>
 rL 23 x16 w λx17=>
 rN 23 3 x17 w λx18=>
 LOOPI [19] [(iV 0)] w λu4 w n4=>
 rC (u4 19) x18 w λx20=>
 BR x20
 (rX 23 x17 (u4 19) w λx22=>
 rL 3 x22 w λx23=>
 rL 32 x1 w λx24=>
 cL 134 [x24,(u4 19)] w λx26 w=>
 rF 32 x1 4 w λx27=>
 rL 30 x27 w λx28=>
 rD (Instr.sliceAt 30 x28 (some x23) (some x26) none) w λx31=>
 rN 30 3 x31 w λx32=>
 LOOPI [33] [(iV 0)] w λu8 w n8=>
 rC (u8 33) x32 w λx34=>
 BR x34
 (rX 30 x31 (u8 33) w λx35=>
 rL 111 x35 w λx36=>
 oP (aL 111) w λx7 w=>
 oS 111 x7 x36 w λw=>
 rL 32 x1 w λx37=>
 rL 111 x7 w λx38=>
 cL 135 [x37,x38,x23,x26] w λx41 w=>
 rT x41 w λx42=>
 BR x42
 (R vF w)
 (rI (u8 33) w λx43=>
 n8 [x43] w))
 (rI (u4 19) w λx44=>
 n4 [x44] w))
 (R vT w)))
theorem F77_call {a0 w R} (h:F77 a0 w R):cL 77 [a0] w R:=co (g:=(kf [] [(4,35184371564732,[19]),(8,17583596109956,[33])] [])) Tryz.func77 h
theorem zlt {w:World} {v0:Value} {W0:World} {c:DCode}  (h0:Is W0 v0 c) (e0:Ext W0 w)  :
   CALL tp 77 [v0] w λr w'=>Ext w w'∧(r=.bool (decide (CodeR c))):=by
 refine F77_call ?_;unfold F77;refine zar zbq rfl h0 e0 λw1_ η1 hA1 hV1=>?_;refine zaR hV1 (Ext.refl w1_) ?_;refine (zlr h0 (e0.t η1)).mono ?_;rintro _ w2_ ⟨η2,rfl⟩;refine zaq ?_;refine br (λc1=>?_) (λc1=>?_)
 · refine ⟨(η1.t η2),?_⟩
   have:¬CodeR c:=λh=>c1 h.1;simp only [this,decide_false]
 refine zaR hV1 η2 ?_;refine (zjl h0 (e0.t (η1.t η2)) (Decidable.not_not.1 c1).procs8.2).mono ?_;rintro _ w3_ ⟨η3,rfl⟩;refine zaq ?_;refine br (λc2=>?_) (λc2=>?_)
 · refine ⟨(η1.t (η2.t η3)),?_⟩
   have:¬CodeR c:=λh=>c2 ((zrQ h.1.procs8.2).2 h.2.1);simp only [this,decide_false]
 refine zab za6 ?_;refine zaa za4 (zap hA1) (η2.t η3) λv17 h17=>?_;have hln18:=zah h17;refine zae u23 h17 ?_;refine zam (c.entry.length) (λq us w'=>us=[.int .i64 (q:Int)]∧Ext w3_ w'∧(∀ i,i<q→∀ j:Nat,en c i≤j→(j:Int)<zdX c i→zgv c (zal c j) (en c i) (zdX c i))) (0) (by omega) ⟨by simp,Ext.refl w3_,λi h=>by omega⟩ ?_;rintro q m4 uu4 w4_ hk4 ⟨hu,η4,hent⟩;try replace hu:=zbi hu
 try rw [hu]
 try clear hu
 replace c1:=Decidable.not_not.1 c1;replace c2:=Decidable.not_not.1 c2;have hln4:=zah h17
 refine zag ?_;refine br (λc3=>?_) (λc3=>?_)
 · refine zac u23 ty3 h17 (by omega) λb22 o22 h22=>?_
   refine zad ty3 h22 (η2.t (η3.t η4)) λhI23=>?_;rw [zbm];have h8:=c1.procs8;have hlq:=c2.f.lt q (by omega);have hnq:=c2.f.nonneg (i:=q) (by omega);have hlen:=c2.f.len;refine zaR hV1 (η2.t (η3.t η4)) ?_;refine (zc8 h0 (e0.t (η1.t (η2.t (η3.t η4)))) (by omega)).mono ?_;rintro _ w5_ ⟨η5,rfl⟩;refine zab zaD ?_;refine zaa zcu (zai hA1) (η2.t (η3.t (η4.t η5))) λv28 h28=>?_;refine zk9 u30 zaO h28 (by omega) (by omega) (by omega) λv31 h31=>?_;have hln32:=zah h31;refine zae u30 h31 ?_;refine zam ((zdX c q).toNat-(en c q).toNat) (λk us w'=>us=[.int .i64 (k:Int)]∧Ext w5_ w'∧(∀ j:Nat,en c q≤j→(j:Int)<en c q+k→zgv c (zal c j) (en c q) (zdX c q))) (0) (by omega) ⟨by simp,Ext.refl w5_,λj h1 h2=>by omega⟩ ?_;rintro k m8 uu8 w6_ hk8 ⟨hu,η6,hinv⟩;try replace hu:=zbi hu
   try rw [hu]
   try clear hu
   have hl31:((c.ins.take (zdX c q).toNat).drop (en c q).toNat).length=(zdX c q).toNat-(en c q).toNat:=by rw [List.length_drop,List.length_take];omega
   refine zag ?_;refine br (λc4=>?_) (λc4=>?_)
   · refine zac u30 zaO h31 (by omega) λb35 o35 h35=>?_
     refine zaa zaO h35 (η2.t (η3.t (η4.t (η5.t η6)))) λv36 h36=>?_;rw [List.getElem_drop,List.getElem_take,zaz] at h36;refine zb7 zfx rfl zaO rfl h36 (η2.t (η3.t (η4.t (η5.t η6)))) λw7_ η7 hA7 hV7=>?_;refine zaR hV1 (η2.t (η3.t (η4.t (η5.t (η6.t η7))))) ?_;refine zaR hV7 (Ext.refl w7_) ?_;refine (znY h0 (e0.t (η1.t (η2.t (η3.t (η4.t (η5.t (η6.t η7))))))) h36 (η2.t (η3.t (η4.t (η5.t (η6.t η7)))))).mono ?_;rintro _ w8_ ⟨η8,rfl⟩;refine zaq ?_;refine br (λc5=>?_) (λc5=>?_)
     · refine ⟨(η1.t (η2.t (η3.t (η4.t (η5.t (η6.t (η7.t η8))))))),?_⟩
       have:¬CodeR c:=λh=>c5 ((zmM c1 c2).1 h q (by omega) _ (by omega) (by omega));simp only [this,decide_false]
     refine zas ?_;refine ⟨m8-1,by omega,k+1,by omega,by simp,(η6.t (η7.t η8)),?_⟩;intro j h1 h2;by_cases hj:j=(en c q).toNat+k
     · subst hj;exact Decidable.not_not.1 c5
     exact hinv j h1 (by omega)
   refine zas ?_;refine ⟨m4-1,by omega,q+1,by omega,by simp,(η4.t (η5.t η6)),?_⟩;intro i hi j h1 h2;by_cases hiq:i=q
   · subst hiq;exact hinv j h1 (by omega)
   exact hent i (by omega) j h1 h2
 refine ⟨(η1.t (η2.t (η3.t η4))),?_⟩;have:CodeR c:=(zmM c1 c2).2 λi hi=>hent i (by omega);simp only [this,decide_true]
theorem CodeR.f {c:DCode} (h:CodeR c):EntF c:=h.2.1.f h.1.procs8.2
def F113 (a0 a1:Value) (w:World) (R:VW):Prop:=
 oX 32 a0 w λx2 w=>
 rB .geq 3 T0 U0 a1 (iV 0) w λx6=>
 BR x6
 (rF 32 x2 4 w λx9=>
 rL 30 x9 w λx10=>
 rN 30 3 x10 w λx11=>
 rC a1 x11 w λx12=>
 R x12 w)
 (R vF w)
theorem F113_call {a0 a1 w R} (h:F113 a0 a1 w R):cL 113 [a0,a1] w R:=co (g:=(kf [] [] [])) Tryz.func113 h
theorem zeR {w:World} {v0:Value} {W0:World} {c:DCode} {a:Int}  (h0:Is W0 v0 c) (e0:Ext W0 w)  :
   CALL tp 113 [v0,.int .i64 a] w λr w'=>Ext w w'∧(r=.bool (decide (0≤a∧a<c.ins.length))):=by
 refine F113_call ?_;unfold F113;refine zar zbq rfl h0 e0 λw1_ η1 hA2 hV2=>?_;refine zb0 ?_;refine br (λc1=>?_) (λc1=>?_)
 · refine zab zaD ?_
   refine zaa zcu (zai hA2) (Ext.refl w1_) λv10 h10=>?_;have hln11:=zah h10;refine zae u30 h10 ?_;refine zag ?_;refine ⟨η1,?_⟩;simp [c1]
 refine ⟨η1,?_⟩;simp [c1]
def F157 (a0 a1:Value) (w:World) (R:VW):Prop:=
 oX 32 a0 w λx2 w=>
 LOOPI [5] [(iV 0)] w λu2 w n2=>
 rI (u2 5) w λx7=>
 rF 32 x2 3 w λx8=>
 rL 23 x8 w λx9=>
 rN 23 3 x9 w λx10=>
 rC x7 x10 w λx11=>
 BR x11
 (rF 32 x2 3 w λx13=>
 rL 23 x13 w λx14=>
 rI (u2 5) w λx16=>
 rX 23 x14 x16 w λx17=>
 rL 3 x17 w λx18=>
 rB .leq 3 T0 T0 x18 a1 w λx20=>
 BR x20
 (rI (u2 5) w λx23=>
 n2 [x23] w)
 (R (u2 5) w))
 (R (u2 5) w)
theorem F157_call {a0 a1 w R} (h:F157 a0 a1 w R):cL 157 [a0,a1] w R:=co (g:=(kf [] [(2,16777184,[5])] [])) Tryz.func157 h
theorem zjm {w:World} {v0:Value} {W0:World} {c:DCode} {a:Int}  (h0:Is W0 v0 c) (e0:Ext W0 w) (hc:CodeR c) (ha:0≤a) (ha2:a<c.ins.length) :
   CALL tp 157 [v0,.int .i64 a] w λr w'=>Ext w w'∧(r=.int .i64 (zaw c a)):=by
 refine F157_call ?_;unfold F157;have hf:=hc.f;have h8:=hc.1.procs8;have hl:=hf.len;refine zar zbq rfl h0 e0 λw1_ η1 hA2 hV2=>?_;refine zam (c.entry.length-1) (λk us w'=>us=[.int .i64 (k:Int)]∧Ext w1_ w'∧(en c k≤a)) (0) (by omega) ⟨by simp,Ext.refl w1_,by rw [hf.zero];exact ha⟩ ?_;rintro k m2 uu2 w2_ hk2 ⟨hu,η2,hinv⟩;try replace hu:=zbi hu
 try rw [hu]
 try clear hu
 refine zas ?_;refine zab za6 ?_;refine zaa za4 (zap hA2) η2 λv9 h9=>?_;have hln10:=zah h9;refine zae u23 h9 ?_;refine zag ?_;refine br (λc1=>?_) (λc1=>?_)
 · refine zab za6 ?_
   refine zaa za4 (zap hA2) η2 λv14 h14=>?_;refine zas ?_;refine zac u23 ty3 h14 (by omega) λb17 o17 h17=>?_;refine zad ty3 h17 η2 λhI18=>?_;refine zdV ?_;refine br (λc2=>?_) (λc2=>?_)
   · refine zas ?_
     refine ⟨m2-1,by omega,k+1,by omega,by simp,η2,?_⟩
     rwa [zbm] at c2
   refine ⟨(η1.t η2),?_⟩;rw [zbm] at c2;rw [hf.proc (i:=k) (by omega) hinv (by rw [hf.step (by omega)];omega)]
 refine ⟨(η1.t η2),?_⟩;rw [hf.proc (i:=k) (by omega) hinv (by rw [hf.last (by omega)];omega)]
def st (l:List Int) (i:Nat):Int:=l.getD i 0
theorem zg7 {l:List Int} {i:Nat} (h:i<l.length):l[i]=st l i:=by unfold st;rw [List.getD_eq_getElem?_getD,List.getElem?_eq_getElem h];rfl
def zdm (c:DCode) (l:List Int):Prop:=l.length≤8∧(∀ i,i<l.length→0≤st l i∧st l i<c.ins.length) ∧
 ∀ i,i<l.length-1→(zal c (st l i).toNat).op=4∧zaw c (st l (i+1))=(zal c (st l i).toNat).arg
instance (c:DCode) (l:List Int):Decidable (zdm c l):=by unfold zdm;infer_instance
def F149 (a0 a1:Value) (w:World) (R:VW):Prop:=
 oX 32 a0 w λx2 w=>
 rN 23 3 a1 w λx9=>
 rB .gtr 3 T0 U0 x9 (iV 8) w λx10=>
 BR x10
 (R vF w)
 (LOOPI [5] [(iV 0)] w λu4 w n4=>
 rN 23 3 a1 w λx13=>
 rC (u4 5) x13 w λx14=>
 BR x14
 ((λw=>rX 23 a1 (u4 5) w λx19=>
 rL 3 x19 w λx20=>
 rF 32 x2 4 w λx21=>
 rL 30 x21 w λx22=>
 rN 30 3 x22 w λx23=>
 rB .sub 3 T0 U0 x23 (iV 1) w λx24=>
 cL 125 [x20,(iV 0),x24] w λx25 w=>
 rT x25 w λx26=>
 BR x26
 (R vF w)
 (rI (u4 5) w λx16=>
 n4 [x16] w)) (World.drew1 w))
 (LOOPI [6] [(iV 0)] w λu9 w n9=>
 rI (u9 6) w λx28=>
 rN 23 3 a1 w λx30=>
 rC x28 x30 w λx31=>
 BR x31
 ((λw=>rF 32 x2 4 w λx34=>
 rL 30 x34 w λx35=>
 rX 23 a1 (u9 6) w λx38=>
 rL 3 x38 w λx39=>
 rX 30 x35 x39 w λx40=>
 rL 111 x40 w λx41=>
 (λw_=>oP (aL 111) w_ λx7 w=>
 Ext w_ w ∧
 (oS 111 x7 x41 w λw=>
 (λw=>rF 111 x7 0 w λx42=>
 rL 3 x42 w λx43=>
 rB .neq 3 T0 U0 x43 (iV 4) w λx44=>
 BR x44
 (R vF w)
 (rL 32 x2 w λx46=>
 rI (u9 6) w λx49=>
 rX 23 a1 x49 w λx50=>
 rL 3 x50 w λx51=>
 rF 111 x7 1 w λx53=>
 rL 3 x53 w λx54=>
 (λw_=>cL 97 [x46,x51] w_ λx52 w=>
 Ext w_ w ∧
 rB .neq 3 T0 T0 x52 x54 w λx55=>
 BR x55
 (R vF w)
 (rI (u9 6) w λx33=>
 n9 [x33] w)) w)) (World.drew1 w))) w) (World.drew1 w))
 (R vT w)))
theorem F149_call {a0 a1 w R} (h:F149 a0 a1 w R):cL 149 [a0,a1] w R:=co (g:=(kf [] [(4,134215728,[5]),(9,144115187941638352,[6])] [(6,[0,1,2,3,4,5,6,7,8,9],0),(11,[0,1,2,3,4,5,6,7,8,9],256),(12,[0,1,2,3,4,5,6,7,8,9,11,12,10,13,14],1024)])) Tryz.func149 h
theorem znZ {w:World} {v0:Value} {W0:World} {c:DCode} {v1:Value} {W1:World} {l:(List Int)}  (h0:Is W0 v0 c) (e0:Ext W0 w) (h1:Is W1 v1 l) (e1:Ext W1 w)  :
   CALL tp 149 [v0,v1] w λr w'=>Ext w w'∧(r=.bool (decide (zdm c l))):=by
 refine F149_call ?_;unfold F149;have hln:=zah h1;refine zar zbq rfl h0 e0 λw1_ η1 hA2 hV2=>?_;have hln9:=zah h1;refine zae u23 h1 ?_;refine zcK ?_;refine br (λc1=>?_) (λc1=>?_)
 · refine ⟨η1,?_⟩
   have:¬zdm c l:=λh=>by have:=h.1;omega
   simp only [this,decide_false]
 refine zam (l.length) (λk us w'=>us=[.int .i64 (k:Int)]∧Ext w1_ w'∧(∀ i,i<k→0≤st l i∧st l i<c.ins.length)) (0) (by omega) ⟨by simp,Ext.refl w1_,λi h=>by omega⟩ ?_;rintro k m4 uu4 w2_ hk4 ⟨hu,η2,hpl⟩;try replace hu:=zbi hu
 try rw [hu]
 try clear hu
 have hln13:=zah h1;refine zae u23 h1 ?_;refine zag ?_;refine br (λc2=>?_) (λc2=>?_)
 · have η3:=zaj w2_
   refine zac u23 ty3 h1 (by omega) λb19 o19 h19=>?_;refine zad ty3 h19 (e1.trans (η1.t (η2.t η3))) λhI20=>?_;refine zab zaD ?_;refine zaa zcu (zai hA2) (η2.t η3) λv22 h22=>?_;have hln23:=zah h22;refine zae u30 h22 ?_;refine zbd (by unfold I64;have:=zah h22;omega) ?_;refine (l01In_ok ).mono ?_;rintro _ w4_ ⟨η4,rfl⟩;refine zaq ?_;refine br (λc3=>?_) (λc3=>?_)
   · refine ⟨(η1.t (η2.t (η3.t η4))),?_⟩
     rw [zg7] at c3;have:¬zdm c l:=λh=>c3 (by have:=h.2.1 k (by omega);omega);simp only [this,decide_false]
   refine zas ?_;refine ⟨m4-1,by omega,k+1,by omega,by simp,(η2.t (η3.t η4)),?_⟩;rw [zg7] at c3;exact zd1 hpl (by omega)
 refine zam (l.length) (λq us w'=>us=[.int .i64 (q:Int)]∧Ext w2_ w'∧(∀ i,i<q→(zal c (st l i).toNat).op=4∧zaw c (st l (i+1))=(zal c (st l i).toNat).arg)) (0) (by omega) ⟨by simp,Ext.refl w2_,λi h=>by omega⟩ ?_;rintro q m9 uu9 w5_ hk9 ⟨hu,η5,hinv⟩;try replace hu:=zbi hu
 try rw [hu]
 try clear hu
 refine zas ?_;have hln30:=zah h1;refine zae u23 h1 ?_;refine zag ?_;refine br (λc4=>?_) (λc4=>?_)
 · have η6:=zaj w5_
   refine zab zaD ?_;refine zaa zcu (zai hA2) (η2.t (η5.t η6)) λv35 h35=>?_;refine zac u23 ty3 h1 (by omega) λb38 o38 h38=>?_;refine zad ty3 h38 (e1.trans (η1.t (η2.t (η5.t η6)))) λhI39=>?_;rw [zg7];have hst:=hpl q (by omega);refine zaW u30 zaO h35 (by omega) (by omega) λb40 o40 h40=>?_;refine zaa zaO h40 (η2.t (η5.t η6)) λv41 h41=>?_;rw [zaz] at h41;refine zq7 zfx rfl zaO rfl h41 (η2.t (η5.t η6)) λw7_ η7 hA7 hV7=>?_;have η8:=zaj w7_;refine zab zaM ?_;refine zad ty3 (zav hA7) η8 λhI43=>?_;refine zaB ?_;refine br (λc5=>?_) (λc5=>?_)
   · refine ⟨(η1.t (η2.t (η5.t (η6.t (η7.t η8))))),?_⟩
     have:¬zdm c l:=λh=>c5 (h.2.2 q (by omega)).1;simp only [this,decide_false]
   refine zaR hV2 (η2.t (η5.t (η6.t (η7.t η8)))) ?_;refine zas ?_;refine zac u23 ty3 h1 (by omega) λb50 o50 h50=>?_;refine zad ty3 h50 (e1.trans (η1.t (η2.t (η5.t (η6.t (η7.t η8)))))) λhI51=>?_;refine zab zaK ?_;refine zad ty3 (zat hA7) η8 λhI54=>?_;refine (zd8 h0 (e0.t (η1.t (η2.t (η5.t (η6.t (η7.t η8))))))).mono ?_;rintro _ w9_ ⟨η9,rfl⟩;refine ⟨η9,?_⟩;refine zaB ?_;refine br (λc6=>?_) (λc6=>?_)
   · refine ⟨(η1.t (η2.t (η5.t (η6.t (η7.t (η8.t η9)))))),?_⟩
     rw [zg7] at c6;have:¬zdm c l:=λh=>c6 (h.2.2 q (by omega)).2;simp only [this,decide_false]
   refine zas ?_;refine ⟨m9-1,by omega,q+1,by omega,by simp,(η5.t (η6.t (η7.t (η8.t η9)))),?_⟩;rw [zg7] at c6;exact zd1 hinv ⟨Decidable.not_not.1 c5,Decidable.not_not.1 c6⟩
 refine ⟨(η1.t (η2.t η5)),?_⟩;have:zdm c l:=⟨by omega,λi hi=>hpl i (by omega),λi hi=>hinv i (by omega)⟩;simp only [this,decide_true]
def F105 (a0 a1:Value) (w:World) (R:VW):Prop:=
 oX 32 a0 w λx2 w=>
 rN 23 3 a1 w λx8=>
 rB .gtr 3 T0 U0 x8 (iV 8) w λx9=>
 BR x9
 (R vF w)
 (rN 23 3 a1 w λx11=>
 LOOPI [12] [(iV 0)] w λu4 w n4=>
 rC (u4 12) x11 w λx13=>
 BR x13
 (rX 23 a1 (u4 12) w λx15=>
 rL 3 x15 w λx16=>
 rL 32 x2 w λx17=>
 cL 113 [x17,x16] w λx19 w=>
 rT x19 w λx20=>
 BR x20
 (R vF w)
 (rI (u4 12) w λx22=>
 rN 23 3 a1 w λx24=>
 rB .eql 3 T0 T0 x22 x24 w λx25=>
 BR x25
 (R vT w)
 ((λw=>rF 32 x2 4 w λx26=>
 rL 30 x26 w λx27=>
 rX 30 x27 x16 w λx29=>
 rF 111 x29 0 w λx30=>
 rL 3 x30 w λx31=>
 rB .neq 3 T0 U0 x31 (iV 4) w λx32=>
 BR x32
 (R vF w)
 (rL 32 x2 w λx34=>
 rI (u4 12) w λx37=>
 rX 23 a1 x37 w λx38=>
 rL 3 x38 w λx39=>
 cL 113 [x34,x39] w λx40 w=>
 rT x40 w λx41=>
 BR x41
 (R vF w)
 (rL 32 x2 w λx44=>
 rI (u4 12) w λx47=>
 rX 23 a1 x47 w λx48=>
 rL 3 x48 w λx49=>
 rF 32 x2 4 w λx51=>
 rL 30 x51 w λx52=>
 rX 30 x52 x16 w λx54=>
 rF 111 x54 1 w λx55=>
 rL 3 x55 w λx56=>
 (λw_=>cL 157 [x44,x49] w_ λx50 w=>
 Ext w_ w ∧
 rB .neq 3 T0 T0 x50 x56 w λx57=>
 BR x57
 (R vF w)
 (rI (u4 12) w λx59=>
 n4 [x59] w)) w))) (World.drew1 w))))
 (R vT w))
theorem F105_call {a0 a1 w R} (h:F105 a0 a1 w R):cL 105 [a0,a1] w R:=co (g:=(kf [] [(4,1152921504606842992,[12])] [(9,[0,1,2,3,4,5,6,7,8,9,10,11,12,13,14,15,16,17,18,19,20,21,22,23,25,26,27,28,29,30,24,31,32],16777216)])) Tryz.func105 h
theorem zlu {w:World} {v0:Value} {W0:World} {c:DCode} {v1:Value} {W1:World} {l:(List Int)}  (h0:Is W0 v0 c) (e0:Ext W0 w) (h1:Is W1 v1 l) (e1:Ext W1 w) (hc:CodeR c) :
   CALL tp 105 [v0,v1] w λr w'=>Ext w w'∧(r=.bool (decide (zdm c l))):=by
 refine F105_call ?_;unfold F105;have hln:=zah h1;refine zar zbq rfl h0 e0 λw1_ η1 hA2 hV2=>?_;have hln8:=zah h1;refine zae u23 h1 ?_;refine zcK ?_;refine br (λc1=>?_) (λc1=>?_)
 · refine ⟨η1,?_⟩
   have:¬zdm c l:=λh=>by have:=h.1;omega
   simp only [this,decide_false]
 have hln11:=zah h1;refine zae u23 h1 ?_;refine zam (l.length) (λk us w'=>us=[.int .i64 (k:Int)]∧Ext w1_ w'∧(k≤l.length-1∧(∀ i,i<k→0≤st l i∧st l i<c.ins.length)∧∀ i,i<k→(zal c (st l i).toNat).op=4∧zaw c (st l (i+1))=(zal c (st l i).toNat).arg)) (0) (by omega) ⟨by simp,Ext.refl w1_,by omega,λi h=>by omega,λi h=>by omega⟩ ?_;rintro k m4 uu4 w2_ hk4 ⟨hu,η2,hkl,hpl,hop⟩;try replace hu:=zbi hu
 try rw [hu]
 try clear hu
 refine zag ?_;refine br (λc2=>?_) (λc2=>?_)
 · refine zac u23 ty3 h1 (by omega) λb15 o15 h15=>?_
   refine zad ty3 h15 (e1.trans (η1.t η2)) λhI16=>?_;rw [zg7];refine zaR hV2 η2 ?_;refine (zeR h0 (e0.t (η1.t η2))).mono ?_;rintro _ w3_ ⟨η3,rfl⟩;refine zaq ?_;refine br (λc3=>?_) (λc3=>?_)
   · refine ⟨(η1.t (η2.t η3)),?_⟩
     have:¬zdm c l:=λh=>c3 (by have:=h.2.1 k (by omega);omega);simp only [this,decide_false]
   refine zas ?_;have hln24:=zah h1;refine zae u23 h1 ?_;refine zao ?_;refine br (λc4=>?_) (λc4=>?_)
   · refine ⟨(η1.t (η2.t η3)),?_⟩
     have:zdm c l:=⟨by omega,λi hi=>by
         by_cases e:i=k
         · subst e;omega
         exact hpl i (by omega),λi hi=>hop i (by omega)⟩
     simp only [this,decide_true]
   have η4:=zaj w3_;refine zab zaD ?_;refine zaa zcu (zai hA2) (η2.t (η3.t η4)) λv27 h27=>?_;have hst1:0≤st l k∧st l k<c.ins.length:=by omega
   refine zaW u30 zaO h27 (by omega) (by omega) λb29 o29 h29=>?_;refine zab zaM ?_;refine zad ty3 (zav h29) (η2.t (η3.t η4)) λhI31=>?_;refine zaB ?_;refine br (λc5=>?_) (λc5=>?_)
   · refine ⟨(η1.t (η2.t (η3.t η4))),?_⟩
     rw [zaz] at c5;have:¬zdm c l:=λh=>c5 (h.2.2 k (by omega)).1;simp only [this,decide_false]
   refine zaR hV2 (η2.t (η3.t η4)) ?_;refine zas ?_;refine zac u23 ty3 h1 (by omega) λb38 o38 h38=>?_;refine zad ty3 h38 (e1.trans (η1.t (η2.t (η3.t η4)))) λhI39=>?_;refine (zeR h0 (e0.t (η1.t (η2.t (η3.t η4))))).mono ?_;rintro _ w5_ ⟨η5,rfl⟩;refine zaq ?_;refine br (λc6=>?_) (λc6=>?_)
   · refine ⟨(η1.t (η2.t (η3.t (η4.t η5)))),?_⟩
     rw [zg7] at c6;have:¬zdm c l:=λh=>c6 (by have:=h.2.1 (k+1) (by omega);omega);simp only [this,decide_false]
   refine zaR hV2 (η2.t (η3.t (η4.t η5))) ?_;refine zas ?_;refine zac u23 ty3 h1 (by omega) λb48 o48 h48=>?_;refine zad ty3 h48 (e1.trans (η1.t (η2.t (η3.t (η4.t η5))))) λhI49=>?_;refine zab zaD ?_;refine zaa zcu (zai hA2) (η2.t (η3.t (η4.t η5))) λv52 h52=>?_;refine zaW u30 zaO h52 (by omega) (by omega) λb54 o54 h54=>?_;refine zab zaK ?_;refine zad ty3 (zat h54) (η2.t (η3.t (η4.t η5))) λhI56=>?_;rw [zg7] at c6;rw [zg7];refine (zjm h0 (e0.t (η1.t (η2.t (η3.t (η4.t η5))))) (by assumption) (by omega) (by omega)).mono ?_;rintro _ w6_ ⟨η6,rfl⟩;refine ⟨η6,?_⟩;refine zaB ?_;refine br (λc7=>?_) (λc7=>?_)
   · refine ⟨(η1.t (η2.t (η3.t (η4.t (η5.t η6))))),?_⟩
     rw [zaz] at c7;have:¬zdm c l:=λh=>c7 (h.2.2 k (by omega)).2;simp only [this,decide_false]
   refine zas ?_;refine ⟨m4-1,by omega,k+1,by omega,by simp,(η2.t (η3.t (η4.t (η5.t η6)))),?_⟩;rw [zaz] at c7 c5;exact ⟨by omega,zd1 hpl hst1,zd1 hop ⟨Decidable.not_not.1 c5,Decidable.not_not.1 c7⟩⟩
 refine ⟨(η1.t η2),?_⟩;have:zdm c l:=⟨by omega,λi hi=>hpl i (by omega),λi hi=>hop i (by omega)⟩;simp only [this,decide_true]
def zbc (c:DCode) (s:DState):Prop:=s.vars.length=c.globals.length∧s.owner.length=c.locks.length∧(1≤s.stacks.length∧s.stacks.length≤6)∧(∀ v∈s.vars,0≤v∧v≤999) ∧
 (∀ o∈s.owner,-1≤o∧o<s.stacks.length)∧∀ l∈s.stacks,zdm c l
instance (c:DCode) (s:DState):Decidable (zbc c s):=by unfold zbc;infer_instance
theorem zfX {α:Type} {P:α→Prop} {l:List α} {k:Nat} (hk:k<l.length) (h:∀ x∈l.take k,P x) (hp:P l[k]):∀ x∈l.take (k+1),P x:=by
 intro x hx;rw [tk hk] at hx;rcases List.mem_append.1 hx with hx | hx
 · exact h x hx
 simp only [List.mem_cons,List.not_mem_nil,or_false] at hx;subst hx;exact hp
theorem zhJ {α:Type} {P:α→Prop} {l:List α} {k:Nat} (hk:l.length≤k) (h:∀ x∈l.take k,P x):∀ x∈l,P x:=by
 rwa [List.take_of_length_le hk] at h
def F94 (a0 a1:Value) (w:World) (R:VW):Prop:=
 oX 32 a0 w λx2 w=>
 oX 53 a1 w λx3 w=>
 rF 53 x3 0 w λx8=>
 rL 23 x8 w λx9=>
 rN 23 3 x9 w λx10=>
 rF 32 x2 0 w λx11=>
 rL 22 x11 w λx12=>
 rN 22 3 x12 w λx13=>
 rB .neq 3 T0 T0 x10 x13 w λx14=>
 BR x14
 (R vF w)
 (rF 53 x3 1 w λx16=>
 rL 23 x16 w λx17=>
 rN 23 3 x17 w λx18=>
 rF 32 x2 1 w λx19=>
 rL 22 x19 w λx20=>
 rN 22 3 x20 w λx21=>
 rB .neq 3 T0 T0 x18 x21 w λx22=>
 BR x22
 (R vF w)
 (rF 53 x3 2 w λx25=>
 rL 39 x25 w λx26=>
 rN 39 3 x26 w λx27=>
 cL 125 [x27,(iV 1),(iV 6)] w λx28 w=>
 rT x28 w λx29=>
 BR x29
 (R vF w)
 (LOOPI [5] [(iV 0)] w λu4 w n4=>
 rF 53 x3 0 w λx32=>
 rL 23 x32 w λx33=>
 rN 23 3 x33 w λx34=>
 rC (u4 5) x34 w λx35=>
 BR x35
 (rF 53 x3 0 w λx38=>
 rL 23 x38 w λx39=>
 rX 23 x39 (u4 5) w λx41=>
 rL 3 x41 w λx42=>
 cL 125 [x42,(iV 0),(iV 999)] w λx43 w=>
 rT x43 w λx44=>
 BR x44
 (R vF w)
 (rI (u4 5) w λx37=>
 n4 [x37] w))
 (LOOPI [6] [(iV 0)] w λu9 w n9=>
 rF 53 x3 1 w λx46=>
 rL 23 x46 w λx47=>
 rN 23 3 x47 w λx48=>
 rC (u9 6) x48 w λx49=>
 BR x49
 ((λw=>rF 53 x3 1 w λx52=>
 rL 23 x52 w λx53=>
 rX 23 x53 (u9 6) w λx55=>
 rL 3 x55 w λx56=>
 rF 53 x3 2 w λx57=>
 rL 39 x57 w λx58=>
 rN 39 3 x58 w λx59=>
 rB .sub 3 T0 U0 x59 (iV 1) w λx60=>
 cL 125 [x56,(iV (-1)),x60] w λx61 w=>
 rT x61 w λx62=>
 BR x62
 (R vF w)
 (rI (u9 6) w λx51=>
 n9 [x51] w)) (World.drew1 w))
 (LOOPI [7] [(iV 0)] w λu14 w n14=>
 rF 53 x3 2 w λx64=>
 rL 39 x64 w λx65=>
 rN 39 3 x65 w λx66=>
 rC (u14 7) x66 w λx67=>
 BR x67
 ((λw=>rL 32 x2 w λx70=>
 rF 53 x3 2 w λx71=>
 rL 39 x71 w λx72=>
 rX 39 x72 (u14 7) w λx74=>
 rL 23 x74 w λx75=>
 cL 149 [x70,x75] w λx76 w=>
 rT x76 w λx77=>
 BR x77
 (R vF w)
 (rI (u14 7) w λx69=>
 n14 [x69] w)) (World.drew1 w))
 (R vT w))))))
theorem F94_call {a0 a1 w R} (h:F94 a0 a1 w R):cL 94 [a0,a1] w R:=co (g:=(kf [] [(4,35182224605232,[5]),(9,9223336852482687056,[6]),(14,302222231531620438900880,[7])] [(11,[0,1,2,3,4,5,6,7,8,9,10],0),(16,[0,1,2,3,4,5,6,7],0)])) Tryz.func94 h
theorem zn0 {w:World} {v0:Value} {W0:World} {c:DCode} {v1:Value} {W1:World} {s:DState}  (h0:Is W0 v0 c) (e0:Ext W0 w) (h1:Is W1 v1 s) (e1:Ext W1 w)  :
   CALL tp 94 [v0,v1] w λr w'=>Ext w w'∧(r=.bool (decide (zbc c s))):=by
 refine F94_call ?_;unfold F94;refine zar zbq rfl h0 e0 λw1_ η1 hA2 hV2=>?_;refine zar zik rfl h1 (e1.trans η1) λw2_ η2 hA3 hV3=>?_;refine zab zgT ?_;refine zaa za4 (zcg hA3) (Ext.refl w2_) λv9 h9=>?_;have hln10:=zah h9;refine zae u23 h9 ?_;refine zab zdi ?_;refine zaa zb1 (za8 hA2) η2 λv12 h12=>?_;have hln13:=zah h12;refine zae u22 h12 ?_;refine zaB ?_;refine br (λc1=>?_) (λc1=>?_)
 · refine ⟨(η1.t η2),?_⟩
   have:¬zbc c s:=λh=>by have:=h.1;omega
   simp only [this,decide_false]
 refine zab zeN ?_;refine zaa za4 (zbt hA3) (Ext.refl w2_) λv17 h17=>?_;have hln18:=zah h17;refine zae u23 h17 ?_;refine zab zc5 ?_;refine zaa zb1 (za5 hA2) η2 λv20 h20=>?_;have hln21:=zah h20;refine zae u22 h20 ?_;refine zaB ?_;refine br (λc2=>?_) (λc2=>?_)
 · refine ⟨(η1.t η2),?_⟩
   have:¬zbc c s:=λh=>by have:=h.2.1;omega
   simp only [this,decide_false]
 refine zab zcl ?_;refine zaa zhy (zaE hA3) (Ext.refl w2_) λv26 h26=>?_;have hln27:=zah h26;refine zae u39 h26 ?_;refine (l01In_ok ).mono ?_;rintro _ w3_ ⟨η3,rfl⟩;refine zaq ?_;refine br (λc3=>?_) (λc3=>?_)
 · refine ⟨(η1.t (η2.t η3)),?_⟩
   have:¬zbc c s:=λh=>by have:=h.2.2.1;omega
   simp only [this,decide_false]
 refine zam (s.vars.length) (λk us w'=>us=[.int .i64 (k:Int)]∧Ext w3_ w'∧(∀ v∈s.vars.take k,0≤v∧v≤999)) (0) (by omega) ⟨by simp,Ext.refl w3_,by simp⟩ ?_;rintro k m4 uu4 w4_ hk4 ⟨hu,η4,hv1⟩;try replace hu:=zbi hu
 try rw [hu]
 try clear hu
 refine zab zgT ?_;refine zaa za4 (zcg hA3) (η3.t η4) λv33 h33=>?_;have hln34:=zah h33;refine zae u23 h33 ?_;refine zag ?_;refine br (λc4=>?_) (λc4=>?_)
 · refine zab zgT ?_
   refine zaa za4 (zcg hA3) (η3.t η4) λv39 h39=>?_;refine zac u23 ty3 h39 (by omega) λb41 o41 h41=>?_;refine zad ty3 h41 (η3.t η4) λhI42=>?_;refine (l01In_ok ).mono ?_;rintro _ w5_ ⟨η5,rfl⟩;refine zaq ?_;refine br (λc5=>?_) (λc5=>?_)
   · refine ⟨(η1.t (η2.t (η3.t (η4.t η5)))),?_⟩
     have:¬zbc c s:=λh=>c5 (h.2.2.2.1 _ (List.getElem_mem _));simp only [this,decide_false]
   refine zas ?_;refine ⟨m4-1,by omega,k+1,by omega,by simp,(η4.t η5),?_⟩;exact zfX (by omega) hv1 (Decidable.not_not.1 c5)
 refine zam (s.owner.length) (λq us w'=>us=[.int .i64 (q:Int)]∧Ext w4_ w'∧(∀ o∈s.owner.take q,-1≤o∧o<s.stacks.length)) (0) (by omega) ⟨by simp,Ext.refl w4_,by simp⟩ ?_;rintro q m9 uu9 w6_ hk9 ⟨hu,η6,hv2⟩;try replace hu:=zbi hu
 try rw [hu]
 try clear hu
 refine zab zeN ?_;refine zaa za4 (zbt hA3) (η3.t (η4.t η6)) λv47 h47=>?_;have hln48:=zah h47;refine zae u23 h47 ?_;refine zag ?_;refine br (λc6=>?_) (λc6=>?_)
 · have η7:=zaj w6_
   refine zab zeN ?_;refine zaa za4 (zbt hA3) (η3.t (η4.t (η6.t η7))) λv53 h53=>?_;refine zac u23 ty3 h53 (by omega) λb55 o55 h55=>?_;refine zad ty3 h55 (η3.t (η4.t (η6.t η7))) λhI56=>?_;refine zab zcl ?_;refine zaa zhy (zaE hA3) (η3.t (η4.t (η6.t η7))) λv58 h58=>?_;have hln59:=zah h58;refine zae u39 h58 ?_;refine zbd (by unfold I64;have:=zah h58;omega) ?_;refine (l01In_ok ).mono ?_;rintro _ w8_ ⟨η8,rfl⟩;refine zaq ?_;refine br (λc7=>?_) (λc7=>?_)
   · refine ⟨(η1.t (η2.t (η3.t (η4.t (η6.t (η7.t η8)))))),?_⟩
     have:¬zbc c s:=λh=>c7 (by have:=h.2.2.2.2.1 _ (List.getElem_mem (n:=q) (by omega));omega);simp only [this,decide_false]
   refine zas ?_;refine ⟨m9-1,by omega,q+1,by omega,by simp,(η6.t (η7.t η8)),?_⟩;exact zfX (by omega) hv2 (by omega)
 refine zam (s.stacks.length) (λp us w'=>us=[.int .i64 (p:Int)]∧Ext w6_ w'∧(∀ l∈s.stacks.take p,zdm c l)) (0) (by omega) ⟨by simp,Ext.refl w6_,by simp⟩ ?_;rintro p m14 uu14 w9_ hk14 ⟨hu,η9,hv3⟩;try replace hu:=zbi hu
 try rw [hu]
 try clear hu
 refine zab zcl ?_;refine zaa zhy (zaE hA3) (η3.t (η4.t (η6.t η9))) λv65 h65=>?_;have hln66:=zah h65;refine zae u39 h65 ?_;refine zag ?_;refine br (λc8=>?_) (λc8=>?_)
 · have η10:=zaj w9_
   refine zaR hV2 (η2.t (η3.t (η4.t (η6.t (η9.t η10))))) ?_;refine zab zcl ?_;refine zaa zhy (zaE hA3) (η3.t (η4.t (η6.t (η9.t η10)))) λv72 h72=>?_;refine zac u39 za4 h72 (by omega) λb74 o74 h74=>?_;refine zaa za4 h74 (η3.t (η4.t (η6.t (η9.t η10)))) λv75 h75=>?_;refine (znZ h0 (e0.t (η1.t (η2.t (η3.t (η4.t (η6.t (η9.t η10))))))) h75 (η3.t (η4.t (η6.t (η9.t η10))))).mono ?_;rintro _ w11_ ⟨η11,rfl⟩;refine zaq ?_;refine br (λc9=>?_) (λc9=>?_)
   · refine ⟨(η1.t (η2.t (η3.t (η4.t (η6.t (η9.t (η10.t η11))))))),?_⟩
     have:¬zbc c s:=λh=>c9 (h.2.2.2.2.2 _ (List.getElem_mem _));simp only [this,decide_false]
   refine zas ?_;refine ⟨m14-1,by omega,p+1,by omega,by simp,(η9.t (η10.t η11)),?_⟩;exact zfX (by omega) hv3 (Decidable.not_not.1 c9)
 refine ⟨(η1.t (η2.t (η3.t (η4.t (η6.t η9))))),?_⟩;have:zbc c s:=⟨by omega,by omega,by omega,zhJ (by omega) hv1,zhJ (by omega) hv2,zhJ (by omega) hv3⟩;simp only [this,decide_true]
def F55 (a0 a1:Value) (w:World) (R:VW):Prop:=
 oX 32 a0 w λx2 w=>
 oX 53 a1 w λx3 w=>
 rL 32 x2 w λx5=>
 cL 35 [x5] w λx6 w=>
 BR x6
 (rL 32 x2 w λx8=>
 rL 53 x3 w λx9=>
 cL 94 [x8,x9] w λx10 w=>
 R x10 w)
 (R vF w)
theorem F55_call {a0 a1 w R} (h:F55 a0 a1 w R):cL 55 [a0,a1] w R:=co (g:=(kf [] [] [])) Tryz.func55 h
theorem zkd {w:World} {v0:Value} {W0:World} {c:DCode} {v1:Value} {W1:World} {s:DState}  (h0:Is W0 v0 c) (e0:Ext W0 w) (h1:Is W1 v1 s) (e1:Ext W1 w)  :
   CALL tp 55 [v0,v1] w λr w'=>Ext w w'∧(r=.bool (decide (CodeR c∧zbc c s))):=by
 refine F55_call ?_;unfold F55;refine zar zbq rfl h0 e0 λw1_ η1 hA2 hV2=>?_;refine zar zik rfl h1 (e1.trans η1) λw2_ η2 hA3 hV3=>?_;refine zaR hV2 η2 ?_;refine (zlq h0 (e0.t (η1.t η2))).mono ?_;rintro _ w3_ ⟨η3,rfl⟩;refine br (λc1=>?_) (λc1=>?_)
 · refine zaR hV2 (η2.t η3) ?_
   refine zaR hV3 η3 ?_;refine (zn0 h0 (e0.t (η1.t (η2.t η3))) h1 (e1.trans (η1.t (η2.t η3)))).mono ?_;rintro _ w4_ ⟨η4,rfl⟩;refine ⟨(η1.t (η2.t (η3.t η4))),?_⟩;simp [c1]
 refine ⟨(η1.t (η2.t η3)),?_⟩;simp [c1]
def F62 (a0 a1:Value) (w:World) (R:VW):Prop:=
 oX 32 a0 w λx2 w=>
 oX 53 a1 w λx3 w=>
 rF 53 x3 2 w λx12=>
 rL 39 x12 w λx13=>
 rN 39 3 x13 w λx14=>
 rF 53 x3 0 w λx15=>
 rL 23 x15 w λx16=>
 rN 23 3 x16 w λx17=>
 rF 32 x2 0 w λx18=>
 rL 22 x18 w λx19=>
 rN 22 3 x19 w λx20=>
 rB .neq 3 T0 T0 x17 x20 w λx21=>
 BR x21
 (R vF w)
 (rF 53 x3 1 w λx23=>
 rL 23 x23 w λx24=>
 rN 23 3 x24 w λx25=>
 rF 32 x2 1 w λx26=>
 rL 22 x26 w λx27=>
 rN 22 3 x27 w λx28=>
 rB .neq 3 T0 T0 x25 x28 w λx29=>
 BR x29
 (R vF w)
 (rB .lss 3 T0 U0 x14 (iV 1) w λx33=>
 BR x33
 (R vF w)
 (rB .gtr 3 T0 U0 x14 (iV 6) w λx37=>
 BR x37
 (R vF w)
 (rF 53 x3 0 w λx39=>
 rL 23 x39 w λx40=>
 rN 23 3 x40 w λx41=>
 LOOPI [42] [(iV 0)] w λu5 w n5=>
 rC (u5 42) x41 w λx43=>
 BR x43
 (rX 23 x40 (u5 42) w λx44=>
 rL 3 x44 w λx45=>
 rB .lss 3 T0 U0 x45 (iV 0) w λx47=>
 BR x47
 (R vF w)
 (rB .gtr 3 T0 U0 x45 (iV 999) w λx50=>
 BR x50
 (R vF w)
 (rI (u5 42) w λx52=>
 n5 [x52] w)))
 (rF 53 x3 1 w λx53=>
 rL 23 x53 w λx54=>
 rN 23 3 x54 w λx55=>
 LOOPI [56] [(iV 0)] w λu11 w n11=>
 rC (u11 56) x55 w λx57=>
 BR x57
 (rX 23 x54 (u11 56) w λx58=>
 rL 3 x58 w λx59=>
 rB .lss 3 T0 U0 x59 (iV (-1)) w λx61=>
 BR x61
 (R vF w)
 (rB .geq 3 T0 T0 x59 x14 w λx65=>
 BR x65
 (R vF w)
 (rI (u11 56) w λx67=>
 n11 [x67] w)))
 (rF 53 x3 2 w λx68=>
 rL 39 x68 w λx69=>
 rN 39 3 x69 w λx70=>
 LOOPI [71] [(iV 0)] w λu17 w n17=>
 rC (u17 71) x70 w λx72=>
 BR x72
 (rX 39 x69 (u17 71) w λx73=>
 rL 23 x73 w λx74=>
 rL 32 x2 w λx75=>
 cL 105 [x75,x74] w λx77 w=>
 rT x77 w λx78=>
 BR x78
 (R vF w)
 (rI (u17 71) w λx79=>
 n17 [x79] w))
 (R vT w)))))))
theorem F62_call {a0 a1 w R} (h:F62 a0 a1 w R):cL 62 [a0,a1] w R:=co (g:=(kf [] [(5,9002801208230032,[42]),(11,295075847585314898448,[56]),(17,1206564636373194352101392,[71])] [])) Tryz.func62 h
theorem zlv {w:World} {v0:Value} {W0:World} {c:DCode} {v1:Value} {W1:World} {s:DState}  (h0:Is W0 v0 c) (e0:Ext W0 w) (h1:Is W1 v1 s) (e1:Ext W1 w) (hc:CodeR c) :
   CALL tp 62 [v0,v1] w λr w'=>Ext w w'∧(r=.bool (decide (zbc c s))):=by
 refine F62_call ?_;unfold F62;refine zar zbq rfl h0 e0 λw1_ η1 hA2 hV2=>?_;refine zar zik rfl h1 (e1.trans η1) λw2_ η2 hA3 hV3=>?_;refine zab zcl ?_;refine zaa zhy (zaE hA3) (Ext.refl w2_) λv13 h13=>?_;have hln14:=zah h13;refine zae u39 h13 ?_;refine zab zgT ?_;refine zaa za4 (zcg hA3) (Ext.refl w2_) λv16 h16=>?_;have hln17:=zah h16;refine zae u23 h16 ?_;refine zab zdi ?_;refine zaa zb1 (za8 hA2) η2 λv19 h19=>?_;have hln20:=zah h19;refine zae u22 h19 ?_;refine zaB ?_;refine br (λc1=>?_) (λc1=>?_)
 · refine ⟨(η1.t η2),?_⟩
   have:¬zbc c s:=λh=>by have:=h.1;omega
   simp only [this,decide_false]
 refine zab zeN ?_;refine zaa za4 (zbt hA3) (Ext.refl w2_) λv24 h24=>?_;have hln25:=zah h24;refine zae u23 h24 ?_;refine zab zc5 ?_;refine zaa zb1 (za5 hA2) η2 λv27 h27=>?_;have hln28:=zah h27;refine zae u22 h27 ?_;refine zaB ?_;refine br (λc2=>?_) (λc2=>?_)
 · refine ⟨(η1.t η2),?_⟩
   have:¬zbc c s:=λh=>by have:=h.2.1;omega
   simp only [this,decide_false]
 refine zag ?_;refine br (λc3=>?_) (λc3=>?_)
 · refine ⟨(η1.t η2),?_⟩
   have:¬zbc c s:=λh=>by have:=h.2.2.1;omega
   simp only [this,decide_false]
 refine zcK ?_;refine br (λc4=>?_) (λc4=>?_)
 · refine ⟨(η1.t η2),?_⟩
   have:¬zbc c s:=λh=>by have:=h.2.2.1;omega
   simp only [this,decide_false]
 refine zab zgT ?_;refine zaa za4 (zcg hA3) (Ext.refl w2_) λv40 h40=>?_;have hln41:=zah h40;refine zae u23 h40 ?_;refine zam (s.vars.length) (λk us w'=>us=[.int .i64 (k:Int)]∧Ext w2_ w'∧(∀ v∈s.vars.take k,0≤v∧v≤999)) (0) (by omega) ⟨by simp,Ext.refl w2_,by simp⟩ ?_;rintro k m5 uu5 w3_ hk5 ⟨hu,η3,hv1⟩;try replace hu:=zbi hu
 try rw [hu]
 try clear hu
 refine zag ?_;refine br (λc5=>?_) (λc5=>?_)
 · refine zac u23 ty3 h40 (by omega) λb44 o44 h44=>?_
   refine zad ty3 h44 η3 λhI45=>?_;refine zag ?_;refine br (λc6=>?_) (λc6=>?_)
   · refine ⟨(η1.t (η2.t η3)),?_⟩
     have:¬zbc c s:=λh=>by have:=h.2.2.2.1 _ (List.getElem_mem (n:=k) (by omega));omega
     simp only [this,decide_false]
   refine zcK ?_;refine br (λc7=>?_) (λc7=>?_)
   · refine ⟨(η1.t (η2.t η3)),?_⟩
     have:¬zbc c s:=λh=>by have:=h.2.2.2.1 _ (List.getElem_mem (n:=k) (by omega));omega
     simp only [this,decide_false]
   refine zas ?_;refine ⟨m5-1,by omega,k+1,by omega,by simp,η3,?_⟩;exact zfX (by omega) hv1 (by omega)
 refine zab zeN ?_;refine zaa za4 (zbt hA3) η3 λv54 h54=>?_;have hln55:=zah h54;refine zae u23 h54 ?_;refine zam (s.owner.length) (λq us w'=>us=[.int .i64 (q:Int)]∧Ext w3_ w'∧(∀ o∈s.owner.take q,-1≤o∧o<s.stacks.length)) (0) (by omega) ⟨by simp,Ext.refl w3_,by simp⟩ ?_;rintro q m11 uu11 w4_ hk11 ⟨hu,η4,hv2⟩;try replace hu:=zbi hu
 try rw [hu]
 try clear hu
 refine zag ?_;refine br (λc8=>?_) (λc8=>?_)
 · refine zac u23 ty3 h54 (by omega) λb58 o58 h58=>?_
   refine zad ty3 h58 (η3.t η4) λhI59=>?_;refine zag ?_;refine br (λc9=>?_) (λc9=>?_)
   · refine ⟨(η1.t (η2.t (η3.t η4))),?_⟩
     have:¬zbc c s:=λh=>by have:=h.2.2.2.2.1 _ (List.getElem_mem (n:=q) (by omega));omega
     simp only [this,decide_false]
   refine zb0 ?_;refine br (λc10=>?_) (λc10=>?_)
   · refine ⟨(η1.t (η2.t (η3.t η4))),?_⟩
     have:¬zbc c s:=λh=>by have:=h.2.2.2.2.1 _ (List.getElem_mem (n:=q) (by omega));omega
     simp only [this,decide_false]
   refine zas ?_;refine ⟨m11-1,by omega,q+1,by omega,by simp,η4,?_⟩;exact zfX (by omega) hv2 (by omega)
 refine zab zcl ?_;refine zaa zhy (zaE hA3) (η3.t η4) λv69 h69=>?_;have hln70:=zah h69;refine zae u39 h69 ?_;refine zam (s.stacks.length) (λp us w'=>us=[.int .i64 (p:Int)]∧Ext w4_ w'∧(∀ l∈s.stacks.take p,zdm c l)) (0) (by omega) ⟨by simp,Ext.refl w4_,by simp⟩ ?_;rintro p m17 uu17 w5_ hk17 ⟨hu,η5,hv3⟩;try replace hu:=zbi hu
 try rw [hu]
 try clear hu
 refine zag ?_;refine br (λc11=>?_) (λc11=>?_)
 · refine zac u39 za4 h69 (by omega) λb73 o73 h73=>?_
   refine zaa za4 h73 (η3.t (η4.t η5)) λv74 h74=>?_;refine zaR hV2 (η2.t (η3.t (η4.t η5))) ?_;refine (zlu h0 (e0.t (η1.t (η2.t (η3.t (η4.t η5))))) h74 (η3.t (η4.t η5)) (by assumption)).mono ?_;rintro _ w6_ ⟨η6,rfl⟩;refine zaq ?_;refine br (λc12=>?_) (λc12=>?_)
   · refine ⟨(η1.t (η2.t (η3.t (η4.t (η5.t η6))))),?_⟩
     have:¬zbc c s:=λh=>c12 (h.2.2.2.2.2 _ (List.getElem_mem _));simp only [this,decide_false]
   refine zas ?_;refine ⟨m17-1,by omega,p+1,by omega,by simp,(η5.t η6),?_⟩;exact zfX (by omega) hv3 (Decidable.not_not.1 c12)
 refine ⟨(η1.t (η2.t (η3.t (η4.t η5)))),?_⟩;have:zbc c s:=⟨by omega,by omega,by omega,zhJ (by omega) hv1,zhJ (by omega) hv2,zhJ (by omega) hv3⟩;simp only [this,decide_true]
def zuJ (s:DState):Prop:=∀ x∈s.stacks,x=[]
instance (s:DState):Decidable (zuJ s):=inferInstanceAs (Decidable (∀ x∈s.stacks,x=[]))
def ow (s:DState) (i:Int):Int:=s.owner.getD i.toNat 0
theorem zjn {s:DState} {i:Int} (h0:0≤i) (h:i.toNat<s.owner.length):s.owner[i.toNat]=ow s i:=by unfold ow;rw [List.getD_eq_getElem?_getD,List.getElem?_eq_getElem h];rfl
def stk (s:DState) (t:Int):List Int:=s.stacks.getD t.toNat []
theorem zrR {s:DState} {t:Int} (h:t.toNat<s.stacks.length):s.stacks[t.toNat]=stk s t:=by unfold stk;rw [List.getD_eq_getElem?_getD,List.getElem?_eq_getElem h];rfl
def atI (c:DCode) (s:DState) (t:Int):DIns:=zal c (zd7 s t).toNat
theorem ztJ {s:DState} {t:Int} (h0:0≤t) (h1:t.toNat<s.stacks.length):zd7 s t=(stk s t).getLastD (-1):=by
 unfold zd7;rw [dif_pos ⟨h0,h1⟩,zrR h1]
theorem zvp {l:List Int} (h:l≠[]):l.getLastD (-1)=st l (l.length-1):=by
 unfold st;rw [List.getLastD_eq_getLast?,List.getLast?_eq_getElem?,List.getD_eq_getElem?_getD];have:l.length-1<l.length:=by have:=List.length_pos_iff.2 h;omega
 rw [List.getElem?_eq_getElem this];rfl
theorem zrS {c:DCode} {s:DState} (hs:zbc c s) (t:Int):-1≤zd7 s t∧zd7 s t<c.ins.length:=by
 by_cases h:0≤t∧t.toNat<s.stacks.length
 · rw [ztJ h.1 h.2]
   by_cases hn:stk s t=[]
   · rw [hn];simp [List.getLastD];omega
   have hl:=List.length_pos_iff.2 hn;have hm:=hs.2.2.2.2.2 (stk s t) (by rw [←zrR h.2];exact List.getElem_mem _);rw [zvp hn];have:=hm.2.1 ((stk s t).length-1) (by omega);omega
 unfold zd7;rw [dif_neg h];omega
theorem zg8 {c:DCode} (hc:CodeR c) {j:Nat} (hj:j<c.ins.length):zgv c (zal c j) (en c (zaw c j).toNat) (zfc c (zaw c j)+1):=hc.2.2 j hj
theorem zpc {c:DCode} (hc:CodeR c) {j:Nat} (hj:j<c.ins.length) (h:(zal c j).op=6∨(zal c j).op=7):0≤(zal c j).arg∧(zal c j).arg<c.locks.length:=by
 have:=(zg8 hc hj).2.1;unfold zcq at this
 rwa [if_neg (by omega),if_neg (by omega),if_pos h] at this
theorem NamesR.locks6 {c:DCode} (h:NamesR c):c.locks.length≤6:=by
 have h1:=h.2.1;simp only [Bool.and_eq_true,decide_eq_true_eq] at h1;omega
theorem ztK {c:DCode} {s:DState} (hs:zbc c s) {i:Int} (h0:0≤i) (h:i.toNat<s.owner.length):-1≤ow s i∧ow s i<s.stacks.length:=by
 rw [←zjn h0 h];exact hs.2.2.2.2.1 _ (List.getElem_mem _)
theorem zlw {c:DCode} {s:DState} {t:Int} (hc:CodeR c) (hs:zbc c s) (h:0≤zd7 s t) (ho:(atI c s t).op=6∨(atI c s t).op=7):0≤(atI c s t).arg∧(atI c s t).arg.toNat<s.owner.length:=by
 have:=zrS hs t;have h1:=zpc hc (j:=(zd7 s t).toNat) (by omega) ho;have h2:=hs.2.1;unfold atI;omega
def F118 (a0 a1:Value) (w:World) (R:VW):Prop:=
 oX 53 a0 w λx2 w=>
 rB .lss 3 T0 U0 a1 (iV 0) w λx6=>
 BR x6
 (R (iV (-1)) w)
 (rF 53 x2 1 w λx9=>
 rL 23 x9 w λx10=>
 rN 23 3 x10 w λx11=>
 rB .geq 3 T0 T0 a1 x11 w λx12=>
 BR x12
 (R (iV (-1)) w)
 (rF 53 x2 1 w λx14=>
 rL 23 x14 w λx15=>
 rX 23 x15 a1 w λx17=>
 rL 3 x17 w λx18=>
 rD (Builtin.max_ #[3,3] 3 [x18,(iV (-1))].toArray) w λx19=>
 R x19 w))
theorem F118_call {a0 a1 w R} (h:F118 a0 a1 w R):cL 118 [a0,a1] w R:=co (g:=(kf [] [] [])) Tryz.func118 h
theorem zjo {w:World} {v0:Value} {W0:World} {s:DState} {i:Int}  (h0:Is W0 v0 s) (e0:Ext W0 w) (hi0:0≤i) (hi1:i.toNat<s.owner.length) :
   CALL tp 118 [v0,.int .i64 i] w λr w'=>Ext w w'∧(r=.int .i64 (max (ow s i) (-1))):=by
 refine F118_call ?_;unfold F118;refine zar zik rfl h0 e0 λw1_ η1 hA2 hV2=>?_;refine zag ?_;refine br (λc1=>?_) (λc1=>?_)
 · refine ⟨η1,?_⟩
   exact absurd c1 (by omega)
 refine zab zeN ?_;refine zaa za4 (zbt hA2) (Ext.refl w1_) λv10 h10=>?_;have hln11:=zah h10;refine zae u23 h10 ?_;refine zb0 ?_;refine br (λc2=>?_) (λc2=>?_)
 · refine ⟨η1,?_⟩
   exact absurd c2 (by omega)
 refine zab zeN ?_;refine zaa za4 (zbt hA2) (Ext.refl w1_) λv15 h15=>?_;refine zaW u23 ty3 h15 (by omega) (by omega) λb17 o17 h17=>?_;refine zad ty3 h17 (Ext.refl w1_) λhI18=>?_;refine zuC ?_;refine ⟨η1,?_⟩;rw [zjn hi0 hi1]
def GoR (c:DCode) (s:DState) (t:Int):Prop:=0≤zd7 s t∧((atI c s t).op=6→ow s (atI c s t).arg=-1)∧((atI c s t).op=4→((stk s t).length:Int)<8)
instance (c:DCode) (s:DState) (t:Int):Decidable (GoR c s t):=by unfold GoR;infer_instance
def zbo (c:DCode) (s:DState) (t:Int):Int:=if 0≤zd7 s t∧(atI c s t).op=6∧0≤ow s (atI c s t).arg then (atI c s t).arg else -1
def F101 (a0 a1 a2:Value) (w:World) (R:VW):Prop:=
 oX 32 a0 w λx3 w=>
 oX 53 a1 w λx4 w=>
 rL 53 x4 w λx8=>
 cL 99 [x8,a2] w λx10 w=>
 (λw=>rB .lss 3 T0 U0 x10 (iV 0) w λx12=>
 BR x12
 (R (iV (-1)) w)
 (rF 32 x3 4 w λx14=>
 rL 30 x14 w λx15=>
 rX 30 x15 x10 w λx17=>
 rF 111 x17 0 w λx18=>
 rL 3 x18 w λx19=>
 rB .neq 3 T0 U0 x19 (iV 6) w λx20=>
 BR x20
 (R (iV (-1)) w)
 (rF 53 x4 1 w λx23=>
 rL 23 x23 w λx24=>
 rF 32 x3 4 w λx25=>
 rL 30 x25 w λx26=>
 rX 30 x26 x10 w λx28=>
 rF 111 x28 1 w λx29=>
 rL 3 x29 w λx30=>
 rX 23 x24 x30 w λx31=>
 rL 3 x31 w λx32=>
 rB .lss 3 T0 U0 x32 (iV 0) w λx33=>
 BR x33
 (R (iV (-1)) w)
 (rF 32 x3 4 w λx35=>
 rL 30 x35 w λx36=>
 rX 30 x36 x10 w λx38=>
 rF 111 x38 1 w λx39=>
 rL 3 x39 w λx40=>
 R x40 w)))) (World.drew1 w)
theorem F101_call {a0 a1 a2 w R} (h:F101 a0 a1 a2 w R):cL 101 [a0,a1,a2] w R:=co (g:=(kf [] [] [(2,[0,1,2,3,4,5,6,7,8,9,10,11,12,13,14,15,16,17,18,19,20,21,22,23],0)])) Tryz.func101 h
theorem zn1 {w:World} {v0:Value} {W0:World} {c:DCode} {v1:Value} {W1:World} {s:DState} {t:Int}  (h0:Is W0 v0 c) (e0:Ext W0 w) (h1:Is W1 v1 s) (e1:Ext W1 w) (hc:CodeR c) (hs:zbc c s) :
   CALL tp 101 [v0,v1,.int .i64 t] w λr w'=>Ext w w'∧(r=.int .i64 (zbo c s t)):=by
 refine F101_call ?_;unfold F101;have hat:=zrS hs t;refine zar zbq rfl h0 e0 λw1_ η1 hA3 hV3=>?_;refine zar zik rfl h1 (e1.trans η1) λw2_ η2 hA4 hV4=>?_;refine zaR hV4 (Ext.refl w2_) ?_;refine (zgm h1 (e1.trans (η1.t η2))).mono ?_;rintro _ w3_ ⟨η3,rfl⟩;have η4:=zaj w3_;refine zag ?_;refine br (λc1=>?_) (λc1=>?_)
 · refine ⟨(η1.t (η2.t (η3.t η4))),?_⟩
   unfold zbo;rw [if_neg (by omega)]
 refine zab zaD ?_;refine zaa zcu (zai hA3) (η2.t (η3.t η4)) λv15 h15=>?_;refine zaW u30 zaO h15 (by omega) (by omega) λb17 o17 h17=>?_;rw [zaz] at h17;change At _ _ _ (atI c s t) at h17;have hat0:0≤zd7 s t:=by omega
 refine zab zaM ?_;refine zad ty3 (zav h17) (η2.t (η3.t η4)) λhI19=>?_;refine zaB ?_;refine br (λc2=>?_) (λc2=>?_)
 · refine ⟨(η1.t (η2.t (η3.t η4))),?_⟩
   unfold zbo;rw [if_neg (λh=>c2 h.2.1)]
 refine zab zeN ?_;refine zaa za4 (zbt hA4) (η3.t η4) λv24 h24=>?_;refine zab zaD ?_;refine zaa zcu (zai hA3) (η2.t (η3.t η4)) λv26 h26=>?_;refine zaW u30 zaO h26 (by omega) (by omega) λb28 o28 h28=>?_;rw [zaz] at h28;change At _ _ _ (atI c s t) at h28;have hlk:=zlw hc hs hat0 (.inl (Decidable.not_not.1 c2));refine zab zaK ?_;refine zad ty3 (zat h28) (η2.t (η3.t η4)) λhI30=>?_;refine zaW u23 ty3 h24 (by omega) (by omega) λb31 o31 h31=>?_;refine zad ty3 h31 (η3.t η4) λhI32=>?_;refine zag ?_;refine br (λc3=>?_) (λc3=>?_)
 · refine ⟨(η1.t (η2.t (η3.t η4))),?_⟩
   rw [zjn hlk.1 hlk.2] at c3;unfold zbo;rw [if_neg (by omega)]
 refine zab zaD ?_;refine zaa zcu (zai hA3) (η2.t (η3.t η4)) λv36 h36=>?_;refine zaW u30 zaO h36 (by omega) (by omega) λb38 o38 h38=>?_;rw [zaz] at h38;change At _ _ _ (atI c s t) at h38;refine zab zaK ?_;refine zad ty3 (zat h38) (η2.t (η3.t η4)) λhI40=>?_;refine ⟨(η1.t (η2.t (η3.t η4))),?_⟩;rw [zjn hlk.1 hlk.2] at c3;unfold zbo;rw [if_pos ⟨hat0,by omega,by omega⟩]
def F117 (a0 a1 a2:Value) (w:World) (R:VW):Prop:=
 oX 32 a0 w λx3 w=>
 oX 53 a1 w λx4 w=>
 rL 53 x4 w λx8=>
 cL 112 [x8,a2] w λx10 w=>
 (λw=>rL 32 x3 w λx11=>
 cL 113 [x11,x10] w λx13 w=>
 rT x13 w λx14=>
 BR x14
 (R (iV (-1)) w)
 (rF 32 x3 4 w λx16=>
 rL 30 x16 w λx17=>
 rX 30 x17 x10 w λx19=>
 rF 111 x19 0 w λx20=>
 rL 3 x20 w λx21=>
 rB .neq 3 T0 U0 x21 (iV 6) w λx22=>
 BR x22
 (R (iV (-1)) w)
 (rL 53 x4 w λx25=>
 rF 32 x3 4 w λx26=>
 rL 30 x26 w λx27=>
 rX 30 x27 x10 w λx29=>
 rF 111 x29 1 w λx30=>
 rL 3 x30 w λx31=>
 cL 118 [x25,x31] w λx32 w=>
 rB .lss 3 T0 U0 x32 (iV 0) w λx33=>
 BR x33
 (R (iV (-1)) w)
 (rF 32 x3 4 w λx35=>
 rL 30 x35 w λx36=>
 rX 30 x36 x10 w λx38=>
 rF 111 x38 1 w λx39=>
 rL 3 x39 w λx40=>
 R x40 w)))) (World.drew1 w)
theorem F117_call {a0 a1 a2 w R} (h:F117 a0 a1 a2 w R):cL 117 [a0,a1,a2] w R:=co (g:=(kf [] [] [(2,[0,1,2,3,4,5,6,7,8,9,10,11,12,13,14,15,16,17,18,19,20,21,22,23],0)])) Tryz.func117 h
theorem ztL {w:World} {v0:Value} {W0:World} {c:DCode} {v1:Value} {W1:World} {s:DState} {t:Int}  (h0:Is W0 v0 c) (e0:Ext W0 w) (h1:Is W1 v1 s) (e1:Ext W1 w) (hc:CodeR c) (hs:zbc c s) :
   CALL tp 117 [v0,v1,.int .i64 t] w λr w'=>Ext w w'∧(r=.int .i64 (zbo c s t)):=by
 refine F117_call ?_;unfold F117;have hat:=zrS hs t;refine zar zbq rfl h0 e0 λw1_ η1 hA3 hV3=>?_;refine zar zik rfl h1 (e1.trans η1) λw2_ η2 hA4 hV4=>?_;refine zaR hV4 (Ext.refl w2_) ?_;refine (ziZ h1 (e1.trans (η1.t η2))).mono ?_;rintro _ w3_ ⟨η3,rfl⟩;have η4:=zaj w3_;refine zaR hV3 (η2.t (η3.t η4)) ?_;refine (zeR h0 (e0.t (η1.t (η2.t (η3.t η4))))).mono ?_;rintro _ w5_ ⟨η5,rfl⟩;refine zaq ?_;refine br (λc1=>?_) (λc1=>?_)
 · refine ⟨(η1.t (η2.t (η3.t (η4.t η5)))),?_⟩
   unfold zbo;rw [if_neg (by omega)]
 refine zab zaD ?_;refine zaa zcu (zai hA3) (η2.t (η3.t (η4.t η5))) λv17 h17=>?_;refine zaW u30 zaO h17 (by omega) (by omega) λb19 o19 h19=>?_;rw [zaz] at h19;change At _ _ _ (atI c s t) at h19;have hat0:0≤zd7 s t:=by omega
 refine zab zaM ?_;refine zad ty3 (zav h19) (η2.t (η3.t (η4.t η5))) λhI21=>?_;refine zaB ?_;refine br (λc2=>?_) (λc2=>?_)
 · refine ⟨(η1.t (η2.t (η3.t (η4.t η5)))),?_⟩
   unfold zbo;rw [if_neg (λh=>c2 h.2.1)]
 refine zaR hV4 (η3.t (η4.t η5)) ?_;refine zab zaD ?_;refine zaa zcu (zai hA3) (η2.t (η3.t (η4.t η5))) λv27 h27=>?_;refine zaW u30 zaO h27 (by omega) (by omega) λb29 o29 h29=>?_;rw [zaz] at h29;change At _ _ _ (atI c s t) at h29;have hlk:=zlw hc hs hat0 (.inl (Decidable.not_not.1 c2));refine zab zaK ?_;refine zad ty3 (zat h29) (η2.t (η3.t (η4.t η5))) λhI31=>?_;refine (zjo h1 (e1.trans (η1.t (η2.t (η3.t (η4.t η5))))) (by omega) (by omega)).mono ?_;rintro _ w6_ ⟨η6,rfl⟩;refine zag ?_;refine br (λc3=>?_) (λc3=>?_)
 · refine ⟨(η1.t (η2.t (η3.t (η4.t (η5.t η6))))),?_⟩
   unfold zbo;rw [if_neg (by omega)]
 refine zab zaD ?_;refine zaa zcu (zai hA3) (η2.t (η3.t (η4.t (η5.t η6)))) λv36 h36=>?_;refine zaW u30 zaO h36 (by omega) (by omega) λb38 o38 h38=>?_;rw [zaz] at h38;change At _ _ _ (atI c s t) at h38;refine zab zaK ?_;refine zad ty3 (zat h38) (η2.t (η3.t (η4.t (η5.t η6)))) λhI40=>?_;refine ⟨(η1.t (η2.t (η3.t (η4.t (η5.t η6))))),?_⟩;unfold zbo;rw [if_pos ⟨hat0,by omega,by omega⟩]
def zn2 (c:DCode) (s:DState):Nat→List Int
 | 0=>[]
 | k+1=>if GoR c s k then zn2 c s k++[(k:Int)] else zn2 c s k
def zwv (c:DCode) (s:DState):List Int:=zn2 c s s.stacks.length
def zmN (c:DCode) (s:DState):Prop:=(CodeR c∧zbc c s)∧¬zuJ s∧zwv c s=[]
instance (c:DCode) (s:DState):Decidable (zmN c s):=by unfold zmN;infer_instance
end Go.Proofs.YtifonhplnmpgaaaGreat
namespace Go.Sh
open Rep (rep)
abbrev RInts:=RV Int 3
abbrev RIntss:=RV RInts 23
structure DStV where
 vars:List Int
 owner:List Int
 stacks:RIntss
theorem DStV.ext_iff {x y:DStV}:x=y↔(x.vars=y.vars∧x.owner=y.owner∧x.stacks=y.stacks):=⟨λh=>by rw [h];exact ⟨rfl,rfl,rfl⟩,λh=>by obtain ⟨h0,h1,h2⟩:=h;cases x;cases y;simp only at h0 h1 h2;simp only [h0,h1,h2]⟩
instance:Rep DStV:=Rep.via λx=>(x.vars,x.owner,x.stacks)
instance:RepZ DStV:=⟨⟨(RepZ.zv:List Int),(RepZ.zv:List Int),(RepZ.zv:RIntss)⟩,RepZ.zc ((List Int)×(List Int)×RIntss),λw=>RepZ.zr (α:=(List Int)×(List Int)×RIntss) w⟩
section
variable {w:World}
end
end Go.Sh
namespace Go.Proofs.YtifonhplnmpgaaaGreat
open Go Go.Sh Go.Proofs
open Rep (rep)
theorem zvq {c:DCode} (hc:CodeR c):0≤plc zkc c.procs∧(plc zkc c.procs).toNat<c.entry.length:=by
 have h1:=zfG.2 hc.1.2.2.2.2.2.2;have h2:=zwt (s:=zkc) (l:=c.procs);have h3:=hc.2.1.1;omega
def F211 (a0:Value) (w:World) (R:VW):Prop:=
 oX 32 a0 w λx1 w=>
 rF 32 x1 2 w λx3=>
 rL 22 x3 w λx4=>
 cL 123 [x4,(Value.string (ByteArray.mk #[109,97,105,110]))] w λx5 w=>
 R x5 w
theorem F211_call {a0 w R} (h:F211 a0 w R):cL 211 [a0] w R:=co (g:=(kf [] [] [])) Tryz.func211 h
theorem zfY {w:World} {v0:Value} {W0:World} {c:DCode}  (h0:Is W0 v0 c) (e0:Ext W0 w)  :
   CALL tp 211 [v0] w λr w'=>Ext w w'∧(r=.int .i64 (plc zkc c.procs)):=by
 refine F211_call ?_;unfold F211;refine zar zbq rfl h0 e0 λw1_ η1 hA1 hV1=>?_;refine zab zbf ?_;refine zaa zb1 (zau hA1) (Ext.refl w1_) λv4 h4=>?_;refine (zdG h4 (Ext.refl w1_)).mono ?_;rintro _ w2_ ⟨η2,rfl⟩;refine ⟨(η1.t η2),?_⟩;rfl
theorem zjp {α:Type} {l:List α} {i:Nat} {x y:α} (h:y∈l.set i x):y=x∨y∈l:=by
 rcases List.mem_or_eq_of_mem_set h with h | h
 · exact .inr h
 exact .inl h
theorem zrT {c:DCode} (hc:CodeR c) {a:Int} (h0:0≤a) (h1:a<c.ins.length) (ho:(zal c a.toNat).op≠9):a+1<c.ins.length∧zaw c (a+1)=zaw c a:=by
 obtain ⟨i,hi,h2,h3,h4⟩:=hc.f.find hc.1.procs8.2 h0 h1;have h5:=(hc.2.1.2.2.2 a.toNat (by omega));rw [Int.toNat_of_nonneg h0,h4,zev] at h5;have h6:zdX c i-1≠a:=λe=>ho (h5.2 e);have h7:=(hc.f.lt i hi).2;exact ⟨by omega,by rw [h4];exact hc.f.proc hi (by omega) (by omega)⟩
theorem zn3 {c:DCode} (hc:CodeR c) {a:Int} (h0:0≤a) (h1:a<c.ins.length) (ho:(zal c a.toNat).op=2∨(zal c a.toNat).op=3) :
   0≤(zal c a.toNat).to∧(zal c a.toNat).to<c.ins.length∧zaw c (zal c a.toNat).to=zaw c a:=by
 obtain ⟨i,hi,h2,h3,h4⟩:=hc.f.find hc.1.procs8.2 h0 h1;have h5:=(zg8 hc (j:=a.toNat) (by omega)).2.2.2;rw [if_pos ho,Int.toNat_of_nonneg h0,h4,zev,Int.toNat_natCast] at h5;have h6:=hc.f.nonneg hi;have h7:=(hc.f.lt i hi).2;exact ⟨by omega,by omega,by rw [h4];exact hc.f.proc hi h5.1 (by omega)⟩
theorem zrU {c:DCode} (hc:CodeR c) {i:Nat} (hi:i<c.entry.length):0≤en c i∧en c i<c.ins.length∧zaw c (en c i)=i:=by
 have h6:=hc.f.nonneg hi;have h7:=hc.f.lt i hi;exact ⟨h6,by omega,hc.f.proc hi (Int.le_refl _) h7.1⟩
def F136 (a0 a1:Value) (w:World) (R:VW):Prop:=
 NIL a0 <|
 rF 114 a0 0 w λx8=>
 rF 32 x8 4 w λx9=>
 rL 30 x9 w λx10=>
 rX 30 x10 a1 w λx12=>
 rL 111 x12 w λx13=>
 oP (aL 111) w λx5 w=>
 oS 111 x5 x13 w λw=>
 rF 111 x5 0 w λx14=>
 rL 3 x14 w λx15=>
 rQ x15 (iV 9) w λx17=>
 BR x17
 (R (Value.slice none 0 0) w)
 (rQ x15 (iV 3) w λx19=>
 BR x19
 (rF 111 x5 3 w λx20=>
 rL 3 x20 w λx21=>
 oP (bS 23 x21) w λx22 w=>
 R x22 w)
 (rQ x15 (iV 2) w λx24=>
 BR x24
 (rF 111 x5 3 w λx25=>
 rL 3 x25 w λx26=>
 rI a1 w λx28=>
 rB .neq 3 T0 T0 x26 x28 w λx29=>
 BR x29
 (rI a1 w λx31=>
 rF 111 x5 3 w λx32=>
 rL 3 x32 w λx33=>
 oP (Instr.buildSlice 23 2 #[(0,x31),(1,x33)]) w λx34 w=>
 R x34 w)
 (rI a1 w λx36=>
 oP (bS 23 x36) w λx37 w=>
 R x37 w))
 (rI a1 w λx36=>
 oP (bS 23 x36) w λx37 w=>
 R x37 w)))
theorem F136_call {a0 a1 w R} (h:F136 a0 a1 w R):cL 136 [a0,a1] w R:=co (g:=(kf [] [] [])) Tryz.func136 h
def F179 (a0 a1:Value) (w:World) (R:VW):Prop:=
 oX 32 a0 w λx2 w=>
 rF 32 x2 4 w λx6=>
 rL 30 x6 w λx7=>
 rX 30 x7 a1 w λx9=>
 rL 111 x9 w λx10=>
 oP (aL 111) w λx5 w=>
 oS 111 x5 x10 w λw=>
 rF 111 x5 0 w λx11=>
 rL 3 x11 w λx12=>
 rQ x12 (iV 2) w λx14=>
 BR x14
 (rF 111 x5 3 w λx15=>
 rL 3 x15 w λx16=>
 rI a1 w λx18=>
 rB .eql 3 T0 T0 x16 x18 w λx19=>
 BR x19
 (rI a1 w λx21=>
 oP (bS 23 x21) w λx22 w=>
 R x22 w)
 (rI a1 w λx24=>
 rF 111 x5 3 w λx25=>
 rL 3 x25 w λx26=>
 oP (Instr.buildSlice 23 2 #[(0,x24),(1,x26)]) w λx27 w=>
 R x27 w))
 (rQ x12 (iV 3) w λx29=>
 BR x29
 (rF 111 x5 3 w λx30=>
 rL 3 x30 w λx31=>
 oP (bS 23 x31) w λx32 w=>
 R x32 w)
 (rQ x12 (iV 9) w λx34=>
 BR x34
 (oP (Instr.buildSlice 23 0 #[]) w λx35 w=>
 R x35 w)
 (rI a1 w λx37=>
 oP (bS 23 x37) w λx38 w=>
 R x38 w)))
theorem F179_call {a0 a1 w R} (h:F179 a0 a1 w R):cL 179 [a0,a1] w R:=co (g:=(kf [] [] [])) Tryz.func179 h
def zaC (c:DCode) (i:Nat):List Nat:=
 if (zal c i).op=9 then [] else if (zal c i).op=3 then [(zal c i).to.toNat] else if (zal c i).op=2∧(zal c i).to≠(i:Int)+1 then [i+1,(zal c i).to.toNat] else [i+1]
theorem zcJ {c:DCode} (hc:CodeR c) {i j:Nat} (hi:i<c.ins.length) (h:j∈zaC c i):j<c.ins.length∧zaw c j=zaw c i:=by
 have h9:=zrT hc (a:=(i:Int)) (by omega) (by omega);have hto:=zn3 hc (a:=(i:Int)) (by omega) (by omega);simp only [Int.toNat_natCast] at h9 hto;unfold zaC at h;split at h
 · cases h
 rename_i ho
 have h1:=h9 ho;have e1:((i+1:Nat):Int)=(i:Int)+1:=by omega
 split at h
 · rename_i h3
   simp only [List.mem_cons,List.not_mem_nil,or_false] at h;subst h;have h2:=hto (.inr h3);rw [Int.toNat_of_nonneg h2.1];exact ⟨by omega,h2.2.2⟩
 split at h
 · rename_i h2
   simp only [List.mem_cons,List.not_mem_nil,or_false] at h;rcases h with rfl | rfl
   · exact ⟨by omega,by rw [e1];exact h1.2⟩
   have h2:=hto (.inl h2.1);rw [Int.toNat_of_nonneg h2.1];exact ⟨by omega,h2.2.2⟩
 simp only [List.mem_cons,List.not_mem_nil,or_false] at h;subst h;exact ⟨by omega,by rw [e1];exact h1.2⟩
theorem zeh (c:DCode) (i:Nat):(zaC c i).length≤2:=by
 unfold zaC;split
 · simp
 split
 · simp
 split<;>simp
section
variable {P:Program} {w:World} {K:Value→World→Prop}
def vsI (l:List Int):List Value:=l.map λx=>.int .i64 x
theorem zmO {w:World}:∀ {l:List Int},(∀ x∈l,I64 x)→Cells [] w (vsI l) l
 | [],_=>⟨rfl,rfl⟩
 | x :: l,h=>⟨[],[],[.int .i64 x],vsI l,rfl,rfl,⟨rfl,rfl,h x (by simp)⟩,zmO λy hy=>h y (by simp [hy])⟩
theorem zvr {l:List Int} {e:Nat} (hl:∀ x∈l,I64 x) (hm:l.length≤maxLen):Own w.heap.size (w.alloc (.cells (vsI l).toArray e)) (.slice (some ⟨w.heap.size,0,none⟩) l.length l.length) l:=by
 have hB:Blk w.heap.size e (w.alloc (.cells (vsI l).toArray e)) (vsI l):=heap_alloc_new w _;refine ⟨[w.heap.size],⟨⟨_,⟨some ⟨w.heap.size,0,none⟩,l.length,[],vsI l,rfl,lr _,hm,zmO hl,.inr ⟨_,_,rfl,rfl,hB.range,?_⟩⟩,rfl⟩,by simp,λi hi=>?_⟩,by simp⟩
 · exact (Array.getElem?_eq_some_iff.1 hB).1
 simp only [List.mem_cons,List.not_mem_nil,or_false] at hi;subst hi;exact ⟨_,_,hB⟩
theorem zkz {t e:TypeId} {by_:Nat} {x y:Int} (ht:P.underlying t=some (.slice e)) (he:tyI P e=some (1,by_,false)) (hz:zcz P e=some [.int .i64 0]) (hx:I64 x) (hy:I64 y)
   (k:∀ v w',Ext w w'→Own w.heap.size w' v [x,y]→K v w'):OP P (Instr.buildSlice t 2 #[(0,.int .i64 x),(1,.int .i64 y)]) w K:=by
 unfold zcz at hz;cases hi:P.info? e with
 | none=>simp [hi] at hz
 | some i=>
   simp only [hi] at hz;obtain ⟨v,hv,hvc⟩:=Option.map_eq_some_iff.1 hz;refine ⟨_,w.alloc (.cells (vsI [x,y]).toArray e),?_,k _ _ (zaV w _) (zvr (l:=[x,y]) (e:=e) (by simp [hx,hy]) (by simp [maxLen]))⟩;have hvc':v.cells=#[.int .i64 0]:=Array.ext' (by simpa using hvc);have e1:∀ n:Int,(Value.int .i64 n).cells=#[.int .i64 n]:=λ_=>rfl;simp only [Instr.buildSlice,Sem.run_bind,run_underlying ht,Result.andThen_ok,za2 he];have e2:Array.range 2=#[0,1]:=by decide
   simp [zeroValue,typeInfo,hi,hv,newRow,Instr.fill,hvc',vsI,e1,e2]
end
theorem zw1:zcz tp 3=some [.int .i64 0]:=by kernel_rfl
theorem zg9 {w W0:World} {b:Nat} {c:DCode} {i:Nat} (hA:At W0 b 0 c) (e0:Ext W0 w) (hc:CodeR c) (hi:i<c.ins.length) :
   CALL tp 136 [.pointer (some ⟨b,0,none⟩),.int .i64 (i:Int)] w λr w'=>Ext w w'∧Own w.heap.size w' r (zaI (zaC c i)):=by
 refine F136_call ?_;unfold F136;have hil:=hc.f.ins;have hto:=zn3 hc (a:=(i:Int)) (by omega) (by omega);simp only [Int.toNat_natCast] at hto;refine NIL.mk rfl ?_;refine zab zaZ ?_;refine zab zaD ?_;refine zaa zcu (zai hA) e0 λv10 h10=>?_;refine zac u30 zaO h10 hi λb12 o12 h12=>?_;rw [zaz] at h12;have hnx:zaC c i=if (zal c i).op=9 then [] else if (zal c i).op=3 then [(zal c i).to.toNat] else if (zal c i).op=2∧(zal c i).to≠(i:Int)+1 then [i+1,(zal c i).to.toNat] else [i+1]:=rfl;generalize zal c i=I at *;refine zaa zaO h12 e0 λv13 h13=>?_;refine zb7 zfx rfl zaO rfl h13 e0 λw1 hx1 hA5 hV5=>?_;refine zab zaM ?_;refine zad ty3 (zav hA5) (Ext.refl _) λ_=>?_;refine zao ?_;refine br (λc9=>?_) (λc9=>?_)
 · rw [hnx,if_pos c9]
   exact ⟨hx1,zkZ rfl⟩
 rw [if_neg c9] at hnx;refine zao ?_;refine br (λc3=>?_) (λc3=>?_)
 · rw [if_pos c3] at hnx
   have ht:=hto (.inr c3);refine zab zcB ?_;refine zad ty3 (zbH hA5) (Ext.refl _) λhI=>?_;refine zcn (x:=I.to) u23 ty3 z3 (by decide) (zbh hI) λv w2 hx2 hr=>?_;refine ⟨hx1.t hx2,?_⟩;rw [hnx];have e:zaI [I.to.toNat]=[I.to]:=by simp [zaI,Int.toNat_of_nonneg ht.1]
   rw [e];have:=hx1.size;exact hr.own.own.mono (by omega)
 rw [if_neg c3] at hnx;have e1:zaI [i+1]=[((i+1:Nat):Int)]:=by simp [zaI]
 refine zao ?_;refine br (λc2=>?_) (λc2=>?_)
 · have ht:=hto (.inl c2)
   refine zab zcB ?_;refine zad ty3 (zbH hA5) (Ext.refl _) λhI=>?_;refine zas ?_;refine zaB ?_;refine br (λcn=>?_) (λcn=>?_)
   · rw [if_pos ⟨c2,by omega⟩] at hnx
     refine zas ?_;refine zab zcB ?_;refine zad ty3 (zbH hA5) (Ext.refl _) λ_=>?_;refine zkz u23 ty3 zw1 (by unfold I64;omega) hI λv w2 hx2 hr=>?_;refine ⟨hx1.t hx2,?_⟩;have e:zaI [i+1,I.to.toNat]=[((i+1:Nat):Int),I.to]:=by simp [zaI,Int.toNat_of_nonneg ht.1]
     rw [hnx,e];have:=hx1.size;exact hr.mono (by omega)
   rw [if_neg (λh=>cn (by have:=h.2;omega))] at hnx;refine zas ?_;refine zcn (x:=((i+1:Nat):Int)) u23 ty3 z3 (by decide) (zbh (by unfold I64;omega)) λv w2 hx2 hr=>?_;refine ⟨hx1.t hx2,?_⟩;rw [hnx,e1];have:=hx1.size;exact hr.own.own.mono (by omega)
 rw [if_neg (λh=>c2 h.1)] at hnx;refine zas ?_;refine zcn (x:=((i+1:Nat):Int)) u23 ty3 z3 (by decide) (zbh (by unfold I64;omega)) λv w2 hx2 hr=>?_;refine ⟨hx1.t hx2,?_⟩;rw [hnx,e1];have:=hx1.size;exact hr.own.own.mono (by omega)
theorem zhK {w W0:World} {v0:Value} {c:DCode} {i:Nat} (h0:Is W0 v0 c) (e0:Ext W0 w) (hc:CodeR c) (hi:i<c.ins.length) :
   CALL tp 179 [v0,.int .i64 (i:Int)] w λr w'=>Ext w w'∧Own w.heap.size w' r (zaI (zaC c i)):=by
 refine F179_call ?_;unfold F179;have hil:=hc.f.ins;have hto:=zn3 hc (a:=(i:Int)) (by omega) (by omega);simp only [Int.toNat_natCast] at hto;refine zbj h0 e0 λw0 hx0 hA=>?_;refine zab zaD ?_;refine zaa zcu (zai hA) (Ext.refl _) λv10 h10=>?_;refine zac u30 zaO h10 hi λb12 o12 h12=>?_;rw [zaz] at h12;have hnx:zaC c i=if (zal c i).op=9 then [] else if (zal c i).op=3 then [(zal c i).to.toNat] else if (zal c i).op=2∧(zal c i).to≠(i:Int)+1 then [i+1,(zal c i).to.toNat] else [i+1]:=rfl;generalize zal c i=I at *;refine zaa zaO h12 (Ext.refl _) λv13 h13=>?_;refine zb7 zfx rfl zaO rfl h13 (Ext.refl _) λw1 hx1 hA5 hV5=>?_;have hs0:=hx0.size;have hs1:=hx1.size;have hx01:=hx0.t hx1;have e1:zaI [i+1]=[((i+1:Nat):Int)]:=by simp [zaI]
 refine zab zaM ?_;refine zad ty3 (zav hA5) (Ext.refl _) λ_=>?_;refine zao ?_;refine br (λc2=>?_) (λc2=>?_)
 · have ht:=hto (.inl c2)
   rw [if_neg (by omega),if_neg (by omega)] at hnx;refine zab zcB ?_;refine zad ty3 (zbH hA5) (Ext.refl _) λhI=>?_;refine zas ?_;refine zao ?_;refine br (λcn=>?_) (λcn=>?_)
   · rw [if_neg (λh=>h.2 (by omega))] at hnx
     refine zas ?_;refine zcn (x:=((i+1:Nat):Int)) u23 ty3 z3 (by decide) (zbh (by unfold I64;omega)) λv w2 hx2 hr=>?_;refine ⟨hx01.t hx2,?_⟩;rw [hnx,e1];exact hr.own.own.mono (by omega)
   rw [if_pos ⟨c2,by omega⟩] at hnx;refine zas ?_;refine zab zcB ?_;refine zad ty3 (zbH hA5) (Ext.refl _) λ_=>?_;refine zkz u23 ty3 zw1 (by unfold I64;omega) hI λv w2 hx2 hr=>?_;refine ⟨hx01.t hx2,?_⟩;have e:zaI [i+1,I.to.toNat]=[((i+1:Nat):Int),I.to]:=by simp [zaI,Int.toNat_of_nonneg ht.1]
   rw [hnx,e];exact hr.mono (by omega)
 refine zao ?_;refine br (λc3=>?_) (λc3=>?_)
 · rw [if_neg (by omega),if_pos c3] at hnx
   have ht:=hto (.inr c3);refine zab zcB ?_;refine zad ty3 (zbH hA5) (Ext.refl _) λhI=>?_;refine zcn (x:=I.to) u23 ty3 z3 (by decide) (zbh hI) λv w2 hx2 hr=>?_;refine ⟨hx01.t hx2,?_⟩;rw [hnx];have e:zaI [I.to.toNat]=[I.to]:=by simp [zaI,Int.toNat_of_nonneg ht.1]
   rw [e];exact hr.own.own.mono (by omega)
 refine zao ?_;refine br (λc9=>?_) (λc9=>?_)
 · rw [if_pos c9] at hnx
   rw [hnx];refine zaH (α:=Int) u23 ty3 λa w2 hx2 hr=>?_;have hs2:=hx2.size;exact ⟨hx01.t hx2,hr.own.own.mono (by omega)⟩
 rw [if_neg c9,if_neg c3,if_neg (λh=>c2 h.1)] at hnx;refine zas ?_;refine zcn (x:=((i+1:Nat):Int)) u23 ty3 z3 (by decide) (zbh (by unfold I64;omega)) λv w2 hx2 hr=>?_;refine ⟨hx01.t hx2,?_⟩;rw [hnx,e1];exact hr.own.own.mono (by omega)
end Go.Proofs.YtifonhplnmpgaaaGreat
namespace Go.Sh
open Rep (rep)
section
variable {P:Program} {w w0 w':World} {α:Type} [Rep α] {lo hi e:Nat} {v:Value} {l:List α}
theorem RowG.flat [Flat α] {F:List Nat} (h:RowG F e w v l):F=[]∨∃ b,F=[b]:=by
 rcases h with ⟨_,_,_,rfl⟩ | ⟨xs,Fi,_,hc,rfl,_⟩
 · exact .inl rfl
 have:=Cells.flat (xs:=xs) hc;subst this;rcases hv:v.ownBlock with _ | b
 · exact .inl (by simp)
 exact .inr ⟨b,by simp⟩
theorem Chg.ofI {F:List Nat} (h:Chg F w w') (hF:∀ b∈F,lo≤b∧b<hi):ChgI lo hi w w':=
 ⟨h.os,h.tape,h.output,h.size,λb hb hx=>h.block b hb λhm=>by have:=hF b hm;omega⟩
theorem ChgI.ext_left {w1:World} (hx:Ext w w1) (h:ChgI lo hi w1 w'):ChgI lo hi w w':=
 ⟨h.os.trans hx.os,h.tape.trans hx.tape,h.output.trans hx.output,Nat.le_trans hx.size h.size,λb hb ho=>by rw [h.block b (Nat.lt_of_lt_of_le hb hx.size) ho,hx.block b hb]⟩
theorem zcS [Flat α] {t ty:TypeId} {by_:Nat} {u:Value} {x:α} {lo2 hi2:Nat} {K:Value→World→Prop} (ht:P.underlying t=some (.slice e)) (he:tyI P e=some (Rep.size α,by_,Rep.agg α)) (hz:zbO P e=true)
   (hzc:(P.info? e).map (λi=>(i.zero.map (·.cells.size)))=some (some (Rep.size α))) (hsz:Rep.size α≤1000) (hv:RowI lo hi e w v l) (hx:OwnI lo2 hi2 w u x) (hm:l.length+1≤maxLen) (hb:(l.length+1)*by_≤140737488355328)
   (k:∀ v' w' lo' hi',ChgI lo hi w w'→RowI lo' hi' e w' v' (l++[x])→(lo'=lo∧hi'=hi∨lo'=w.heap.size∧hi'=w'.heap.size)→K v' w'):OP P (Instr.buildSlice t 1 #[(0,u)]) w λs w1=>OP P (Builtin.append_ #[t,t] ty [v,s].toArray) w1 K:=by
 obtain ⟨F,h1,h2,h3⟩:=zit.1 hv;obtain ⟨G,hmx,hG⟩:=hx;have hGn:G=[]:=by obtain ⟨cs,hr,_⟩:=hmx.own;exact Flat.flat hr
 subst hGn;refine zgY (K:=λ_=>K) ht he hz hzc hsz h1 h2 hmx (by simp) hm hb (λw1 v' w' G' hx1 hc hR hN hs=>?_) λ_ _ _ h=>h;have hcI:=ChgI.ext_left hx1 (hc.ofI h3);have hlt:=hR.lt;rcases hR.flat with rfl | ⟨b,rfl⟩
 · exact k v' w' lo hi hcI (zit.2 ⟨[],hR,hN,by simp⟩) (.inl ⟨rfl,rfl⟩)
 rcases hs b (by simp) with h | h | h
 · exact k v' w' lo hi hcI (zit.2 ⟨[b],hR,hN,λc hc=>by simp at hc;subst hc;exact h3 _ h⟩) (.inl ⟨rfl,rfl⟩)
 · cases h
 exact k v' w' w.heap.size w'.heap.size hcI (zit.2 ⟨[b],hR,hN,λc hc=>by simp at hc;subst hc;exact ⟨h,hlt _ (by simp)⟩⟩) (.inr ⟨rfl,rfl⟩)
end
end Go.Sh
