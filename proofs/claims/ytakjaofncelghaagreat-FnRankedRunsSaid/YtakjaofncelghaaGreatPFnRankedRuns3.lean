/-
  Parts of the proof, put together by program.
-/
import Derived.Test.YtakjaofncelghaaGreatPFnRankedRuns2
set_option linter.unusedVariables false
set_option linter.unusedSimpArgs false
set_option linter.unusedSectionVars false
namespace Go.Proofs.YtakjaofncelghaaGreat
open Go Go.Sh Go.Proofs
open Rep (rep)
def zx8:DIns:=⟨0,0,term0,0⟩
def en (c:DCode) (i:Nat):Int:=c.entry.getD i 0
def zan (c:DCode) (j:Nat):DIns:=c.ins.getD j zx8
theorem zbr {c:DCode} {i:Nat} (h:i<c.entry.length):c.entry[i]=en c i:=by unfold en;rw [List.getD_eq_getElem?_getD,List.getElem?_eq_getElem h];rfl
theorem zaE {c:DCode} {i:Nat} (h:i<c.ins.length):c.ins[i]=zan c i:=by unfold zan;rw [List.getD_eq_getElem?_getD,List.getElem?_eq_getElem h];rfl
def prc (c:DCode) (a:Int):Nat→Int
 | 0=>-1
 | n+1=>if en c n≤a then n else prc c a n
def zaH (c:DCode) (a:Int):Int:=prc c a c.entry.length
theorem ziS {c:DCode} {a:Int} {m:Nat}:∀ {n:Nat},m≤n→(∀ j,m≤j→j<n→a<en c j)→prc c a n=prc c a m
 | 0,h,_=>by rw [Nat.le_zero.1 h]
 | n+1,h,hj=>by
   by_cases e:m=n+1
   · rw [e]
   rw [prc,if_neg (by have:=hj n (by omega) (by omega);omega)];exact ziS (by omega) λj h1 h2=>hj j h1 (by omega)
theorem zvc {c:DCode} {a:Int}:∀ (n:Nat),-1≤prc c a n∧prc c a n<n
 | 0=>by simp [prc]
 | n+1=>by
   have:=zvc (c:=c) (a:=a) n;rw [prc];split<;>omega
theorem zha {c:DCode} {a:Int}:-1≤zaH c a∧zaH c a<c.entry.length:=zvc _
def zeU (c:DCode) (p:Int):Int:=if p+1<c.entry.length then en c (p+1).toNat-1 else (c.ins.length:Int)-1
def zdL (c:DCode) (i:Nat):Int:=if i+1<c.entry.length then en c (i+1) else c.ins.length
theorem zds (c:DCode) (i:Nat):zeU c i=zdL c i-1:=by
 unfold zeU zdL;have e:((i:Int)+1).toNat=i+1:=by omega
 by_cases h:i+1<c.entry.length
 · rw [if_pos (by omega),if_pos h,e]
 rw [if_neg (by omega),if_neg h]
def F107 (a0 a1:Value) (w:World) (R:VW):Prop:=
 oX 28 a0 w λx2 w=>
 rF 28 x2 3 w λx6=>
 rL 25 x6 w λx7=>
 rN 25 3 x7 w λx8=>
 rB .sub 3 T0 U0 x8 (iV 1) w λx9=>
 LOOPI [5] [x9] w λu2 w n2=>
 rB .geq 3 T0 U0 (u2 5) (iV 0) w λx11=>
 BR x11
 (rF 28 x2 3 w λx14=>
 rL 25 x14 w λx15=>
 rX 25 x15 (u2 5) w λx17=>
 rL 3 x17 w λx18=>
 rB .leq 3 T0 T0 x18 a1 w λx20=>
 BR x20
 (R (u2 5) w)
 (rB .sub 3 T0 U0 (u2 5) (iV 1) w λx13=>
 n2 [x13] w))
 (R (iV (-1)) w)
theorem F107_call {a0 a1 w R} (h:F107 a0 a1 w R):cL 107 [a0,a1] w R:=co (g:=(kf [] [(2,4193328,[5])] [])) Tryz.func107 h
theorem zhR {w:World} {v0:Value} {W0:World} {c:DCode} {a:Int}  (h0:Is W0 v0 c) (e0:Ext W0 w)  :
   CALL tp 107 [v0,.int .i64 a] w λr w'=>Ext w w'∧(r=.int .i64 (zaH c a)):=by
 refine F107_call ?_;unfold F107;refine zao zcv rfl h0 e0 λw1_ η1 hA2 hV2=>?_;refine zaa za7 ?_;refine zab zaK (zap hA2) (Ext.refl w1_) λv7 h7=>?_;have hln8:=zah h7;refine zae u25 h7 ?_;refine za0 (by unfold I64;omega) ?_;refine zat (c.entry.length) (λk us w'=>us=[.int .i64 ((c.entry.length:Int)-1-(k:Int))]∧Ext w1_ w'∧(∀ j,c.entry.length-k≤j→j<c.entry.length→a<en c j)) (0) (by omega) ⟨by simp,Ext.refl w1_,λj h1 h2=>by omega⟩ ?_;rintro k m2 uu2 w2_ hk2 ⟨hu,η2,hinv⟩;try replace hu:=zbG hu
 try rw [hu]
 try clear hu
 have hln:=zah h7;refine zbW ?_;refine br (λc1=>?_) (λc1=>?_)
 · refine zaa za7 ?_
   refine zab zaK (zap hA2) η2 λv15 h15=>?_;refine zax u25 ty3 h15 (by omega) (by omega) λb17 o17 h17=>?_;have hn17:((c.entry.length:Int)-1-(k:Int)).toNat=c.entry.length-k-1:=by omega
   simp only [hn17] at h17;refine zac ty3 h17 η2 λhI18=>?_;refine zdZ ?_;refine br (λc2=>?_) (λc2=>?_)
   · refine ⟨(η1.t η2),?_⟩
     rw [zbr] at c2;unfold zaH;rw [ziS (m:=c.entry.length-k) (by omega) hinv,show c.entry.length-k=(c.entry.length-k-1)+1 by omega,prc,if_pos c2];congr 1;omega
   refine za0 (by unfold I64;omega) ?_;refine ⟨m2-1,by omega,k+1,by omega,by simp;omega,η2,?_⟩;intro j h1 h2;by_cases hj:j=c.entry.length-k-1
   · subst hj
     rw [zbr] at c2;omega
   exact hinv j (by omega) h2
 refine ⟨(η1.t η2),?_⟩;unfold zaH;rw [ziS (m:=c.entry.length-k) (by omega) hinv,show c.entry.length-k=0 by omega];rfl
def F150 (a0 a1:Value) (w:World) (R:VW):Prop:=
 oX 28 a0 w λx2 w=>
 rI a1 w λx6=>
 rF 28 x2 3 w λx7=>
 rL 25 x7 w λx8=>
 rN 25 3 x8 w λx9=>
 rC x6 x9 w λx10=>
 BR x10
 (rF 28 x2 3 w λx11=>
 rL 25 x11 w λx12=>
 rI a1 w λx14=>
 rX 25 x12 x14 w λx15=>
 rL 3 x15 w λx16=>
 rB .sub 3 T0 U0 x16 (iV 1) w λx17=>
 R x17 w)
 (rF 28 x2 4 w λx18=>
 rL 26 x18 w λx19=>
 rN 26 3 x19 w λx20=>
 rB .sub 3 T0 U0 x20 (iV 1) w λx21=>
 R x21 w)
theorem F150_call {a0 a1 w R} (h:F150 a0 a1 w R):cL 150 [a0,a1] w R:=co (g:=(kf [] [] [])) Tryz.func150 h
theorem zjw {w:World} {v0:Value} {W0:World} {c:DCode} {p:Int}  (h0:Is W0 v0 c) (e0:Ext W0 w) (hp0:-1≤p) (hp1:p<1000000000000) (hE:∀ i,i<c.entry.length→0≤en c i) :
   CALL tp 150 [v0,.int .i64 p] w λr w'=>Ext w w'∧(r=.int .i64 (zeU c p)):=by
 refine F150_call ?_;unfold F150;refine zao zcv rfl h0 e0 λw1_ η1 hA2 hV2=>?_;refine zcG (by unfold I64;omega) ?_;refine zaa za7 ?_;refine zab zaK (zap hA2) (Ext.refl w1_) λv8 h8=>?_;have hln9:=zah h8;refine zae u25 h8 ?_;refine zaf ?_;refine br (λc1=>?_) (λc1=>?_)
 · refine zaa za7 ?_
   refine zab zaK (zap hA2) (Ext.refl w1_) λv12 h12=>?_;refine zcG (by unfold I64;omega) ?_;refine zax u25 ty3 h12 (by omega) (by omega) λb15 o15 h15=>?_;refine zac ty3 h15 (Ext.refl w1_) λhI16=>?_;have hE1:=hE (p+1).toNat (by omega);rw [←zbr (by omega)] at hE1;refine za0 (by unfold I64 at *;omega) ?_;refine ⟨η1,?_⟩;unfold zeU;rw [if_pos c1,zbr]
 refine zaa zaR ?_;refine zab zdn (zal hA2) (Ext.refl w1_) λv19 h19=>?_;have hln20:=zah h19;refine zae u26 h19 ?_;refine za0 (by unfold I64;have:=zah h19;omega) ?_;refine ⟨η1,?_⟩;unfold zeU;rw [if_neg c1]
def zgr:ByteArray:=ByteArray.mk #[109,97,105,110]
def NamesR (c:DCode):Prop:=(decide ((c.globals.length:Int)≤6)&&c.globals.all zbk)=true∧(decide ((c.locks.length:Int)≤6)&&c.locks.all zbk)=true∧(decide ((c.procs.length:Int)≤8)&&c.procs.all zbk)=true ∧
 c.globals.Nodup∧c.locks.Nodup∧c.procs.Nodup∧zgr∈c.procs
instance (c:DCode):Decidable (NamesR c):=by unfold NamesR;infer_instance
def EntS (c:DCode):Prop:=c.entry.length=c.procs.length∧c.ins.length≤1500∧(∀ i,i<c.entry.length→(i=0→en c 0=0)∧(0<i→en c (i-1)<en c i)∧en c i<c.ins.length) ∧
 ∀ j,j<c.ins.length→((zan c j).op=9↔zeU c (zaH c j)=j)
instance (c:DCode):Decidable (EntS c):=by unfold EntS;infer_instance
theorem zd7 {P:Nat→Prop} {k:Nat} (h:∀ i,i<k→P i) (hk:P k):∀ i,i<k+1→P i:=λi hi=>by
 by_cases e:i=k
 · rw [e];exact hk
 exact h i (by omega)
theorem zhS {c:DCode} {n:Nat} {m:Int} (h:∀ i,i<n→(i=0→en c 0=0)∧(0<i→en c (i-1)<en c i)∧en c i<m):∀ i,i<n→0≤en c i
 | 0,hi=>by rw [(h 0 hi).1 rfl];omega
 | i+1,hi=>by
   have h1:=zhS h i (by omega);have h2:=(h (i+1) hi).2.1 (by omega);simp only [Nat.add_sub_cancel] at h2;omega
def F84 (a0:Value) (w:World) (R:VW):Prop:=
 oX 28 a0 w λx1 w=>
 rF 28 x1 0 w λx5=>
 rL 24 x5 w λx6=>
 cL 148 [x6,(iV 6)] w λx7 w=>
 rT x7 w λx8=>
 BR x8
 (R vF w)
 (rF 28 x1 1 w λx10=>
 rL 24 x10 w λx11=>
 cL 148 [x11,(iV 6)] w λx12 w=>
 rT x12 w λx13=>
 BR x13
 (R vF w)
 (rF 28 x1 2 w λx16=>
 rL 24 x16 w λx17=>
 cL 148 [x17,(iV 8)] w λx18 w=>
 rT x18 w λx19=>
 BR x19
 (R vF w)
 (rF 28 x1 0 w λx22=>
 rL 24 x22 w λx23=>
 cL 149 [x23] w λx24 w=>
 BR x24
 (R vF w)
 (rF 28 x1 1 w λx27=>
 rL 24 x27 w λx28=>
 cL 149 [x28] w λx29 w=>
 BR x29
 (R vF w)
 (rF 28 x1 2 w λx32=>
 rL 24 x32 w λx33=>
 cL 149 [x33] w λx34 w=>
 BR x34
 (R vF w)
 (rF 28 x1 3 w λx37=>
 rL 25 x37 w λx38=>
 rN 25 3 x38 w λx39=>
 rF 28 x1 2 w λx40=>
 rL 24 x40 w λx41=>
 rN 24 3 x41 w λx42=>
 rB .neq 3 T0 T0 x39 x42 w λx43=>
 BR x43
 (R vF w)
 (rF 28 x1 4 w λx46=>
 rL 26 x46 w λx47=>
 rN 26 3 x47 w λx48=>
 rB .gtr 3 T0 U0 x48 (iV 1500) w λx49=>
 BR x49
 (R vF w)
 (rF 28 x1 2 w λx52=>
 rL 24 x52 w λx53=>
 cL 89 [x53,(Value.string (ByteArray.mk #[109,97,105,110]))] w λx54 w=>
 rB .lss 3 T0 U0 x54 (iV 0) w λx55=>
 BR x55
 (R vF w)
 (LOOPI [3] [(iV 0)] w λu4 w n4=>
 rF 28 x1 3 w λx58=>
 rL 25 x58 w λx59=>
 rN 25 3 x59 w λx60=>
 rC (u4 3) x60 w λx61=>
 BR x61
 ((λw=>rQ (u4 3) (iV 0) w λx65=>
 BR x65
 (rF 28 x1 3 w λx67=>
 rL 25 x67 w λx68=>
 rX 25 x68 (iV 0) w λx69=>
 rL 3 x69 w λx70=>
 rB .neq 3 T0 U0 x70 (iV 0) w λx71=>
 BR x71
 (R vF w)
 (rB .gtr 3 T0 U0 (u4 3) (iV 0) w λx75=>
 GBR x75
 (rF 28 x1 3 w λx77=>
 rL 25 x77 w λx78=>
 rX 25 x78 (u4 3) w λx80=>
 rL 3 x80 w λx81=>
 rF 28 x1 3 w λx82=>
 rL 25 x82 w λx83=>
 rB .sub 3 T0 U0 (u4 3) (iV 1) w λx85=>
 rX 25 x83 x85 w λx86=>
 rL 3 x86 w λx87=>
 rB .leq 3 T0 T0 x81 x87 w λx88=>
 BR x88
 (R vF w)
 (rF 28 x1 3 w λx92=>
 rL 25 x92 w λx93=>
 rX 25 x93 (u4 3) w λx95=>
 rL 3 x95 w λx96=>
 rF 28 x1 4 w λx97=>
 rL 26 x97 w λx98=>
 rN 26 3 x98 w λx99=>
 rB .geq 3 T0 T0 x96 x99 w λx100=>
 BR x100
 (R vF w)
 (rI (u4 3) w λx63=>
 n4 [x63] w)))
 (rF 28 x1 3 w λx92=>
 rL 25 x92 w λx93=>
 rX 25 x93 (u4 3) w λx95=>
 rL 3 x95 w λx96=>
 rF 28 x1 4 w λx97=>
 rL 26 x97 w λx98=>
 rN 26 3 x98 w λx99=>
 rB .geq 3 T0 T0 x96 x99 w λx100=>
 BR x100
 (R vF w)
 (rI (u4 3) w λx63=>
 n4 [x63] w))
 (BR undef
 (BR undef
 (R vF w)
 (rF 28 x1 3 w λx92=>
 rL 25 x92 w λx93=>
 rX 25 x93 (u4 3) w λx95=>
 rL 3 x95 w λx96=>
 rF 28 x1 4 w λx97=>
 rL 26 x97 w λx98=>
 rN 26 3 x98 w λx99=>
 rB .geq 3 T0 T0 x96 x99 w λx100=>
 BR x100
 (R vF w)
 (rI (u4 3) w λx63=>
 n4 [x63] w)))
 (rF 28 x1 3 w λx92=>
 rL 25 x92 w λx93=>
 rX 25 x93 (u4 3) w λx95=>
 rL 3 x95 w λx96=>
 rF 28 x1 4 w λx97=>
 rL 26 x97 w λx98=>
 rN 26 3 x98 w λx99=>
 rB .geq 3 T0 T0 x96 x99 w λx100=>
 BR x100
 (R vF w)
 (rI (u4 3) w λx63=>
 n4 [x63] w)))))
 (rB .gtr 3 T0 U0 (u4 3) (iV 0) w λx75=>
 GBR x75
 (rF 28 x1 3 w λx77=>
 rL 25 x77 w λx78=>
 rX 25 x78 (u4 3) w λx80=>
 rL 3 x80 w λx81=>
 rF 28 x1 3 w λx82=>
 rL 25 x82 w λx83=>
 rB .sub 3 T0 U0 (u4 3) (iV 1) w λx85=>
 rX 25 x83 x85 w λx86=>
 rL 3 x86 w λx87=>
 rB .leq 3 T0 T0 x81 x87 w λx88=>
 BR x88
 (R vF w)
 (rF 28 x1 3 w λx92=>
 rL 25 x92 w λx93=>
 rX 25 x93 (u4 3) w λx95=>
 rL 3 x95 w λx96=>
 rF 28 x1 4 w λx97=>
 rL 26 x97 w λx98=>
 rN 26 3 x98 w λx99=>
 rB .geq 3 T0 T0 x96 x99 w λx100=>
 BR x100
 (R vF w)
 (rI (u4 3) w λx63=>
 n4 [x63] w)))
 (rF 28 x1 3 w λx92=>
 rL 25 x92 w λx93=>
 rX 25 x93 (u4 3) w λx95=>
 rL 3 x95 w λx96=>
 rF 28 x1 4 w λx97=>
 rL 26 x97 w λx98=>
 rN 26 3 x98 w λx99=>
 rB .geq 3 T0 T0 x96 x99 w λx100=>
 BR x100
 (R vF w)
 (rI (u4 3) w λx63=>
 n4 [x63] w))
 (BR undef
 (BR undef
 (R vF w)
 (rF 28 x1 3 w λx92=>
 rL 25 x92 w λx93=>
 rX 25 x93 (u4 3) w λx95=>
 rL 3 x95 w λx96=>
 rF 28 x1 4 w λx97=>
 rL 26 x97 w λx98=>
 rN 26 3 x98 w λx99=>
 rB .geq 3 T0 T0 x96 x99 w λx100=>
 BR x100
 (R vF w)
 (rI (u4 3) w λx63=>
 n4 [x63] w)))
 (rF 28 x1 3 w λx92=>
 rL 25 x92 w λx93=>
 rX 25 x93 (u4 3) w λx95=>
 rL 3 x95 w λx96=>
 rF 28 x1 4 w λx97=>
 rL 26 x97 w λx98=>
 rN 26 3 x98 w λx99=>
 rB .geq 3 T0 T0 x96 x99 w λx100=>
 BR x100
 (R vF w)
 (rI (u4 3) w λx63=>
 n4 [x63] w))))) (World.drew1 w))
 (LOOPI [4] [(iV 0)] w λu9 w n9=>
 rF 28 x1 4 w λx103=>
 rL 26 x103 w λx104=>
 rN 26 3 x104 w λx105=>
 rC (u9 4) x105 w λx106=>
 BR x106
 ((λw=>rF 28 x1 4 w λx109=>
 rL 26 x109 w λx110=>
 rX 26 x110 (u9 4) w λx112=>
 rF 118 x112 0 w λx113=>
 rL 3 x113 w λx114=>
 rQ x114 (iV 9) w λx115=>
 rL 28 x1 w λx116=>
 rL 28 x1 w λx117=>
 (λw_=>cL 107 [x117,(u9 4)] w_ λx119 w=>
 Ext w_ w ∧
 (λw_=>cL 150 [x116,x119] w_ λx120 w=>
 Ext w_ w ∧
 rB .eql 3 T0 T0 x120 (u9 4) w λx122=>
 rB .neq 4 T0 T0 x115 x122 w λx123=>
 BR x123
 (R vF w)
 (rI (u9 4) w λx108=>
 n9 [x108] w)) w) w) (World.drew1 w))
 (R vT w)))))))))))
theorem F84_call {a0 w R} (h:F84 a0 w R):cL 84 [a0] w R:=co (g:=(kf [] [(4,5070602400912773490798736965644,[3]),(9,21267642861956253053543306977672691732,[4])] [(6,[0,1,2,3,4,5,6,7,8,9,10,11,12,13,14,15,16,17,18,19,20,21,22,23,24,25,26,27,28,29,30,31,32,33,34,35,36,37],0),(11,[0,1,2,3,4,5,6,7,8,9,12,10,11,13,14],3072)])) Tryz.func84 h
theorem zoy {w:World} {v0:Value} {W0:World} {c:DCode}  (h0:Is W0 v0 c) (e0:Ext W0 w)  :
   CALL tp 84 [v0] w λr w'=>Ext w w'∧(r=.bool (decide (NamesR c∧EntS c))):=by
 refine F84_call ?_;unfold F84;refine zao zcv rfl h0 e0 λw1_ η1 hA1 hV1=>?_;refine zaa zdR ?_;refine zab zc0 (zbe hA1) (Ext.refl w1_) λv6 h6=>?_;refine (zeo h6 (Ext.refl w1_)).mono ?_;rintro _ w2_ ⟨η2,rfl⟩;refine za1 ?_;refine zcd (λc1=>?_) (λc1=>?_)
 · refine ⟨(η1.t η2),?_⟩
   have:¬(NamesR c∧EntS c):=λh=>by rw [h.1.1] at c1;cases c1
   simp only [this,decide_false]
 refine zaa zdD ?_;refine zab zc0 (zba hA1) η2 λv11 h11=>?_;refine (zeo h11 η2).mono ?_;rintro _ w3_ ⟨η3,rfl⟩;refine za1 ?_;refine zcd (λc2=>?_) (λc2=>?_)
 · refine ⟨(η1.t (η2.t η3)),?_⟩
   have:¬(NamesR c∧EntS c):=λh=>by rw [h.1.2.1] at c2;cases c2
   simp only [this,decide_false]
 refine zaa zdd ?_;refine zab zc0 (zbb hA1) (η2.t η3) λv17 h17=>?_;refine (zeo h17 (η2.t η3)).mono ?_;rintro _ w4_ ⟨η4,rfl⟩;refine za1 ?_;refine zcd (λc3=>?_) (λc3=>?_)
 · refine ⟨(η1.t (η2.t (η3.t η4))),?_⟩
   have:¬(NamesR c∧EntS c):=λh=>by rw [h.1.2.2.1] at c3;cases c3
   simp only [this,decide_false]
 refine zaa zdR ?_;refine zab zc0 (zbe hA1) (η2.t (η3.t η4)) λv23 h23=>?_;refine (zdG h23 (η2.t (η3.t η4))).mono ?_;rintro _ w5_ ⟨η5,rfl⟩;refine br (λc4=>?_) (λc4=>?_)
 · refine ⟨(η1.t (η2.t (η3.t (η4.t η5)))),?_⟩
   have:¬(NamesR c∧EntS c):=λh=>c4 h.1.2.2.2.1;simp only [this,decide_false]
 refine zaa zdD ?_;refine zab zc0 (zba hA1) (η2.t (η3.t (η4.t η5))) λv28 h28=>?_;refine (zdG h28 (η2.t (η3.t (η4.t η5)))).mono ?_;rintro _ w6_ ⟨η6,rfl⟩;refine br (λc5=>?_) (λc5=>?_)
 · refine ⟨(η1.t (η2.t (η3.t (η4.t (η5.t η6))))),?_⟩
   have:¬(NamesR c∧EntS c):=λh=>c5 h.1.2.2.2.2.1;simp only [this,decide_false]
 refine zaa zdd ?_;refine zab zc0 (zbb hA1) (η2.t (η3.t (η4.t (η5.t η6)))) λv33 h33=>?_;refine (zdG h33 (η2.t (η3.t (η4.t (η5.t η6))))).mono ?_;rintro _ w7_ ⟨η7,rfl⟩;refine br (λc6=>?_) (λc6=>?_)
 · refine ⟨(η1.t (η2.t (η3.t (η4.t (η5.t (η6.t η7)))))),?_⟩
   have:¬(NamesR c∧EntS c):=λh=>c6 h.1.2.2.2.2.2.1;simp only [this,decide_false]
 refine zaa za7 ?_;refine zab zaK (zap hA1) (η2.t (η3.t (η4.t (η5.t (η6.t η7))))) λv38 h38=>?_;have hln39:=zah h38;refine zae u25 h38 ?_;refine zaa zdd ?_;refine zab zc0 (zbb hA1) (η2.t (η3.t (η4.t (η5.t (η6.t η7))))) λv41 h41=>?_;have hln42:=zah h41;refine zae u24 h41 ?_;refine zaV ?_;refine br (λc7=>?_) (λc7=>?_)
 · refine ⟨(η1.t (η2.t (η3.t (η4.t (η5.t (η6.t η7)))))),?_⟩
   have:¬(NamesR c∧EntS c):=λh=>c7 (by rw [h.2.1]);simp only [this,decide_false]
 refine zaa zaR ?_;refine zab zdn (zal hA1) (η2.t (η3.t (η4.t (η5.t (η6.t η7))))) λv47 h47=>?_;have hln48:=zah h47;refine zae u26 h47 ?_;refine zb1 ?_;refine br (λc8=>?_) (λc8=>?_)
 · refine ⟨(η1.t (η2.t (η3.t (η4.t (η5.t (η6.t η7)))))),?_⟩
   have:¬(NamesR c∧EntS c):=λh=>by have:=h.2.2.1;omega
   simp only [this,decide_false]
 refine zaa zdd ?_;refine zab zc0 (zbb hA1) (η2.t (η3.t (η4.t (η5.t (η6.t η7))))) λv53 h53=>?_;refine (zb9 h53 (η2.t (η3.t (η4.t (η5.t (η6.t η7)))))).mono ?_;rintro _ w8_ ⟨η8,rfl⟩;refine zaf ?_;refine br (λc9=>?_) (λc9=>?_)
 · refine ⟨(η1.t (η2.t (η3.t (η4.t (η5.t (η6.t (η7.t η8))))))),?_⟩
   have:¬(NamesR c∧EntS c):=λh=>by have:=zeS.2 h.1.2.2.2.2.2.2;unfold zgr at this;omega
   simp only [this,decide_false]
 refine zat (c.entry.length) (λk us w'=>us=[.int .i64 (k:Int)]∧Ext w8_ w'∧(∀ i,i<k→(i=0→en c 0=0)∧(0<i→en c (i-1)<en c i)∧en c i<c.ins.length)) (0) (by omega) ⟨by simp,Ext.refl w8_,λi h=>by omega⟩ ?_;rintro k m4 uu4 w9_ hk4 ⟨hu,η9,hent⟩;try replace hu:=zbG hu
 try rw [hu]
 try clear hu
 refine zaa za7 ?_;refine zab zaK (zap hA1) (η2.t (η3.t (η4.t (η5.t (η6.t (η7.t (η8.t η9))))))) λv59 h59=>?_;have hln60:=zah h59;refine zae u25 h59 ?_;refine zaf ?_;refine br (λc10=>?_) (λc10=>?_)
 · have η10:=zai w9_
   refine zag ?_;refine br (λc11=>?_) (λc11=>?_)
   · refine zaa za7 ?_
     refine zab zaK (zap hA1) (η2.t (η3.t (η4.t (η5.t (η6.t (η7.t (η8.t (η9.t η10)))))))) λv68 h68=>?_;refine zax u25 ty3 h68 (by omega) (by omega) λb69 o69 h69=>?_;refine zac ty3 h69 (η2.t (η3.t (η4.t (η5.t (η6.t (η7.t (η8.t (η9.t η10)))))))) λhI70=>?_;refine zaV ?_;refine br (λc12=>?_) (λc12=>?_)
     · refine ⟨(η1.t (η2.t (η3.t (η4.t (η5.t (η6.t (η7.t (η8.t (η9.t η10))))))))),?_⟩
       rw [zbr] at c12;have:¬(NamesR c∧EntS c):=λh=>c12 ((h.2.2.2.1 0 (by omega)).1 rfl);simp only [this,decide_false]
     refine zb1 ?_;refine gbr (λc13=>?_) (λc13=>?_)
     · refine zaa za7 ?_
       refine zab zaK (zap hA1) (η2.t (η3.t (η4.t (η5.t (η6.t (η7.t (η8.t (η9.t η10)))))))) λv78 h78=>?_;refine zad u25 ty3 h78 (by omega) λb80 o80 h80=>?_;refine zac ty3 h80 (η2.t (η3.t (η4.t (η5.t (η6.t (η7.t (η8.t (η9.t η10)))))))) λhI81=>?_;refine zaa za7 ?_;refine zab zaK (zap hA1) (η2.t (η3.t (η4.t (η5.t (η6.t (η7.t (η8.t (η9.t η10)))))))) λv83 h83=>?_;refine za0 (by unfold I64;omega) ?_;refine zax u25 ty3 h83 (by omega) (by omega) λb86 o86 h86=>?_;refine zac ty3 h86 (η2.t (η3.t (η4.t (η5.t (η6.t (η7.t (η8.t (η9.t η10)))))))) λhI87=>?_;have hn86:((k:Int)-1).toNat=k-1:=by omega
       refine zdZ ?_;refine br (λc14=>?_) (λc14=>?_)
       · refine ⟨(η1.t (η2.t (η3.t (η4.t (η5.t (η6.t (η7.t (η8.t (η9.t η10))))))))),?_⟩
         exact absurd c11 (by omega)
       refine zaa za7 ?_;refine zab zaK (zap hA1) (η2.t (η3.t (η4.t (η5.t (η6.t (η7.t (η8.t (η9.t η10)))))))) λv93 h93=>?_;refine zad u25 ty3 h93 (by omega) λb95 o95 h95=>?_;refine zac ty3 h95 (η2.t (η3.t (η4.t (η5.t (η6.t (η7.t (η8.t (η9.t η10)))))))) λhI96=>?_;refine zaa zaR ?_;refine zab zdn (zal hA1) (η2.t (η3.t (η4.t (η5.t (η6.t (η7.t (η8.t (η9.t η10)))))))) λv98 h98=>?_;have hln99:=zah h98;refine zae u26 h98 ?_;refine zbW ?_;refine br (λc15=>?_) (λc15=>?_)
       · refine ⟨(η1.t (η2.t (η3.t (η4.t (η5.t (η6.t (η7.t (η8.t (η9.t η10))))))))),?_⟩
         exact absurd c11 (by omega)
       refine zaB ?_;refine ⟨m4-1,by omega,k+1,by omega,by simp,(η9.t η10),?_⟩;exact absurd c11 (by omega)
     refine zaa za7 ?_;refine zab zaK (zap hA1) (η2.t (η3.t (η4.t (η5.t (η6.t (η7.t (η8.t (η9.t η10)))))))) λv93 h93=>?_;refine zad u25 ty3 h93 (by omega) λb95 o95 h95=>?_;refine zac ty3 h95 (η2.t (η3.t (η4.t (η5.t (η6.t (η7.t (η8.t (η9.t η10)))))))) λhI96=>?_;refine zaa zaR ?_;refine zab zdn (zal hA1) (η2.t (η3.t (η4.t (η5.t (η6.t (η7.t (η8.t (η9.t η10)))))))) λv98 h98=>?_;have hln99:=zah h98;refine zae u26 h98 ?_;refine zbW ?_;refine br (λc16=>?_) (λc16=>?_)
     · refine ⟨(η1.t (η2.t (η3.t (η4.t (η5.t (η6.t (η7.t (η8.t (η9.t η10))))))))),?_⟩
       rw [zbr] at c16;have:¬(NamesR c∧EntS c):=λh=>by have:=(h.2.2.2.1 k (by omega)).2.2;omega
       simp only [this,decide_false]
     refine zaB ?_;refine ⟨m4-1,by omega,k+1,by omega,by simp,(η9.t η10),?_⟩;rw [zbr] at c16 c12;have hk0:k=0:=by omega
     subst hk0;exact zd7 hent ⟨λ_=>Decidable.not_not.1 c12,λh=>by omega,by omega⟩
   refine zb1 ?_;refine gbr (λc17=>?_) (λc17=>?_)
   · refine zaa za7 ?_
     refine zab zaK (zap hA1) (η2.t (η3.t (η4.t (η5.t (η6.t (η7.t (η8.t (η9.t η10)))))))) λv78 h78=>?_;refine zad u25 ty3 h78 (by omega) λb80 o80 h80=>?_;refine zac ty3 h80 (η2.t (η3.t (η4.t (η5.t (η6.t (η7.t (η8.t (η9.t η10)))))))) λhI81=>?_;refine zaa za7 ?_;refine zab zaK (zap hA1) (η2.t (η3.t (η4.t (η5.t (η6.t (η7.t (η8.t (η9.t η10)))))))) λv83 h83=>?_;refine za0 (by unfold I64;omega) ?_;refine zax u25 ty3 h83 (by omega) (by omega) λb86 o86 h86=>?_;refine zac ty3 h86 (η2.t (η3.t (η4.t (η5.t (η6.t (η7.t (η8.t (η9.t η10)))))))) λhI87=>?_;have hn86:((k:Int)-1).toNat=k-1:=by omega
     refine zdZ ?_;refine br (λc18=>?_) (λc18=>?_)
     · refine ⟨(η1.t (η2.t (η3.t (η4.t (η5.t (η6.t (η7.t (η8.t (η9.t η10))))))))),?_⟩
       rw [zbr,zbr] at c18;simp only [hn86] at c18;have:¬(NamesR c∧EntS c):=λh=>by have:=(h.2.2.2.1 k (by omega)).2.1 (by omega);omega
       simp only [this,decide_false]
     refine zaa za7 ?_;refine zab zaK (zap hA1) (η2.t (η3.t (η4.t (η5.t (η6.t (η7.t (η8.t (η9.t η10)))))))) λv93 h93=>?_;refine zad u25 ty3 h93 (by omega) λb95 o95 h95=>?_;refine zac ty3 h95 (η2.t (η3.t (η4.t (η5.t (η6.t (η7.t (η8.t (η9.t η10)))))))) λhI96=>?_;refine zaa zaR ?_;refine zab zdn (zal hA1) (η2.t (η3.t (η4.t (η5.t (η6.t (η7.t (η8.t (η9.t η10)))))))) λv98 h98=>?_;have hln99:=zah h98;refine zae u26 h98 ?_;refine zbW ?_;refine br (λc19=>?_) (λc19=>?_)
     · refine ⟨(η1.t (η2.t (η3.t (η4.t (η5.t (η6.t (η7.t (η8.t (η9.t η10))))))))),?_⟩
       rw [zbr] at c19;have:¬(NamesR c∧EntS c):=λh=>by have:=(h.2.2.2.1 k (by omega)).2.2;omega
       simp only [this,decide_false]
     refine zaB ?_;refine ⟨m4-1,by omega,k+1,by omega,by simp,(η9.t η10),?_⟩;rw [zbr] at c19;rw [zbr,zbr] at c18;simp only [hn86] at c18;exact zd7 hent ⟨λh=>by omega,λ_=>by omega,by omega⟩
   refine zaa za7 ?_;refine zab zaK (zap hA1) (η2.t (η3.t (η4.t (η5.t (η6.t (η7.t (η8.t (η9.t η10)))))))) λv93 h93=>?_;refine zad u25 ty3 h93 (by omega) λb95 o95 h95=>?_;refine zac ty3 h95 (η2.t (η3.t (η4.t (η5.t (η6.t (η7.t (η8.t (η9.t η10)))))))) λhI96=>?_;refine zaa zaR ?_;refine zab zdn (zal hA1) (η2.t (η3.t (η4.t (η5.t (η6.t (η7.t (η8.t (η9.t η10)))))))) λv98 h98=>?_;have hln99:=zah h98;refine zae u26 h98 ?_;refine zbW ?_;refine br (λc20=>?_) (λc20=>?_)
   · refine ⟨(η1.t (η2.t (η3.t (η4.t (η5.t (η6.t (η7.t (η8.t (η9.t η10))))))))),?_⟩
     exact absurd c11 (by omega)
   refine zaB ?_;refine ⟨m4-1,by omega,k+1,by omega,by simp,(η9.t η10),?_⟩;exact absurd c11 (by omega)
 refine zat (c.ins.length) (λk us w'=>us=[.int .i64 (k:Int)]∧Ext w9_ w'∧(∀ j,j<k→((zan c j).op=9↔zeU c (zaH c j)=j))) (0) (by omega) ⟨by simp,Ext.refl w9_,λi h=>by omega⟩ ?_;rintro k m9 uu9 w11_ hk9 ⟨hu,η11,hinv⟩;try replace hu:=zbG hu
 try rw [hu]
 try clear hu
 refine zaa zaR ?_;refine zab zdn (zal hA1) (η2.t (η3.t (η4.t (η5.t (η6.t (η7.t (η8.t (η9.t η11)))))))) λv104 h104=>?_;have hln105:=zah h104;refine zae u26 h104 ?_;refine zaf ?_;refine br (λc21=>?_) (λc21=>?_)
 · have η12:=zai w11_
   refine zaa zaR ?_;refine zab zdn (zal hA1) (η2.t (η3.t (η4.t (η5.t (η6.t (η7.t (η8.t (η9.t (η11.t η12))))))))) λv110 h110=>?_;refine zad u26 zbm h110 (by omega) λb112 o112 h112=>?_;refine zaa za6 ?_;refine zac ty3 (zaA h112) (η2.t (η3.t (η4.t (η5.t (η6.t (η7.t (η8.t (η9.t (η11.t η12))))))))) λhI114=>?_;refine zag ?_;refine zau hV1 (η2.t (η3.t (η4.t (η5.t (η6.t (η7.t (η8.t (η9.t (η11.t η12))))))))) ?_;refine zau hV1 (η2.t (η3.t (η4.t (η5.t (η6.t (η7.t (η8.t (η9.t (η11.t η12))))))))) ?_
   have h8:c.entry.length≤8:=by
     simp only [Bool.not_eq_false',Bool.and_eq_true,decide_eq_true_eq] at c3;have:=c3.1;omega
   refine (zhR h0 (e0.t (η1.t (η2.t (η3.t (η4.t (η5.t (η6.t (η7.t (η8.t (η9.t (η11.t η12)))))))))))).mono ?_;rintro _ w13_ ⟨η13,rfl⟩;refine ⟨η13,?_⟩;refine (zjw h0 (e0.t (η1.t (η2.t (η3.t (η4.t (η5.t (η6.t (η7.t (η8.t (η9.t (η11.t (η12.t η13)))))))))))) (by have:=zha (c:=c) (a:=k);omega) (by have:=zha (c:=c) (a:=k);omega) (zhS λi hi=>hent i (by omega))).mono ?_;rintro _ w14_ ⟨η14,rfl⟩;refine ⟨η14,?_⟩;refine zag ?_;refine zr9 u4 ?_;refine br (λc22=>?_) (λc22=>?_)
   · refine ⟨(η1.t (η2.t (η3.t (η4.t (η5.t (η6.t (η7.t (η8.t (η9.t (η11.t (η12.t (η13.t η14)))))))))))),?_⟩
     rw [zaE] at c22;have:¬(NamesR c∧EntS c):=λh=>c22 (decide_eq_decide.2 (h.2.2.2.2 k (by omega)));simp only [this,decide_false]
   refine zaB ?_;refine ⟨m9-1,by omega,k+1,by omega,by simp,(η11.t (η12.t (η13.t η14))),?_⟩;rw [zaE] at c22;exact zd7 hinv (decide_eq_decide.1 (Decidable.not_not.1 c22))
 refine ⟨(η1.t (η2.t (η3.t (η4.t (η5.t (η6.t (η7.t (η8.t (η9.t η11))))))))),?_⟩
 have:NamesR c∧EntS c:=by
   refine ⟨⟨by simpa using c1,by simpa using c2,by simpa using c3,Decidable.not_not.1 c4,Decidable.not_not.1 c5,Decidable.not_not.1 c6,zeS.1 (by unfold zgr;omega)⟩,by omega,by omega,λi hi=>hent i (by omega),λj hj=>hinv j (by omega)⟩
 simp only [this,and_self,decide_true]
def zbQ (c:DCode) (op:Int):Int:=if op=1 then c.globals.length else if op=4∨op=5 then c.procs.length else if op=6∨op=7 then c.locks.length else 1
def zgx (c:DCode) (a:DIns) (b e:Int):Prop:=(1≤a.op∧a.op≤9)∧(0≤a.arg∧a.arg<zbQ c a.op) ∧
 (if a.op=1∨a.op=2 then zaU 6 a.term=true∧(∀ s∈zbI a.term,s∈c.globals) else a.term=term0)∧(if a.op=2∨a.op=3 then b≤a.to∧a.to<e else a.to=0)
instance (c:DCode) (a:DIns) (b e:Int):Decidable (zgx c a b e):=by unfold zgx;infer_instance
def F85 (a0 a1:Value) (w:World) (R:VW):Prop:=
 oX 28 a0 w λx2 w=>
 rF 28 x2 4 w λx10=>
 rL 26 x10 w λx11=>
 rX 26 x11 a1 w λx13=>
 rL 118 x13 w λx14=>
 oP (aL 118) w λx5 w=>
 oS 118 x5 x14 w λw=>
 JOIN [6] (λJ12=>
 rF 118 x5 0 w λx15=>
 rL 3 x15 w λx16=>
 rQ x16 (iV 1) w λx18=>
 BR x18
 (rF 28 x2 0 w λx19=>
 rL 24 x19 w λx20=>
 rN 24 3 x20 w λx21=>
 rB .sub 3 T0 U0 x21 (iV 1) w λx22=>
 J12 [x22] w)
 (rQ x16 (iV 6) w λx24=>
 BR x24
 (rF 28 x2 1 w λx26=>
 rL 24 x26 w λx27=>
 rN 24 3 x27 w λx28=>
 rB .sub 3 T0 U0 x28 (iV 1) w λx29=>
 J12 [x29] w)
 (rQ x16 (iV 7) w λx25=>
 BR x25
 (rF 28 x2 1 w λx26=>
 rL 24 x26 w λx27=>
 rN 24 3 x27 w λx28=>
 rB .sub 3 T0 U0 x28 (iV 1) w λx29=>
 J12 [x29] w)
 (rQ x16 (iV 4) w λx31=>
 BR x31
 (rF 28 x2 2 w λx33=>
 rL 24 x33 w λx34=>
 rN 24 3 x34 w λx35=>
 rB .sub 3 T0 U0 x35 (iV 1) w λx36=>
 J12 [x36] w)
 (rQ x16 (iV 5) w λx32=>
 BR x32
 (rF 28 x2 2 w λx33=>
 rL 24 x33 w λx34=>
 rN 24 3 x34 w λx35=>
 rB .sub 3 T0 U0 x35 (iV 1) w λx36=>
 J12 [x36] w)
 (J12 [(iV 0)] w)))))) (λu12 w=>
 rF 118 x5 0 w λx37=>
 rL 3 x37 w λx38=>
 cL 151 [x38,(iV 1),(iV 9)] w λx39 w=>
 rT x39 w λx40=>
 BR x40
 (R vF w)
 (rF 118 x5 1 w λx42=>
 rL 3 x42 w λx43=>
 cL 151 [x43,(iV 0),(u12 6)] w λx45 w=>
 rT x45 w λx46=>
 BR x46
 (R vF w)
 (JOIN [] (λJ25=>
 rF 118 x5 0 w λx48=>
 rL 3 x48 w λx49=>
 rQ x49 (iV 1) w λx50=>
 BR x50
 (rF 118 x5 2 w λx56=>
 rL 116 x56 w λx57=>
 cL 152 [x57] w λx58 w=>
 rT x58 w λx59=>
 BR x59
 (R vF w)
 (rF 118 x5 2 w λx60=>
 rL 116 x60 w λx61=>
 cL 153 [x61] w λx62 w=>
 LOOPI [8] [(iV 0)] w λu19 w n19=>
 rN 24 3 x62 w λx65=>
 rC (u19 8) x65 w λx66=>
 BR x66
 ((λw=>rF 28 x2 0 w λx69=>
 rL 24 x69 w λx70=>
 rX 24 x62 (u19 8) w λx73=>
 rL 9 x73 w λx74=>
 cL 89 [x70,x74] w λx75 w=>
 rB .lss 3 T0 U0 x75 (iV 0) w λx76=>
 BR x76
 (R vF w)
 (rI (u19 8) w λx68=>
 n19 [x68] w)) (World.drew1 w))
 (J25 [] w)))
 (rF 118 x5 0 w λx52=>
 rL 3 x52 w λx53=>
 rQ x53 (iV 2) w λx54=>
 BR x54
 (rF 118 x5 2 w λx56=>
 rL 116 x56 w λx57=>
 cL 152 [x57] w λx58 w=>
 rT x58 w λx59=>
 BR x59
 (R vF w)
 (rF 118 x5 2 w λx60=>
 rL 116 x60 w λx61=>
 cL 153 [x61] w λx62 w=>
 LOOPI [8] [(iV 0)] w λu19 w n19=>
 rN 24 3 x62 w λx65=>
 rC (u19 8) x65 w λx66=>
 BR x66
 ((λw=>rF 28 x2 0 w λx69=>
 rL 24 x69 w λx70=>
 rX 24 x62 (u19 8) w λx73=>
 rL 9 x73 w λx74=>
 cL 89 [x70,x74] w λx75 w=>
 rB .lss 3 T0 U0 x75 (iV 0) w λx76=>
 BR x76
 (R vF w)
 (rI (u19 8) w λx68=>
 n19 [x68] w)) (World.drew1 w))
 (J25 [] w)))
 (rF 118 x5 2 w λx77=>
 rL 116 x77 w λx78=>
 rD (Instr.build 116 #[]) w λx79=>
 cL 154 [x78,x79] w λx80 w=>
 rT x80 w λx81=>
 BR x81
 (R vF w)
 (J25 [] w)))) (λu25 w=>
 JOIN [] (λJ27=>
 rF 118 x5 0 w λx82=>
 rL 3 x82 w λx83=>
 rB .neq 3 T0 U0 x83 (iV 2) w λx84=>
 BR x84
 (rF 118 x5 0 w λx86=>
 rL 3 x86 w λx87=>
 rB .neq 3 T0 U0 x87 (iV 3) w λx88=>
 BR x88
 (rF 118 x5 3 w λx90=>
 rL 3 x90 w λx91=>
 rQ x91 (iV 0) w λx92=>
 R x92 w)
 (J27 [] w))
 (J27 [] w)) (λu27 w=>
 rL 28 x2 w λx93=>
 cL 107 [x93,a1] w λx95 w=>
 (λw=>rF 118 x5 3 w λx96=>
 rL 3 x96 w λx97=>
 rF 28 x2 3 w λx98=>
 rL 25 x98 w λx99=>
 rX 25 x99 x95 w λx101=>
 rL 3 x101 w λx102=>
 rL 28 x2 w λx103=>
 (λw_=>cL 150 [x103,x95] w_ λx105 w=>
 Ext w_ w ∧
 cL 151 [x97,x102,x105] w λx106 w=>
 R x106 w) w) (World.drew1 w))))))
theorem F85_call {a0 a1 w R} (h:F85 a0 a1 w R):cL 85 [a0,a1] w R:=co (g:=(kf [(12,137438920768,[6]),(25,4835703278177041722114448,[]),(27,9898684611004583682494169104,[])] [(19,151106504079791792062736,[8])] [(21,[0,1,2,3,4,5,6,7],0),(28,[0,1,2,3,4,5,6,7,8,9,10,11],512)])) Tryz.func85 h
theorem zse {w:World} {v0:Value} {W0:World} {c:DCode} {j:Nat}  (h0:Is W0 v0 c) (e0:Ext W0 w) (hj:j<c.ins.length) (hE:∀ i,i<c.entry.length→0≤en c i) (h8:c.entry.length≤8) (hp:0≤zaH c j) :
   CALL tp 85 [v0,.int .i64 (j:Int)] w λr w'=>Ext w w'∧(r=.bool (decide (zgx c (zan c j) (en c (zaH c j).toNat) (zeU c (zaH c j)+1)))):=by
 refine F85_call ?_;unfold F85;have hpl:=zha (c:=c) (a:=j);refine zao zcv rfl h0 e0 λw1_ η1 hA2 hV2=>?_;refine zaa zaR ?_;refine zab zdn (zal hA2) (Ext.refl w1_) λv11 h11=>?_;refine zad u26 zbm h11 (by omega) λb13 o13 h13=>?_;refine zab zbm h13 (Ext.refl w1_) λv14 h14=>?_;rw [zaE] at h14;obtain ⟨a,ha⟩:∃ a,a=zan c j:=⟨_,rfl⟩;rw [←ha] at h14 ⊢;refine zcX zhM rfl zbm rfl h14 (Ext.refl w1_) λw2_ η2 hA5 hV5=>?_;refine JOIN.mk (λus w'=>us=[.int .i64 (zbQ c a.op-1)]∧Ext w2_ w'∧(True)) ?_ ?_
 · refine zaa za6 ?_
   refine zac ty3 (zaA hA5) (Ext.refl w2_) λhI16=>?_;refine zag ?_;refine br (λc1=>?_) (λc1=>?_)
   · refine zaa zdR ?_
     refine zab zc0 (zbe hA2) η2 λv20 h20=>?_;have hln21:=zah h20;refine zae u24 h20 ?_;refine za0 (by unfold I64;have:=zah h20;omega) ?_;refine ⟨by unfold zbQ;rw [if_pos c1],Ext.refl w2_,?_⟩;trivial
   refine zag ?_;refine br (λc2=>?_) (λc2=>?_)
   · refine zaa zdD ?_
     refine zab zc0 (zba hA2) η2 λv27 h27=>?_;have hln28:=zah h27;refine zae u24 h27 ?_;refine za0 (by unfold I64;have:=zah h27;omega) ?_;refine ⟨by unfold zbQ;rw [if_neg (by omega),if_neg (by omega),if_pos (by omega)],Ext.refl w2_,?_⟩;trivial
   refine zag ?_;refine br (λc3=>?_) (λc3=>?_)
   · refine zaa zdD ?_
     refine zab zc0 (zba hA2) η2 λv27 h27=>?_;have hln28:=zah h27;refine zae u24 h27 ?_;refine za0 (by unfold I64;have:=zah h27;omega) ?_;refine ⟨by unfold zbQ;rw [if_neg (by omega),if_neg (by omega),if_pos (by omega)],Ext.refl w2_,?_⟩;trivial
   refine zag ?_;refine br (λc4=>?_) (λc4=>?_)
   · refine zaa zdd ?_
     refine zab zc0 (zbb hA2) η2 λv34 h34=>?_;have hln35:=zah h34;refine zae u24 h34 ?_;refine za0 (by unfold I64;have:=zah h34;omega) ?_;refine ⟨by unfold zbQ;rw [if_neg (by omega),if_pos (by omega)],Ext.refl w2_,?_⟩;trivial
   refine zag ?_;refine br (λc5=>?_) (λc5=>?_)
   · refine zaa zdd ?_
     refine zab zc0 (zbb hA2) η2 λv34 h34=>?_;have hln35:=zah h34;refine zae u24 h34 ?_;refine za0 (by unfold I64;have:=zah h34;omega) ?_;refine ⟨by unfold zbQ;rw [if_neg (by omega),if_pos (by omega)],Ext.refl w2_,?_⟩;trivial
   refine ⟨by unfold zbQ;rw [if_neg (by omega),if_neg (by omega),if_neg (by omega)];rfl,Ext.refl w2_,?_⟩;trivial
 rintro uj12 w3_ ⟨hu,η3,hinv⟩;try replace hu:=zbG hu
 try rw [hu]
 try clear hu
 refine zaa za6 ?_;refine zac ty3 (zaA hA5) η3 λhI38=>?_;refine (l01In_ok ).mono ?_;rintro _ w4_ ⟨η4,rfl⟩;refine zav ?_;refine br (λc6=>?_) (λc6=>?_)
 · refine ⟨(η1.t (η2.t (η3.t η4))),?_⟩
   have:¬zgx c a (en c (zaH c j).toNat) (zeU c (zaH c j)+1):=λh=>c6 h.1;simp only [this,decide_false]
 refine zaa zaZ ?_;refine zac ty3 (zaw hA5) (η3.t η4) λhI43=>?_;refine (l01In_ok ).mono ?_;rintro _ w5_ ⟨η5,rfl⟩;refine zav ?_;refine br (λc7=>?_) (λc7=>?_)
 · refine ⟨(η1.t (η2.t (η3.t (η4.t η5)))),?_⟩
   have:¬zgx c a (en c (zaH c j).toNat) (zeU c (zaH c j)+1):=λh=>c7 (by have:=h.2.1;omega);simp only [this,decide_false]
 refine JOIN.mk (λus w'=>us=[]∧Ext w5_ w'∧(if a.op=1∨a.op=2 then zaU 6 a.term=true∧(∀ s∈zbI a.term,s∈c.globals) else a.term=term0)) ?_ ?_
 · refine zaa za6 ?_
   refine zac ty3 (zaA hA5) (η3.t (η4.t η5)) λhI49=>?_;refine zag ?_;refine br (λc8=>?_) (λc8=>?_)
   · refine zaa zdo ?_
     refine zab za4 (zb3 hA5) (η3.t (η4.t η5)) λv57 h57=>?_;refine (zco h57 (η3.t (η4.t η5))).mono ?_;rintro _ w7_ ⟨η7,rfl⟩;refine za1 ?_;refine zcd (λc9=>?_) (λc9=>?_)
     · refine ⟨(η1.t (η2.t (η3.t (η4.t (η5.t η7))))),?_⟩
       have:¬zgx c a (en c (zaH c j).toNat) (zeU c (zaH c j)+1):=λh=>by have:=h.2.2.1;rw [if_pos (.inl c8)] at this;rw [this.1] at c9;cases c9
       simp only [this,decide_false]
     refine zaa zdo ?_;refine zab za4 (zb3 hA5) (η3.t (η4.t (η5.t η7))) λv61 h61=>?_;refine (zeT h61 (η3.t (η4.t (η5.t η7)))).mono ?_;rintro r62 w8_ ⟨η8,h62⟩;refine zat ((zbI a.term).length) (λk us w'=>us=[.int .i64 (k:Int)]∧Ext w8_ w'∧(∀ s∈(zbI a.term).take k,s∈c.globals)) (0) (by omega) ⟨by simp,Ext.refl w8_,by simp⟩ ?_;rintro k m19 uu19 w9_ hk19 ⟨hu,η9,hinv⟩;try replace hu:=zbG hu
     try rw [hu]
     try clear hu
     have hln65:=zah h62;refine zae u24 h62 ?_;refine zaf ?_;refine br (λc10=>?_) (λc10=>?_)
     · have η10:=zai w9_
       refine zaa zdR ?_;refine zab zc0 (zbe hA2) (η2.t (η3.t (η4.t (η5.t (η7.t (η8.t (η9.t η10))))))) λv70 h70=>?_;refine zad u24 ty9 h62 (by omega) λb73 o73 h73=>?_;refine zaq ty9 h73 (η9.t η10) λhS74=>?_;refine (zb9 h70 (η2.t (η3.t (η4.t (η5.t (η7.t (η8.t (η9.t η10)))))))).mono ?_;rintro _ w11_ ⟨η11,rfl⟩;refine zaf ?_;refine br (λc11=>?_) (λc11=>?_)
       · refine ⟨(η1.t (η2.t (η3.t (η4.t (η5.t (η7.t (η8.t (η9.t (η10.t η11))))))))),?_⟩
         have:¬zgx c a (en c (zaH c j).toNat) (zeU c (zaH c j)+1):=λh=>by
           have:=h.2.2.1;rw [if_pos (.inl c8)] at this;have:=zeS.2 (this.2 _ (List.getElem_mem (n:=k) (by omega)));omega
         simp only [this,decide_false]
       refine zaB ?_;refine ⟨m19-1,by omega,k+1,by omega,by simp,(η9.t (η10.t η11)),?_⟩;intro s hs;rw [tk (by omega)] at hs;rcases List.mem_append.1 hs with hs | hs
       · exact hinv s hs
       simp only [List.mem_cons,List.not_mem_nil,or_false] at hs;subst hs;exact zeS.1 (by omega)
     refine ⟨by simp,(η7.t (η8.t η9)),?_⟩;rw [if_pos (.inl c8)];rw [List.take_of_length_le (by omega)] at hinv;exact ⟨by simpa using c9,hinv⟩
   refine zaa za6 ?_;refine zac ty3 (zaA hA5) (η3.t (η4.t η5)) λhI53=>?_;refine zag ?_;refine br (λc12=>?_) (λc12=>?_)
   · refine zaa zdo ?_
     refine zab za4 (zb3 hA5) (η3.t (η4.t η5)) λv57 h57=>?_;refine (zco h57 (η3.t (η4.t η5))).mono ?_;rintro _ w12_ ⟨η12,rfl⟩;refine za1 ?_;refine zcd (λc13=>?_) (λc13=>?_)
     · refine ⟨(η1.t (η2.t (η3.t (η4.t (η5.t η12))))),?_⟩
       have:¬zgx c a (en c (zaH c j).toNat) (zeU c (zaH c j)+1):=λh=>by have:=h.2.2.1;rw [if_pos (.inr c12)] at this;rw [this.1] at c13;cases c13
       simp only [this,decide_false]
     refine zaa zdo ?_;refine zab za4 (zb3 hA5) (η3.t (η4.t (η5.t η12))) λv61 h61=>?_;refine (zeT h61 (η3.t (η4.t (η5.t η12)))).mono ?_;rintro r62 w13_ ⟨η13,h62⟩;refine zat ((zbI a.term).length) (λk us w'=>us=[.int .i64 (k:Int)]∧Ext w13_ w'∧(∀ s∈(zbI a.term).take k,s∈c.globals)) (0) (by omega) ⟨by simp,Ext.refl w13_,by simp⟩ ?_;rintro k m19 uu19 w14_ hk19 ⟨hu,η14,hinv⟩;try replace hu:=zbG hu
     try rw [hu]
     try clear hu
     have hln65:=zah h62;refine zae u24 h62 ?_;refine zaf ?_;refine br (λc14=>?_) (λc14=>?_)
     · have η15:=zai w14_
       refine zaa zdR ?_;refine zab zc0 (zbe hA2) (η2.t (η3.t (η4.t (η5.t (η12.t (η13.t (η14.t η15))))))) λv70 h70=>?_;refine zad u24 ty9 h62 (by omega) λb73 o73 h73=>?_;refine zaq ty9 h73 (η14.t η15) λhS74=>?_;refine (zb9 h70 (η2.t (η3.t (η4.t (η5.t (η12.t (η13.t (η14.t η15)))))))).mono ?_;rintro _ w16_ ⟨η16,rfl⟩;refine zaf ?_;refine br (λc15=>?_) (λc15=>?_)
       · refine ⟨(η1.t (η2.t (η3.t (η4.t (η5.t (η12.t (η13.t (η14.t (η15.t η16))))))))),?_⟩
         have:¬zgx c a (en c (zaH c j).toNat) (zeU c (zaH c j)+1):=λh=>by
           have:=h.2.2.1;rw [if_pos (.inr c12)] at this;have:=zeS.2 (this.2 _ (List.getElem_mem (n:=k) (by omega)));omega
         simp only [this,decide_false]
       refine zaB ?_;refine ⟨m19-1,by omega,k+1,by omega,by simp,(η14.t (η15.t η16)),?_⟩;intro s hs;rw [tk (by omega)] at hs;rcases List.mem_append.1 hs with hs | hs
       · exact hinv s hs
       simp only [List.mem_cons,List.not_mem_nil,or_false] at hs;subst hs;exact zeS.1 (by omega)
     refine ⟨by simp,(η12.t (η13.t η14)),?_⟩;rw [if_pos (.inr c12)];rw [List.take_of_length_le (by omega)] at hinv;exact ⟨by simpa using c13,hinv⟩
   refine zaa zdo ?_;refine zab za4 (zb3 hA5) (η3.t (η4.t η5)) λv78 h78=>?_;refine zsc (α:=DTerm) zxA zqC (by kernel_rfl) rfl λv79 h79=>?_;refine (zit h78 (η3.t (η4.t η5)) h79 (Ext.refl w5_) rfl).mono ?_;rintro _ w17_ ⟨η17,rfl⟩;refine zav ?_;refine br (λc16=>?_) (λc16=>?_)
   · refine ⟨(η1.t (η2.t (η3.t (η4.t (η5.t η17))))),?_⟩
     have:¬zgx c a (en c (zaH c j).toNat) (zeU c (zaH c j)+1):=λh=>by have:=h.2.2.1;rw [if_neg (by omega)] at this;exact c16 this
     simp only [this,decide_false]
   refine ⟨by simp,η17,?_⟩;rw [if_neg (by omega)];exact Decidable.not_not.1 c16
 rintro uj25 w6_ ⟨hu,η17,hT⟩;try replace hu:=zbG hu
 clear hu;refine JOIN.mk (λus w'=>us=[]∧Ext w6_ w'∧(a.op=2∨a.op=3)) ?_ ?_
 · refine zaa za6 ?_
   refine zac ty3 (zaA hA5) (η3.t (η4.t (η5.t η17))) λhI83=>?_;refine zaV ?_;refine br (λc17=>?_) (λc17=>?_)
   · refine zaa za6 ?_
     refine zac ty3 (zaA hA5) (η3.t (η4.t (η5.t η17))) λhI87=>?_;refine zaV ?_;refine br (λc18=>?_) (λc18=>?_)
     · refine zaa zcC ?_
       refine zac ty3 (zbB hA5) (η3.t (η4.t (η5.t η17))) λhI91=>?_;refine zag ?_;refine ⟨(η1.t (η2.t (η3.t (η4.t (η5.t η17))))),?_⟩;congr 1;rw [decide_eq_decide];constructor
       · exact λh=>⟨Decidable.not_not.1 c6,by omega,hT,by rw [if_neg (by omega)];exact h⟩
       intro h;have:=h.2.2.2;rw [if_neg (by omega)] at this;exact this
     refine ⟨by simp,Ext.refl w6_,?_⟩;omega
   refine ⟨by simp,Ext.refl w6_,?_⟩;omega
 rintro uj27 w18_ ⟨hu,η18,hop⟩;try replace hu:=zbG hu
 clear hu;refine zau hV2 (η2.t (η3.t (η4.t (η5.t (η17.t η18))))) ?_;refine (zhR h0 (e0.t (η1.t (η2.t (η3.t (η4.t (η5.t (η17.t η18)))))))).mono ?_;rintro _ w19_ ⟨η19,rfl⟩;have η20:=zai w19_;refine zaa zcC ?_;refine zac ty3 (zbB hA5) (η3.t (η4.t (η5.t (η17.t (η18.t (η19.t η20)))))) λhI97=>?_;refine zaa za7 ?_;refine zab zaK (zap hA2) (η2.t (η3.t (η4.t (η5.t (η17.t (η18.t (η19.t η20))))))) λv99 h99=>?_;refine zax u25 ty3 h99 (by omega) (by omega) λb101 o101 h101=>?_;refine zac ty3 h101 (η2.t (η3.t (η4.t (η5.t (η17.t (η18.t (η19.t η20))))))) λhI102=>?_;refine zau hV2 (η2.t (η3.t (η4.t (η5.t (η17.t (η18.t (η19.t η20))))))) ?_;refine (zjw h0 (e0.t (η1.t (η2.t (η3.t (η4.t (η5.t (η17.t (η18.t (η19.t η20))))))))) (by omega) (by omega) (by assumption)).mono ?_;rintro _ w21_ ⟨η21,rfl⟩;refine ⟨η21,?_⟩;refine (l01In_ok ).mono ?_;rintro _ w22_ ⟨η22,rfl⟩;refine ⟨(η1.t (η2.t (η3.t (η4.t (η5.t (η17.t (η18.t (η19.t (η20.t (η21.t η22)))))))))),?_⟩;congr 1;rw [decide_eq_decide,zbr];constructor
 · exact λh=>⟨Decidable.not_not.1 c6,by omega,hT,by rw [if_pos hop];omega⟩
 intro h;have:=h.2.2.2;rw [if_pos hop] at this;omega
def CodeR (c:DCode):Prop:=NamesR c∧EntS c∧∀ j,j<c.ins.length→zgx c (zan c j) (en c (zaH c j).toNat) (zeU c (zaH c j)+1)
instance (c:DCode):Decidable (CodeR c):=by unfold CodeR;infer_instance
theorem EntS.nonneg {c:DCode} (h:EntS c):∀ i,i<c.entry.length→0≤en c i:=zhS h.2.2.1
theorem NamesR.procs8 {c:DCode} (h:NamesR c):c.procs.length≤8∧0<c.procs.length:=by
 have h1:=h.2.2.1;simp only [Bool.and_eq_true,decide_eq_true_eq] at h1;have h2:=List.length_pos_of_mem h.2.2.2.2.2.2;omega
theorem zhT {c:DCode} {a:Int} (h0:en c 0≤a):∀ {n:Nat},0<n→0≤prc c a n
 | 1,_=>by rw [prc,if_pos h0];omega
 | n+2,_=>by
   rw [prc];split
   · omega
   exact zhT h0 (by omega)
theorem zlD {c:DCode} (hn:NamesR c) (h:EntS c) {a:Int} (ha:0≤a):0≤zaH c a:=by
 have h1:=hn.procs8;have h2:=h.1;exact zhT (by have:=(h.2.2.1 0 (by omega)).1 rfl;omega) (by omega)
def F41 (a0:Value) (w:World) (R:VW):Prop:=
 oX 28 a0 w λx1 w=>
 rL 28 x1 w λx4=>
 cL 84 [x4] w λx5 w=>
 rT x5 w λx6=>
 BR x6
 (R vF w)
 (LOOPI [3] [(iV 0)] w λu4 w n4=>
 rF 28 x1 4 w λx8=>
 rL 26 x8 w λx9=>
 rN 26 3 x9 w λx10=>
 rC (u4 3) x10 w λx11=>
 BR x11
 (rL 28 x1 w λx14=>
 cL 85 [x14,(u4 3)] w λx16 w=>
 rT x16 w λx17=>
 BR x17
 (R vF w)
 (rI (u4 3) w λx13=>
 n4 [x13] w))
 (R vT w))
theorem F41_call {a0 w R} (h:F41 a0 w R):cL 41 [a0] w R:=co (g:=(kf [] [(4,262028,[3])] [])) Tryz.func41 h
theorem zfu {w:World} {v0:Value} {W0:World} {c:DCode}  (h0:Is W0 v0 c) (e0:Ext W0 w)  :
   CALL tp 41 [v0] w λr w'=>Ext w w'∧(r=.bool (decide (CodeR c))):=by
 refine F41_call ?_;unfold F41;refine zao zcv rfl h0 e0 λw1_ η1 hA1 hV1=>?_;refine zau hV1 (Ext.refl w1_) ?_;refine (zoy h0 (e0.t η1)).mono ?_;rintro _ w2_ ⟨η2,rfl⟩
 skip
 refine zav ?_;refine br (λc1=>?_) (λc1=>?_)
 · refine ⟨(η1.t η2),?_⟩
   have:¬CodeR c:=λh=>c1 ⟨h.1,h.2.1⟩;simp only [this,decide_false]
 refine zat (c.ins.length) (λk us w'=>us=[.int .i64 (k:Int)]∧Ext w2_ w'∧(∀ j,j<k→zgx c (zan c j) (en c (zaH c j).toNat) (zeU c (zaH c j)+1))) (0) (by omega) ⟨by simp,Ext.refl w2_,λi h=>by omega⟩ ?_;rintro k m4 uu4 w3_ hk4 ⟨hu,η3,hinv⟩;try replace hu:=zbG hu
 try rw [hu]
 try clear hu
 replace c1:=Decidable.not_not.1 c1
 refine zaa zaR ?_;refine zab zdn (zal hA1) (η2.t η3) λv9 h9=>?_;have hln10:=zah h9;refine zae u26 h9 ?_;refine zaf ?_;refine br (λc2=>?_) (λc2=>?_)
 · refine zau hV1 (η2.t η3) ?_
   refine (zse h0 (e0.t (η1.t (η2.t η3))) (by omega) c1.2.nonneg (by have:=c1.1.procs8;have:=c1.2.1;omega) (zlD c1.1 c1.2 (by omega))).mono ?_;rintro _ w4_ ⟨η4,rfl⟩;refine zav ?_;refine br (λc3=>?_) (λc3=>?_)
   · refine ⟨(η1.t (η2.t (η3.t η4))),?_⟩
     have:¬CodeR c:=λh=>c3 (h.2.2 k (by omega));simp only [this,decide_false]
   refine zaB ?_;refine ⟨m4-1,by omega,k+1,by omega,by simp,(η3.t η4),?_⟩;exact zd7 hinv (Decidable.not_not.1 c3)
 refine ⟨(η1.t (η2.t η3)),?_⟩;have:CodeR c:=⟨c1.1,c1.2,λj hj=>hinv j (by omega)⟩;simp only [this,decide_true]
def F109 (a0:Value) (w:World) (R:VW):Prop:=
 oX 28 a0 w λx1 w=>
 rF 28 x1 0 w λx3=>
 rL 24 x3 w λx4=>
 cL 178 [x4,(iV 6)] w λx5 w=>
 rT x5 w λx6=>
 BR x6
 (R vF w)
 (rF 28 x1 1 w λx8=>
 rL 24 x8 w λx9=>
 cL 178 [x9,(iV 6)] w λx10 w=>
 rT x10 w λx11=>
 BR x11
 (R vF w)
 (rF 28 x1 2 w λx14=>
 rL 24 x14 w λx15=>
 cL 178 [x15,(iV 8)] w λx16 w=>
 rT x16 w λx17=>
 BR x17
 (R vF w)
 (rF 28 x1 0 w λx19=>
 rL 24 x19 w λx20=>
 cL 179 [x20] w λx21 w=>
 BR x21
 (R vF w)
 (rF 28 x1 1 w λx23=>
 rL 24 x23 w λx24=>
 cL 179 [x24] w λx25 w=>
 BR x25
 (R vF w)
 (rF 28 x1 2 w λx28=>
 rL 24 x28 w λx29=>
 cL 179 [x29] w λx30 w=>
 BR x30
 (R vF w)
 (rF 28 x1 2 w λx32=>
 rL 24 x32 w λx33=>
 cL 180 [x33,(Value.string (ByteArray.mk #[109,97,105,110]))] w λx34 w=>
 R x34 w))))))
theorem F109_call {a0 w R} (h:F109 a0 w R):cL 109 [a0] w R:=co (g:=(kf [] [] [])) Tryz.func109 h
theorem zlE {w:World} {v0:Value} {W0:World} {c:DCode}  (h0:Is W0 v0 c) (e0:Ext W0 w)  :
   CALL tp 109 [v0] w λr w'=>Ext w w'∧(r=.bool (decide (NamesR c))):=by
 refine F109_call ?_;unfold F109;refine zao zcv rfl h0 e0 λw1_ η1 hA1 hV1=>?_;refine zaa zdR ?_;refine zab zc0 (zbe hA1) (Ext.refl w1_) λv4 h4=>?_;refine (zgG h4 (Ext.refl w1_)).mono ?_;rintro _ w2_ ⟨η2,rfl⟩;refine za1 ?_;refine zcd (λc1=>?_) (λc1=>?_)
 · refine ⟨(η1.t η2),?_⟩
   have:¬NamesR c:=λh=>by rw [h.1] at c1;cases c1
   simp only [this,decide_false]
 refine zaa zdD ?_;refine zab zc0 (zba hA1) η2 λv9 h9=>?_;refine (zgG h9 η2).mono ?_;rintro _ w3_ ⟨η3,rfl⟩;refine za1 ?_;refine zcd (λc2=>?_) (λc2=>?_)
 · refine ⟨(η1.t (η2.t η3)),?_⟩
   have:¬NamesR c:=λh=>by rw [h.2.1] at c2;cases c2
   simp only [this,decide_false]
 refine zaa zdd ?_;refine zab zc0 (zbb hA1) (η2.t η3) λv15 h15=>?_;refine (zgG h15 (η2.t η3)).mono ?_;rintro _ w4_ ⟨η4,rfl⟩;refine za1 ?_;refine zcd (λc3=>?_) (λc3=>?_)
 · refine ⟨(η1.t (η2.t (η3.t η4))),?_⟩
   have:¬NamesR c:=λh=>by rw [h.2.2.1] at c3;cases c3
   simp only [this,decide_false]
 refine zaa zdR ?_;refine zab zc0 (zbe hA1) (η2.t (η3.t η4)) λv20 h20=>?_;refine (zgH h20 (η2.t (η3.t η4))).mono ?_;rintro _ w5_ ⟨η5,rfl⟩;refine br (λc4=>?_) (λc4=>?_)
 · refine ⟨(η1.t (η2.t (η3.t (η4.t η5)))),?_⟩
   have:¬NamesR c:=λh=>c4 h.2.2.2.1;simp only [this,decide_false]
 refine zaa zdD ?_;refine zab zc0 (zba hA1) (η2.t (η3.t (η4.t η5))) λv24 h24=>?_;refine (zgH h24 (η2.t (η3.t (η4.t η5)))).mono ?_;rintro _ w6_ ⟨η6,rfl⟩;refine br (λc5=>?_) (λc5=>?_)
 · refine ⟨(η1.t (η2.t (η3.t (η4.t (η5.t η6))))),?_⟩
   have:¬NamesR c:=λh=>c5 h.2.2.2.2.1;simp only [this,decide_false]
 refine zaa zdd ?_;refine zab zc0 (zbb hA1) (η2.t (η3.t (η4.t (η5.t η6)))) λv29 h29=>?_;refine (zgH h29 (η2.t (η3.t (η4.t (η5.t η6))))).mono ?_;rintro _ w7_ ⟨η7,rfl⟩;refine br (λc6=>?_) (λc6=>?_)
 · refine ⟨(η1.t (η2.t (η3.t (η4.t (η5.t (η6.t η7)))))),?_⟩
   have:¬NamesR c:=λh=>c6 h.2.2.2.2.2.1;simp only [this,decide_false]
 refine zaa zdd ?_;refine zab zc0 (zbb hA1) (η2.t (η3.t (η4.t (η5.t (η6.t η7))))) λv33 h33=>?_;refine (zc4 h33 (η2.t (η3.t (η4.t (η5.t (η6.t η7)))))).mono ?_;rintro _ w8_ ⟨η8,rfl⟩;refine ⟨(η1.t (η2.t (η3.t (η4.t (η5.t (η6.t (η7.t η8))))))),?_⟩;congr 1;rw [decide_eq_decide];exact ⟨λh=>⟨by simpa using c1,by simpa using c2,by simpa using c3,Decidable.not_not.1 c4,Decidable.not_not.1 c5,Decidable.not_not.1 c6,h⟩,λh=>h.2.2.2.2.2.2⟩
def zlF (c:DCode):Nat→Nat
 | 0=>0
 | k+1=>zlF c k+if (zan c k).op=9 then 1 else 0
theorem zsf (c:DCode):∀ k,zlF c k≤k
 | 0=>Nat.le_refl _
 | k+1=>by have:=zsf c k;rw [zlF];split<;>omega
def EntI (c:DCode):Prop:=c.ins.length≤1500∧c.entry.length=c.procs.length∧en c 0=0∧zlF c c.ins.length=c.entry.length ∧
 ∀ i,i<c.entry.length→en c i<zdL c i∧zdL c i≤c.ins.length∧(zan c (zdL c i-1).toNat).op=9
instance (c:DCode):Decidable (EntI c):=by unfold EntI;infer_instance
theorem zgI {c:DCode} (h0:en c 0=0):∀ {q:Nat},q<c.entry.length→(∀ i,i<q→en c i<zdL c i)→0≤en c q
 | 0,_,_=>by omega
 | q+1,hq,h=>by
   have h1:=zgI h0 (q:=q) (by omega) λi hi=>h i (by omega);have h2:=h q (by omega);unfold zdL at h2;rw [if_pos hq] at h2;omega
def F110 (a0:Value) (w:World) (R:VW):Prop:=
 oX 28 a0 w λx1 w=>
 rF 28 x1 4 w λx9=>
 rL 26 x9 w λx10=>
 rN 26 3 x10 w λx11=>
 rB .gtr 3 T0 U0 x11 (iV 1500) w λx12=>
 BR x12
 (R vF w)
 (rF 28 x1 3 w λx14=>
 rL 25 x14 w λx15=>
 rN 25 3 x15 w λx16=>
 rF 28 x1 2 w λx17=>
 rL 24 x17 w λx18=>
 rN 24 3 x18 w λx19=>
 rB .neq 3 T0 T0 x16 x19 w λx20=>
 BR x20
 (R vF w)
 (rF 28 x1 3 w λx23=>
 rL 25 x23 w λx24=>
 rX 25 x24 (iV 0) w λx25=>
 rL 3 x25 w λx26=>
 rB .neq 3 T0 U0 x26 (iV 0) w λx27=>
 BR x27
 (R vF w)
 (rF 28 x1 4 w λx29=>
 rL 26 x29 w λx30=>
 rN 26 3 x30 w λx31=>
 LOOPI [3,32] [(iV 0),(iV 0)] w λu5 w n5=>
 rC (u5 32) x31 w λx33=>
 BR x33
 (rX 26 x30 (u5 32) w λx34=>
 rL 118 x34 w λx35=>
 oP (aL 118) w λx5 w=>
 oS 118 x5 x35 w λw=>
 rF 118 x5 0 w λx36=>
 rL 3 x36 w λx37=>
 rQ x37 (iV 9) w λx38=>
 BR x38
 (rI (u5 3) w λx40=>
 rI (u5 32) w λx41=>
 n5 [x40,x41] w)
 (rI (u5 32) w λx41=>
 n5 [(u5 3),x41] w))
 (rF 28 x1 3 w λx43=>
 rL 25 x43 w λx44=>
 rN 25 3 x44 w λx45=>
 rB .neq 3 T0 T0 (u5 3) x45 w λx46=>
 BR x46
 (R vF w)
 (rF 28 x1 3 w λx47=>
 rL 25 x47 w λx48=>
 rN 25 3 x48 w λx49=>
 LOOPI [50] [(iV 0)] w λu13 w n13=>
 rC (u13 50) x49 w λx51=>
 BR x51
 ((λw=>rF 28 x1 3 w λx53=>
 rL 25 x53 w λx54=>
 rX 25 x54 (u13 50) w λx56=>
 rL 3 x56 w λx57=>
 rF 28 x1 4 w λx58=>
 rL 26 x58 w λx59=>
 rN 26 3 x59 w λx60=>
 JOIN [8] (λJ18=>
 rI (u13 50) w λx62=>
 rF 28 x1 3 w λx63=>
 rL 25 x63 w λx64=>
 rN 25 3 x64 w λx65=>
 rC x62 x65 w λx66=>
 BR x66
 (rF 28 x1 3 w λx67=>
 rL 25 x67 w λx68=>
 rI (u13 50) w λx70=>
 rX 25 x68 x70 w λx71=>
 rL 3 x71 w λx72=>
 J18 [x72] w)
 (J18 [x60] w)) (λu18 w=>
 rB .leq 3 T0 T0 (u18 8) x57 w λx75=>
 BR x75
 (R vF w)
 (rF 28 x1 4 w λx78=>
 rL 26 x78 w λx79=>
 rN 26 3 x79 w λx80=>
 rB .gtr 3 T0 T0 (u18 8) x80 w λx81=>
 BR x81
 (R vF w)
 (rF 28 x1 4 w λx84=>
 rL 26 x84 w λx85=>
 rB .sub 3 T0 U0 (u18 8) (iV 1) w λx87=>
 rX 26 x85 x87 w λx88=>
 rF 118 x88 0 w λx89=>
 rL 3 x89 w λx90=>
 rB .neq 3 T0 U0 x90 (iV 9) w λx91=>
 BR x91
 (R vF w)
 (rI (u13 50) w λx93=>
 n13 [x93] w))))) (World.drew1 w))
 (R vT w))))))
theorem F110_call {a0 w R} (h:F110 a0 w R):cL 110 [a0] w R:=co (g:=(kf [(18,9442427122730076733696,[8])] [(5,4393751543848,[3,32]),(13,19807040628564958498479145412,[50])] [(15,[0,1,2,3,4,5,6,7,8,9],0)])) Tryz.func110 h
theorem zjx {w:World} {v0:Value} {W0:World} {c:DCode}  (h0:Is W0 v0 c) (e0:Ext W0 w) (hp:0<c.procs.length) :
   CALL tp 110 [v0] w λr w'=>Ext w w'∧(r=.bool (decide (EntI c))):=by
 refine F110_call ?_;unfold F110;refine zao zcv rfl h0 e0 λw1_ η1 hA1 hV1=>?_;refine zaa zaR ?_;refine zab zdn (zal hA1) (Ext.refl w1_) λv10 h10=>?_;have hln11:=zah h10;refine zae u26 h10 ?_;refine zb1 ?_;refine br (λc1=>?_) (λc1=>?_)
 · refine ⟨η1,?_⟩
   have:¬EntI c:=λh=>by have:=h.1;omega
   simp only [this,decide_false]
 refine zaa za7 ?_;refine zab zaK (zap hA1) (Ext.refl w1_) λv15 h15=>?_;have hln16:=zah h15;refine zae u25 h15 ?_;refine zaa zdd ?_;refine zab zc0 (zbb hA1) (Ext.refl w1_) λv18 h18=>?_;have hln19:=zah h18;refine zae u24 h18 ?_;refine zaV ?_;refine br (λc2=>?_) (λc2=>?_)
 · refine ⟨η1,?_⟩
   have:¬EntI c:=λh=>by have:=h.2.1;omega
   simp only [this,decide_false]
 refine zaa za7 ?_;refine zab zaK (zap hA1) (Ext.refl w1_) λv24 h24=>?_;refine zax u25 ty3 h24 (by omega) (by omega) λb25 o25 h25=>?_;refine zac ty3 h25 (Ext.refl w1_) λhI26=>?_;refine zaV ?_;refine br (λc3=>?_) (λc3=>?_)
 · refine ⟨η1,?_⟩
   rw [zbr] at c3;have:¬EntI c:=λh=>c3 h.2.2.1;simp only [this,decide_false]
 refine zaa zaR ?_;refine zab zdn (zal hA1) (Ext.refl w1_) λv30 h30=>?_;have hln31:=zah h30;refine zae u26 h30 ?_;refine zat (c.ins.length) (λk us w'=>us=[.int .i64 (zlF c k:Int),.int .i64 (k:Int)]∧Ext w1_ w'∧(True)) (0) (by omega) ⟨rfl,Ext.refl w1_,trivial⟩ ?_;rintro k m5 uu5 w2_ hk5 ⟨hu,η2,hinv⟩;obtain ⟨hu0,hu1⟩:=zd4 hu;clear hu;try rw [hu0]
 try rw [hu1]
 try clear hu0 hu1
 have hel:=zsf c k;refine zaf ?_;refine br (λc4=>?_) (λc4=>?_)
 · refine zad u26 zbm h30 (by omega) λb34 o34 h34=>?_
   refine zab zbm h34 η2 λv35 h35=>?_;rw [zaE] at h35;refine zcX zhM rfl zbm rfl h35 η2 λw3_ η3 hA5 hV5=>?_;refine zaa za6 ?_;refine zac ty3 (zaA hA5) (Ext.refl w3_) λhI37=>?_;refine zag ?_;refine br (λc5=>?_) (λc5=>?_)
   · refine zaB ?_
     refine zaB ?_;refine ⟨m5-1,by omega,k+1,by omega,by rw [zlF,if_pos c5],(η2.t η3),?_⟩;trivial
   refine zaB ?_;refine ⟨m5-1,by omega,k+1,by omega,by rw [zlF,if_neg c5];rfl,(η2.t η3),?_⟩;trivial
 refine zaa za7 ?_;refine zab zaK (zap hA1) η2 λv44 h44=>?_;have hln45:=zah h44;refine zae u25 h44 ?_;refine zaV ?_;refine br (λc6=>?_) (λc6=>?_)
 · refine ⟨(η1.t η2),?_⟩
   have:¬EntI c:=λh=>c6 (by rw [show k=c.ins.length by omega,h.2.2.2.1]);simp only [this,decide_false]
 refine zaa za7 ?_;refine zab zaK (zap hA1) η2 λv48 h48=>?_;have hln49:=zah h48;refine zae u25 h48 ?_;refine zat (c.entry.length) (λq us w'=>us=[.int .i64 (q:Int)]∧Ext w2_ w'∧(∀ i,i<q→en c i<zdL c i∧zdL c i≤c.ins.length∧(zan c (zdL c i-1).toNat).op=9)) (0) (by omega) ⟨by simp,Ext.refl w2_,λi h=>by omega⟩ ?_;rintro q m13 uu13 w4_ hk13 ⟨hu,η4,hent⟩;try replace hu:=zbG hu
 try rw [hu]
 try clear hu
 refine zaf ?_;refine br (λc7=>?_) (λc7=>?_)
 · have η5:=zai w4_
   refine zaa za7 ?_;refine zab zaK (zap hA1) (η2.t (η4.t η5)) λv54 h54=>?_;refine zad u25 ty3 h54 (by omega) λb56 o56 h56=>?_;refine zac ty3 h56 (η2.t (η4.t η5)) λhI57=>?_;refine zaa zaR ?_;refine zab zdn (zal hA1) (η2.t (η4.t η5)) λv59 h59=>?_;have hln60:=zah h59;refine zae u26 h59 ?_;refine JOIN.mk (λus w'=>us=[.int .i64 (zdL c q)]∧Ext (World.drew1 w4_) w'∧(True)) ?_ ?_
   · refine zaB ?_
     refine zaa za7 ?_;refine zab zaK (zap hA1) (η2.t (η4.t η5)) λv64 h64=>?_;have hln65:=zah h64;refine zae u25 h64 ?_;refine zaf ?_;refine br (λc8=>?_) (λc8=>?_)
     · refine zaa za7 ?_
       refine zab zaK (zap hA1) (η2.t (η4.t η5)) λv68 h68=>?_;refine zaB ?_;refine zad u25 ty3 h68 (by omega) λb71 o71 h71=>?_;refine zac ty3 h71 (η2.t (η4.t η5)) λhI72=>?_;refine ⟨by unfold zdL;rw [if_pos (by omega),zbr],Ext.refl (World.drew1 w4_),?_⟩;trivial
     refine ⟨by unfold zdL;rw [if_neg (by omega)],Ext.refl (World.drew1 w4_),?_⟩;trivial
   rintro uj18 w6_ ⟨hu,η6,hinv⟩;try replace hu:=zbG hu
   try rw [hu]
   try clear hu
   refine zdZ ?_;refine br (λc9=>?_) (λc9=>?_)
   · refine ⟨(η1.t (η2.t (η4.t (η5.t η6)))),?_⟩
     rw [zbr] at c9;have:¬EntI c:=λh=>by have:=(h.2.2.2.2 q (by omega)).1;omega
     simp only [this,decide_false]
   refine zaa zaR ?_;refine zab zdn (zal hA1) (η2.t (η4.t (η5.t η6))) λv79 h79=>?_;have hln80:=zah h79;refine zae u26 h79 ?_;refine zb1 ?_;refine br (λc10=>?_) (λc10=>?_)
   · refine ⟨(η1.t (η2.t (η4.t (η5.t η6)))),?_⟩
     have:¬EntI c:=λh=>by have:=(h.2.2.2.2 q (by omega)).2.1;omega
     simp only [this,decide_false]
   refine zaa zaR ?_;refine zab zdn (zal hA1) (η2.t (η4.t (η5.t η6))) λv85 h85=>?_;rw [zbr] at c3 c9;have hq0:=zgI (Decidable.not_not.1 c3) (q:=q) (by omega) λi hi=>(hent i hi).1;refine za0 (by unfold I64;omega) ?_;refine zax u26 zbm h85 (by omega) (by omega) λb88 o88 h88=>?_;refine zaa za6 ?_;refine zac ty3 (zaA h88) (η2.t (η4.t (η5.t η6))) λhI90=>?_;refine zaV ?_;refine br (λc11=>?_) (λc11=>?_)
   · refine ⟨(η1.t (η2.t (η4.t (η5.t η6)))),?_⟩
     rw [zaE] at c11;have:¬EntI c:=λh=>c11 (h.2.2.2.2 q (by omega)).2.2;simp only [this,decide_false]
   refine zaB ?_;refine ⟨m13-1,by omega,q+1,by omega,by simp,(η4.t (η5.t η6)),?_⟩;rw [zaE] at c11;exact zd7 hent ⟨by omega,by omega,Decidable.not_not.1 c11⟩
 refine ⟨(η1.t (η2.t η4)),?_⟩;rw [zbr] at c3;have:EntI c:=⟨by omega,by omega,Decidable.not_not.1 c3,by rw [show c.ins.length=k by omega];omega,λi hi=>hent i (by omega)⟩;simp only [this,decide_true]
def F181 (a0 a1:Value) (w:World) (R:VW):Prop:=
 oX 28 a0 w λx2 w=>
 rQ a1 (iV 1) w λx7=>
 BR x7
 (rF 28 x2 0 w λx8=>
 rL 24 x8 w λx9=>
 rN 24 3 x9 w λx10=>
 R x10 w)
 (rQ a1 (iV 4) w λx12=>
 BR x12
 (rF 28 x2 2 w λx14=>
 rL 24 x14 w λx15=>
 rN 24 3 x15 w λx16=>
 R x16 w)
 (rQ a1 (iV 5) w λx13=>
 BR x13
 (rF 28 x2 2 w λx14=>
 rL 24 x14 w λx15=>
 rN 24 3 x15 w λx16=>
 R x16 w)
 (rQ a1 (iV 6) w λx18=>
 BR x18
 (rF 28 x2 1 w λx20=>
 rL 24 x20 w λx21=>
 rN 24 3 x21 w λx22=>
 R x22 w)
 (rQ a1 (iV 7) w λx19=>
 BR x19
 (rF 28 x2 1 w λx20=>
 rL 24 x20 w λx21=>
 rN 24 3 x21 w λx22=>
 R x22 w)
 (R (iV 1) w)))))
theorem F181_call {a0 a1 w R} (h:F181 a0 a1 w R):cL 181 [a0,a1] w R:=co (g:=(kf [] [] [])) Tryz.func181 h
theorem zqH {w:World} {v0:Value} {W0:World} {c:DCode} {op:Int}  (h0:Is W0 v0 c) (e0:Ext W0 w)  :
   CALL tp 181 [v0,.int .i64 op] w λr w'=>Ext w w'∧(r=.int .i64 (zbQ c op)):=by
 refine F181_call ?_;unfold F181;refine zao zcv rfl h0 e0 λw1_ η1 hA2 hV2=>?_;refine zag ?_;refine br (λc1=>?_) (λc1=>?_)
 · refine zaa zdR ?_
   refine zab zc0 (zbe hA2) (Ext.refl w1_) λv9 h9=>?_;have hln10:=zah h9;refine zae u24 h9 ?_;refine ⟨η1,?_⟩;unfold zbQ;rw [if_pos c1]
 refine zag ?_;refine br (λc2=>?_) (λc2=>?_)
 · refine zaa zdd ?_
   refine zab zc0 (zbb hA2) (Ext.refl w1_) λv15 h15=>?_;have hln16:=zah h15;refine zae u24 h15 ?_;refine ⟨η1,?_⟩;unfold zbQ;rw [if_neg (by omega),if_pos (by omega)]
 refine zag ?_;refine br (λc3=>?_) (λc3=>?_)
 · refine zaa zdd ?_
   refine zab zc0 (zbb hA2) (Ext.refl w1_) λv15 h15=>?_;have hln16:=zah h15;refine zae u24 h15 ?_;refine ⟨η1,?_⟩;unfold zbQ;rw [if_neg (by omega),if_pos (by omega)]
 refine zag ?_;refine br (λc4=>?_) (λc4=>?_)
 · refine zaa zdD ?_
   refine zab zc0 (zba hA2) (Ext.refl w1_) λv21 h21=>?_;have hln22:=zah h21;refine zae u24 h21 ?_;refine ⟨η1,?_⟩;unfold zbQ;rw [if_neg (by omega),if_neg (by omega),if_pos (by omega)]
 refine zag ?_;refine br (λc5=>?_) (λc5=>?_)
 · refine zaa zdD ?_
   refine zab zc0 (zba hA2) (Ext.refl w1_) λv21 h21=>?_;have hln22:=zah h21;refine zae u24 h21 ?_;refine ⟨η1,?_⟩;unfold zbQ;rw [if_neg (by omega),if_neg (by omega),if_pos (by omega)]
 refine ⟨η1,?_⟩;unfold zbQ;rw [if_neg (by omega),if_neg (by omega),if_neg (by omega)]
def F112 (a0 a1 a2 a3:Value) (w:World) (R:VW):Prop:=
 oX 28 a0 w λx4 w=>
 oX 118 a1 w λx5 w=>
 (λw=>rF 118 x5 0 w λx11=>
 rL 3 x11 w λx12=>
 rB .lss 3 T0 U0 x12 (iV 1) w λx13=>
 BR x13
 (R vF w)
 (rF 118 x5 0 w λx15=>
 rL 3 x15 w λx16=>
 rB .gtr 3 T0 U0 x16 (iV 9) w λx17=>
 BR x17
 (R vF w)
 (rF 118 x5 1 w λx20=>
 rL 3 x20 w λx21=>
 rB .lss 3 T0 U0 x21 (iV 0) w λx22=>
 BR x22
 (R vF w)
 (rF 118 x5 1 w λx25=>
 rL 3 x25 w λx26=>
 rL 28 x4 w λx27=>
 rF 118 x5 0 w λx28=>
 rL 3 x28 w λx29=>
 (λw_=>cL 181 [x27,x29] w_ λx30 w=>
 Ext w_ w ∧
 rB .geq 3 T0 T0 x26 x30 w λx31=>
 BR x31
 (R vF w)
 (JOIN [] (λJ14=>
 rF 118 x5 0 w λx33=>
 rL 3 x33 w λx34=>
 rQ x34 (iV 1) w λx35=>
 BR x35
 (rF 118 x5 2 w λx41=>
 rL 116 x41 w λx42=>
 cL 182 [x42] w λx43 w=>
 rT x43 w λx44=>
 BR x44
 (R vF w)
 (rF 118 x5 2 w λx45=>
 rL 116 x45 w λx46=>
 cL 183 [x46] w λx47 w=>
 rN 24 3 x47 w λx48=>
 LOOPI [49] [(iV 0)] w λu7 w n7=>
 rC (u7 49) x48 w λx50=>
 BR x50
 (rX 24 x47 (u7 49) w λx51=>
 rL 9 x51 w λx52=>
 rF 28 x4 0 w λx53=>
 rL 24 x53 w λx54=>
 cL 180 [x54,x52] w λx56 w=>
 rT x56 w λx57=>
 BR x57
 (R vF w)
 (rI (u7 49) w λx58=>
 n7 [x58] w))
 (J14 [] w)))
 (rF 118 x5 0 w λx37=>
 rL 3 x37 w λx38=>
 rQ x38 (iV 2) w λx39=>
 BR x39
 (rF 118 x5 2 w λx41=>
 rL 116 x41 w λx42=>
 cL 182 [x42] w λx43 w=>
 rT x43 w λx44=>
 BR x44
 (R vF w)
 (rF 118 x5 2 w λx45=>
 rL 116 x45 w λx46=>
 cL 183 [x46] w λx47 w=>
 rN 24 3 x47 w λx48=>
 LOOPI [49] [(iV 0)] w λu7 w n7=>
 rC (u7 49) x48 w λx50=>
 BR x50
 (rX 24 x47 (u7 49) w λx51=>
 rL 9 x51 w λx52=>
 rF 28 x4 0 w λx53=>
 rL 24 x53 w λx54=>
 cL 180 [x54,x52] w λx56 w=>
 rT x56 w λx57=>
 BR x57
 (R vF w)
 (rI (u7 49) w λx58=>
 n7 [x58] w))
 (J14 [] w)))
 (rF 118 x5 2 w λx59=>
 rL 116 x59 w λx60=>
 cL 184 [x60] w λx61 w=>
 rT x61 w λx62=>
 BR x62
 (R vF w)
 (J14 [] w)))) (λu14 w=>
 rF 118 x5 0 w λx63=>
 rL 3 x63 w λx64=>
 rQ x64 (iV 2) w λx65=>
 BR x65
 (rF 118 x5 3 w λx71=>
 rL 3 x71 w λx72=>
 rB .geq 3 T0 T0 x72 a2 w λx74=>
 BR x74
 (rF 118 x5 3 w λx76=>
 rL 3 x76 w λx77=>
 rC x77 a3 w λx79=>
 R x79 w)
 (R vF w))
 (rF 118 x5 0 w λx67=>
 rL 3 x67 w λx68=>
 rQ x68 (iV 3) w λx69=>
 BR x69
 (rF 118 x5 3 w λx71=>
 rL 3 x71 w λx72=>
 rB .geq 3 T0 T0 x72 a2 w λx74=>
 BR x74
 (rF 118 x5 3 w λx76=>
 rL 3 x76 w λx77=>
 rC x77 a3 w λx79=>
 R x79 w)
 (R vF w))
 (rF 118 x5 3 w λx81=>
 rL 3 x81 w λx82=>
 rQ x82 (iV 0) w λx83=>
 R x83 w))))) w)))) (World.drew1 w)
theorem F112_call {a0 a1 a2 a3 w R} (h:F112 a0 a1 a2 a3 w R):cL 112 [a0,a1,a2,a3] w R:=co (g:=(kf [(14,9223372028264842496,[])] [(7,575897802350003456,[49])] [(1,[0,1,2,3,4,5,6,7,8,9,10,11,12,13,14,15,16,17,18,19,20,21],524288)])) Tryz.func112 h
theorem zoz {w:World} {v0:Value} {W0:World} {c:DCode} {v1:Value} {W1:World} {a:DIns} {b:Int} {e:Int}  (h0:Is W0 v0 c) (e0:Ext W0 w) (h1:Is W1 v1 a) (e1:Ext W1 w)  :
   CALL tp 112 [v0,v1,.int .i64 b,.int .i64 e] w λr w'=>Ext w w'∧(r=.bool (decide (zgx c a b e))):=by
 refine F112_call ?_;unfold F112;refine zao zcv rfl h0 e0 λw1_ η1 hA4 hV4=>?_;refine zao zbm rfl h1 (e1.trans η1) λw2_ η2 hA5 hV5=>?_;have η3:=zai w2_;refine zaa za6 ?_;refine zac ty3 (zaA hA5) η3 λhI12=>?_;refine zaf ?_;refine br (λc1=>?_) (λc1=>?_)
 · refine ⟨(η1.t (η2.t η3)),?_⟩
   have:¬zgx c a b e:=λh=>by have:=h.1;omega
   simp only [this,decide_false]
 refine zaa za6 ?_;refine zac ty3 (zaA hA5) η3 λhI16=>?_;refine zb1 ?_;refine br (λc2=>?_) (λc2=>?_)
 · refine ⟨(η1.t (η2.t η3)),?_⟩
   have:¬zgx c a b e:=λh=>by have:=h.1;omega
   simp only [this,decide_false]
 refine zaa zaZ ?_;refine zac ty3 (zaw hA5) η3 λhI21=>?_;refine zaf ?_;refine br (λc3=>?_) (λc3=>?_)
 · refine ⟨(η1.t (η2.t η3)),?_⟩
   have:¬zgx c a b e:=λh=>by have:=h.2.1;omega
   simp only [this,decide_false]
 refine zaa zaZ ?_;refine zac ty3 (zaw hA5) η3 λhI26=>?_;refine zau hV4 (η2.t η3) ?_;refine zaa za6 ?_;refine zac ty3 (zaA hA5) η3 λhI29=>?_;refine (zqH h0 (e0.t (η1.t (η2.t η3)))).mono ?_;rintro _ w4_ ⟨η4,rfl⟩;refine ⟨η4,?_⟩;refine zbW ?_;refine br (λc4=>?_) (λc4=>?_)
 · refine ⟨(η1.t (η2.t (η3.t η4))),?_⟩
   have:¬zgx c a b e:=λh=>by have:=h.2.1;omega
   simp only [this,decide_false]
 refine JOIN.mk (λus w'=>us=[]∧Ext w4_ w'∧(if a.op=1∨a.op=2 then zaU 6 a.term=true∧(∀ s∈zbI a.term,s∈c.globals) else a.term=term0)) ?_ ?_
 · refine zaa za6 ?_
   refine zac ty3 (zaA hA5) (η3.t η4) λhI34=>?_;refine zag ?_;refine br (λc5=>?_) (λc5=>?_)
   · refine zaa zdo ?_
     refine zab za4 (zb3 hA5) (η3.t η4) λv42 h42=>?_;refine (zft h42 (η3.t η4)).mono ?_;rintro _ w6_ ⟨η6,rfl⟩;refine za1 ?_;refine zcd (λc6=>?_) (λc6=>?_)
     · refine ⟨(η1.t (η2.t (η3.t (η4.t η6)))),?_⟩
       have:¬zgx c a b e:=λh=>by have:=h.2.2.1;rw [if_pos (.inl c5)] at this;rw [this.1] at c6;cases c6
       simp only [this,decide_false]
     refine zaa zdo ?_;refine zab za4 (zb3 hA5) (η3.t (η4.t η6)) λv46 h46=>?_;refine (zgw h46 (η3.t (η4.t η6))).mono ?_;rintro r47 w7_ ⟨η7,h47⟩;have hln48:=zah h47;refine zae u24 h47 ?_;refine zat ((zbI a.term).length) (λk us w'=>us=[.int .i64 (k:Int)]∧Ext w7_ w'∧(∀ s∈(zbI a.term).take k,s∈c.globals)) (0) (by omega) ⟨by simp,Ext.refl w7_,by simp⟩ ?_;rintro k m7 uu7 w8_ hk7 ⟨hu,η8,hinv⟩;try replace hu:=zbG hu
     try rw [hu]
     try clear hu
     refine zaf ?_;refine br (λc7=>?_) (λc7=>?_)
     · refine zad u24 ty9 h47 (by omega) λb51 o51 h51=>?_
       refine zaq ty9 h51 η8 λhS52=>?_;refine zaa zdR ?_;refine zab zc0 (zbe hA4) (η2.t (η3.t (η4.t (η6.t (η7.t η8))))) λv54 h54=>?_;refine (zc4 h54 (η2.t (η3.t (η4.t (η6.t (η7.t η8)))))).mono ?_;rintro _ w9_ ⟨η9,rfl⟩;refine zav ?_;refine br (λc8=>?_) (λc8=>?_)
       · refine ⟨(η1.t (η2.t (η3.t (η4.t (η6.t (η7.t (η8.t η9))))))),?_⟩
         have:¬zgx c a b e:=λh=>by
           have:=h.2.2.1;rw [if_pos (.inl c5)] at this;exact c8 (this.2 _ (List.getElem_mem (n:=k) (by omega)))
         simp only [this,decide_false]
       refine zaB ?_;refine ⟨m7-1,by omega,k+1,by omega,by simp,(η8.t η9),?_⟩;intro s hs;rw [tk (by omega)] at hs;rcases List.mem_append.1 hs with hs | hs
       · exact hinv s hs
       simp only [List.mem_cons,List.not_mem_nil,or_false] at hs;subst hs;exact Decidable.not_not.1 c8
     refine ⟨by simp,(η6.t (η7.t η8)),?_⟩;rw [if_pos (.inl c5)];rw [List.take_of_length_le (by omega)] at hinv;exact ⟨by simpa using c6,hinv⟩
   refine zaa za6 ?_;refine zac ty3 (zaA hA5) (η3.t η4) λhI38=>?_;refine zag ?_;refine br (λc9=>?_) (λc9=>?_)
   · refine zaa zdo ?_
     refine zab za4 (zb3 hA5) (η3.t η4) λv42 h42=>?_;refine (zft h42 (η3.t η4)).mono ?_;rintro _ w10_ ⟨η10,rfl⟩;refine za1 ?_;refine zcd (λc10=>?_) (λc10=>?_)
     · refine ⟨(η1.t (η2.t (η3.t (η4.t η10)))),?_⟩
       have:¬zgx c a b e:=λh=>by have:=h.2.2.1;rw [if_pos (.inr c9)] at this;rw [this.1] at c10;cases c10
       simp only [this,decide_false]
     refine zaa zdo ?_;refine zab za4 (zb3 hA5) (η3.t (η4.t η10)) λv46 h46=>?_;refine (zgw h46 (η3.t (η4.t η10))).mono ?_;rintro r47 w11_ ⟨η11,h47⟩;have hln48:=zah h47;refine zae u24 h47 ?_;refine zat ((zbI a.term).length) (λk us w'=>us=[.int .i64 (k:Int)]∧Ext w11_ w'∧(∀ s∈(zbI a.term).take k,s∈c.globals)) (0) (by omega) ⟨by simp,Ext.refl w11_,by simp⟩ ?_;rintro k m7 uu7 w12_ hk7 ⟨hu,η12,hinv⟩;try replace hu:=zbG hu
     try rw [hu]
     try clear hu
     refine zaf ?_;refine br (λc11=>?_) (λc11=>?_)
     · refine zad u24 ty9 h47 (by omega) λb51 o51 h51=>?_
       refine zaq ty9 h51 η12 λhS52=>?_;refine zaa zdR ?_;refine zab zc0 (zbe hA4) (η2.t (η3.t (η4.t (η10.t (η11.t η12))))) λv54 h54=>?_;refine (zc4 h54 (η2.t (η3.t (η4.t (η10.t (η11.t η12)))))).mono ?_;rintro _ w13_ ⟨η13,rfl⟩;refine zav ?_;refine br (λc12=>?_) (λc12=>?_)
       · refine ⟨(η1.t (η2.t (η3.t (η4.t (η10.t (η11.t (η12.t η13))))))),?_⟩
         have:¬zgx c a b e:=λh=>by
           have:=h.2.2.1;rw [if_pos (.inr c9)] at this;exact c12 (this.2 _ (List.getElem_mem (n:=k) (by omega)))
         simp only [this,decide_false]
       refine zaB ?_;refine ⟨m7-1,by omega,k+1,by omega,by simp,(η12.t η13),?_⟩;intro s hs;rw [tk (by omega)] at hs;rcases List.mem_append.1 hs with hs | hs
       · exact hinv s hs
       simp only [List.mem_cons,List.not_mem_nil,or_false] at hs;subst hs;exact Decidable.not_not.1 c12
     refine ⟨by simp,(η10.t (η11.t η12)),?_⟩;rw [if_pos (.inr c9)];rw [List.take_of_length_le (by omega)] at hinv;exact ⟨by simpa using c10,hinv⟩
   refine zaa zdo ?_;refine zab za4 (zb3 hA5) (η3.t η4) λv60 h60=>?_;refine (zlz h60 (η3.t η4)).mono ?_;rintro _ w14_ ⟨η14,rfl⟩;refine zav ?_;refine br (λc13=>?_) (λc13=>?_)
   · refine ⟨(η1.t (η2.t (η3.t (η4.t η14)))),?_⟩
     have:¬zgx c a b e:=λh=>by have:=h.2.2.1;rw [if_neg (by omega)] at this;exact c13 this
     simp only [this,decide_false]
   refine ⟨by simp,η14,?_⟩;rw [if_neg (by omega)];exact Decidable.not_not.1 c13
 rintro uj14 w5_ ⟨hu,η14,hT⟩;try replace hu:=zbG hu
 clear hu;refine zaa za6 ?_;refine zac ty3 (zaA hA5) (η3.t (η4.t η14)) λhI64=>?_;refine zag ?_;refine br (λc14=>?_) (λc14=>?_)
 · refine zaa zcC ?_
   refine zac ty3 (zbB hA5) (η3.t (η4.t η14)) λhI72=>?_;refine zbW ?_;refine br (λc15=>?_) (λc15=>?_)
   · refine zaa zcC ?_
     refine zac ty3 (zbB hA5) (η3.t (η4.t η14)) λhI77=>?_;refine zaf ?_;refine ⟨(η1.t (η2.t (η3.t (η4.t η14)))),?_⟩
     first
       | (have no:¬zgx c a b e:=λh=>by
           have h4:=h.2.2.2;rw [if_pos (by omega)] at h4;omega
          simp only [no,decide_false]
          done)
       | (congr 1
          rw [decide_eq_decide];constructor
          · exact λh=>⟨by omega,by omega,hT,by first | (rw [if_pos (by omega)];omega) | (rw [if_neg (by omega)];omega)⟩
          intro h;have h4:=h.2.2.2
          first | (rw [if_pos (by omega)] at h4;omega) | (rw [if_neg (by omega)] at h4;omega))
   refine ⟨(η1.t (η2.t (η3.t (η4.t η14)))),?_⟩
   first
     | (have no:¬zgx c a b e:=λh=>by
         have h4:=h.2.2.2;rw [if_pos (by omega)] at h4;omega
        simp only [no,decide_false]
        done)
     | (congr 1
        rw [decide_eq_decide];constructor
        · exact λh=>⟨by omega,by omega,hT,by first | (rw [if_pos (by omega)];omega) | (rw [if_neg (by omega)];omega)⟩
        intro h;have h4:=h.2.2.2
        first | (rw [if_pos (by omega)] at h4;omega) | (rw [if_neg (by omega)] at h4;omega))
 refine zaa za6 ?_;refine zac ty3 (zaA hA5) (η3.t (η4.t η14)) λhI68=>?_;refine zag ?_;refine br (λc16=>?_) (λc16=>?_)
 · refine zaa zcC ?_
   refine zac ty3 (zbB hA5) (η3.t (η4.t η14)) λhI72=>?_;refine zbW ?_;refine br (λc17=>?_) (λc17=>?_)
   · refine zaa zcC ?_
     refine zac ty3 (zbB hA5) (η3.t (η4.t η14)) λhI77=>?_;refine zaf ?_;refine ⟨(η1.t (η2.t (η3.t (η4.t η14)))),?_⟩
     first
       | (have no:¬zgx c a b e:=λh=>by
           have h4:=h.2.2.2;rw [if_pos (by omega)] at h4;omega
          simp only [no,decide_false]
          done)
       | (congr 1
          rw [decide_eq_decide];constructor
          · exact λh=>⟨by omega,by omega,hT,by first | (rw [if_pos (by omega)];omega) | (rw [if_neg (by omega)];omega)⟩
          intro h;have h4:=h.2.2.2
          first | (rw [if_pos (by omega)] at h4;omega) | (rw [if_neg (by omega)] at h4;omega))
   refine ⟨(η1.t (η2.t (η3.t (η4.t η14)))),?_⟩
   first
     | (have no:¬zgx c a b e:=λh=>by
         have h4:=h.2.2.2;rw [if_pos (by omega)] at h4;omega
        simp only [no,decide_false]
        done)
     | (congr 1
        rw [decide_eq_decide];constructor
        · exact λh=>⟨by omega,by omega,hT,by first | (rw [if_pos (by omega)];omega) | (rw [if_neg (by omega)];omega)⟩
        intro h;have h4:=h.2.2.2
        first | (rw [if_pos (by omega)] at h4;omega) | (rw [if_neg (by omega)] at h4;omega))
 refine zaa zcC ?_;refine zac ty3 (zbB hA5) (η3.t (η4.t η14)) λhI82=>?_;refine zag ?_;refine ⟨(η1.t (η2.t (η3.t (η4.t η14)))),?_⟩
 first
   | (have no:¬zgx c a b e:=λh=>by
       have h4:=h.2.2.2;rw [if_pos (by omega)] at h4;omega
      simp only [no,decide_false]
      done)
   | (congr 1
      rw [decide_eq_decide];constructor
      · exact λh=>⟨by omega,by omega,hT,by first | (rw [if_pos (by omega)];omega) | (rw [if_neg (by omega)];omega)⟩
      intro h;have h4:=h.2.2.2
      first | (rw [if_pos (by omega)] at h4;omega) | (rw [if_neg (by omega)] at h4;omega))
def F111 (a0 a1:Value) (w:World) (R:VW):Prop:=
 oX 28 a0 w λx2 w=>
 rI a1 w λx6=>
 rF 28 x2 3 w λx7=>
 rL 25 x7 w λx8=>
 rN 25 3 x8 w λx9=>
 rC x6 x9 w λx10=>
 BR x10
 (rF 28 x2 3 w λx11=>
 rL 25 x11 w λx12=>
 rI a1 w λx14=>
 rX 25 x12 x14 w λx15=>
 rL 3 x15 w λx16=>
 R x16 w)
 (rF 28 x2 4 w λx17=>
 rL 26 x17 w λx18=>
 rN 26 3 x18 w λx19=>
 R x19 w)
theorem F111_call {a0 a1 w R} (h:F111 a0 a1 w R):cL 111 [a0,a1] w R:=co (g:=(kf [] [] [])) Tryz.func111 h
theorem zeF {w:World} {v0:Value} {W0:World} {c:DCode} {i:Nat}  (h0:Is W0 v0 c) (e0:Ext W0 w) (hi:i<1000000000000) :
   CALL tp 111 [v0,.int .i64 (i:Int)] w λr w'=>Ext w w'∧(r=.int .i64 (zdL c i)):=by
 refine F111_call ?_;unfold F111;refine zao zcv rfl h0 e0 λw1_ η1 hA2 hV2=>?_;refine zaB ?_;refine zaa za7 ?_;refine zab zaK (zap hA2) (Ext.refl w1_) λv8 h8=>?_;have hln9:=zah h8;refine zae u25 h8 ?_;refine zaf ?_;refine br (λc1=>?_) (λc1=>?_)
 · refine zaa za7 ?_
   refine zab zaK (zap hA2) (Ext.refl w1_) λv12 h12=>?_;refine zaB ?_;refine zad u25 ty3 h12 (by omega) λb15 o15 h15=>?_;refine zac ty3 h15 (Ext.refl w1_) λhI16=>?_;refine ⟨η1,?_⟩;unfold zdL;rw [if_pos (by omega),zbr]
 refine zaa zaR ?_;refine zab zdn (zal hA2) (Ext.refl w1_) λv18 h18=>?_;have hln19:=zah h18;refine zae u26 h18 ?_;refine ⟨η1,?_⟩;unfold zdL;rw [if_neg (by omega)]
structure EntF (c:DCode):Prop where
 len:c.entry.length=c.procs.length
 ins:c.ins.length≤1500
 zero:en c 0=0
 lt:∀ i,i<c.entry.length→en c i<zdL c i∧zdL c i≤c.ins.length
theorem EntF.nonneg {c:DCode} (h:EntF c) {i:Nat} (hi:i<c.entry.length):0≤en c i:=zgI h.zero hi λj hj=>(h.lt j (by omega)).1
theorem EntF.step {c:DCode} (h:EntF c) {i:Nat} (hi:i+1<c.entry.length):zdL c i=en c (i+1):=by unfold zdL;rw [if_pos hi]
theorem EntF.last {c:DCode} (h:EntF c) {i:Nat} (hi:i+1=c.entry.length):zdL c i=c.ins.length:=by unfold zdL;rw [if_neg (by omega)]
theorem EntF.mono {c:DCode} (h:EntF c):∀ {i j:Nat},i<j→j<c.entry.length→zdL c i≤en c j
 | i,j+1,hij,hj=>by
   by_cases e:i=j
   · subst e;rw [h.step hj];exact Int.le_refl _
   have h1:=h.mono (i:=i) (j:=j) (by omega) (by omega);have h2:=(h.lt j (by omega)).1;rw [h.step hj] at h2;omega
theorem EntF.proc {c:DCode} (h:EntF c) {i:Nat} {a:Int} (hi:i<c.entry.length) (h1:en c i≤a) (h2:a<zdL c i):zaH c a=i:=by
 unfold zaH;rw [ziS (m:=i+1) (by omega) λj hj1 hj2=>by have:=h.mono (i:=i) (j:=j) (by omega) hj2;omega];rw [prc,if_pos h1]
theorem EntF.find {c:DCode} (h:EntF c) (hp:0<c.procs.length) {a:Int} (h0:0≤a) (h1:a<c.ins.length):∃ i,i<c.entry.length∧en c i≤a∧a<zdL c i∧zaH c a=i:=by
 have hlen:=h.len;have h2:0≤zaH c a:=zhT (by rw [h.zero];exact h0) (by omega);have h3:=(zha (c:=c) (a:=a)).2
 have key:∀ n,n≤c.entry.length→(∀ j,n≤j→j<c.entry.length→a<en c j)→0<n→∃ i,i<n∧en c i≤a∧a<zdL c i:=by
   intro n
   induction n with
   | zero=>intro _ _ h;omega
   | succ n ih=>
     intro hn hj _;by_cases hle:en c n≤a
     · refine ⟨n,by omega,hle,?_⟩
       by_cases hl:n+1<c.entry.length
       · rw [h.step hl];exact hj (n+1) (by omega) hl
       rw [h.last (by omega)];exact h1
     by_cases h0n:n=0
     · subst h0n;rw [h.zero] at hle;omega
     obtain ⟨i,hi,hx⟩:=ih (by omega) (λj hj1 hj2=>by
       by_cases e:j=n
       · subst e;omega
       exact hj j (by omega) hj2) (by omega)
     exact ⟨i,by omega,hx⟩
 obtain ⟨i,hi,hx,hy⟩:=key c.entry.length (lr _) (λj hj1 hj2=>by omega) (by omega);exact ⟨i,hi,hx,hy,h.proc hi hx hy⟩
theorem EntS.f {c:DCode} (h:EntS c) (hp:0<c.procs.length):EntF c:=by
 obtain ⟨h1,h2,h3,h4⟩:=h;refine ⟨h1,h2,(h3 0 (by omega)).1 rfl,λi hi=>?_⟩;unfold zdL;split
 · rename_i hl
   have:=h3 (i+1) hl;have h5:=this.2.1 (by omega);simp only [Nat.add_sub_cancel] at h5;exact ⟨h5,by omega⟩
 exact ⟨(h3 i hi).2.2,Int.le_refl _⟩
theorem EntI.f {c:DCode} (h:EntI c):EntF c:=⟨h.2.1,h.1,h.2.2.1,λi hi=>⟨(h.2.2.2.2 i hi).1,(h.2.2.2.2 i hi).2.1⟩⟩
theorem zsg (c:DCode) (a:Nat):∀ (d:Nat),zlF c a≤zlF c (a+d)∧(zlF c (a+d)=zlF c a↔∀ j,a≤j→j<a+d→¬(zan c j).op=9)
 | 0=>⟨Nat.le_refl _,⟨λ_ j h1 h2=>by omega,λ_=>rfl⟩⟩
 | d+1=>by
   obtain ⟨h1,h2⟩:=zsg c a d;rw [←Nat.add_assoc,zlF];refine ⟨by omega,?_⟩;split
   · rename_i h9
     exact ⟨λh=>by omega,λh=>absurd h9 (h (a+d) (by omega) (by omega))⟩
   rename_i h9
   rw [Nat.add_zero,h2];constructor
   · intro h j hj1 hj2
     by_cases e:j=a+d
     · subst e;exact h9
     exact h j hj1 (by omega)
   exact λh j hj1 hj2=>h j hj1 (by omega)
def eb (c:DCode) (n:Nat):Nat:=if n=0 then 0 else (zdL c (n-1)).toNat
theorem EntF.eb_en {c:DCode} (h:EntF c) {n:Nat} (hn:n<c.entry.length):(eb c n:Int)=en c n:=by
 unfold eb;split
 · rename_i h0;subst h0;rw [h.zero];rfl
 have h1:=h.nonneg hn
 have h2:zdL c (n-1)=en c n:=by
   have:=h.step (i:=n-1) (by omega)
   rwa [show n-1+1=n by omega] at this
 rw [h2];omega
theorem EntF.eb_succ {c:DCode} (h:EntF c) {n:Nat} (hn:n<c.entry.length):(eb c (n+1):Int)=zdL c n:=by
 unfold eb;rw [if_neg (by omega),Nat.add_sub_cancel];have:=(h.lt n hn).1;have:=h.nonneg hn;omega
theorem zhU {c:DCode} (h:EntF c) (he:∀ i,i<c.entry.length→(zan c (zdL c i-1).toNat).op=9):∀ n,n≤c.entry.length →
   n≤zlF c (eb c n)∧(zlF c (eb c n)=n↔∀ j:Nat,j<eb c n→(zan c j).op=9→∃ i,i<n∧zdL c i=j+1)
 | 0,_=>⟨Nat.zero_le _,⟨λ_ j hj=>by simp [eb] at hj,λ_=>rfl⟩⟩
 | n+1,hn=>by
   obtain ⟨h1,h2⟩:=zhU h he n (by omega);have ha:=h.eb_en (n:=n) (by omega);have hb:=h.eb_succ (n:=n) (by omega);have hlt:=(h.lt n (by omega)).1;have h9:=he n (by omega);have e9:(zdL c n-1).toNat=eb c (n+1)-1:=by omega
   rw [e9] at h9;obtain ⟨d,hd⟩:∃ d,eb c (n+1)=eb c n+d+1:=⟨eb c (n+1)-eb c n-1,by omega⟩;have hd':eb c (n+1)-1=eb c n+d:=by omega
   rw [hd'] at h9;obtain ⟨h3,h4⟩:=zsg c (eb c n) d;rw [hd,zlF,if_pos h9];refine ⟨by omega,?_⟩;have hsplit:zlF c (eb c n+d)+1=n+1↔(zlF c (eb c n)=n∧zlF c (eb c n+d)=zlF c (eb c n)):=by omega
   rw [hsplit,h2,h4];constructor
   · rintro ⟨p1,p2⟩ j hj hj9
     by_cases hja:j<eb c n
     · obtain ⟨i,hi,hx⟩:=p1 j hja hj9
       exact ⟨i,by omega,hx⟩
     by_cases hje:j=eb c n+d
     · exact ⟨n,by omega,by omega⟩
     exact absurd hj9 (p2 j (by omega) (by omega))
   intro p;constructor
   · intro j hj hj9
     obtain ⟨i,hi,hx⟩:=p j (by omega) hj9;by_cases hin:i=n
     · subst hin;omega
     exact ⟨i,by omega,hx⟩
   intro j hj1 hj2 hj9;obtain ⟨i,hi,hx⟩:=p j (by omega) hj9;by_cases hin:i=n
   · subst hin;omega
   have:=h.mono (i:=i) (j:=n) (by omega) (by omega);omega
theorem zsh {c:DCode} (hp:0<c.procs.length):EntI c↔EntS c:=by
 constructor
 · intro h
   have hf:=h.f;obtain ⟨_,_,_,hc,hall⟩:=h;have hlen:=hf.len;have he:∀ i,i<c.entry.length→(zan c (zdL c i-1).toNat).op=9:=λi hi=>(hall i hi).2.2;obtain ⟨_,h2⟩:=zhU hf he c.entry.length (lr _)
   have hb:eb c c.entry.length=c.ins.length:=by
     have:=hf.eb_succ (n:=c.entry.length-1) (by omega);rw [hf.last (by omega),show c.entry.length-1+1=c.entry.length by omega] at this;omega
   rw [hb] at h2;have h3:=h2.1 hc;refine ⟨hf.len,hf.ins,λi hi=>⟨λ_=>hf.zero,λh0=>?_,?_⟩,λj hj=>?_⟩
   · have h4:=(hf.lt (i-1) (by omega)).1
     have h5:=hf.step (i:=i-1) (by omega);rw [show i-1+1=i by omega] at h5;omega
   · have:=hf.lt i hi;omega
   obtain ⟨i,hi,hx,hy,hpr⟩:=hf.find hp (a:=j) (by omega) (by omega);rw [hpr,zds];constructor
   · intro h9
     obtain ⟨i',hi',hx'⟩:=h3 j hj h9;have:=hf.lt i' hi';have hpr':=hf.proc (a:=j) hi' (by omega) (by omega);have:i'=i:=by omega
     subst this;omega
   intro h9;have:=he i hi
   rwa [show (zdL c i-1).toNat=j by omega] at this
 intro h;have hf:=h.f hp;have hlen:=hf.len;have h4:=h.2.2.2
 have he:∀ i,i<c.entry.length→(zan c (zdL c i-1).toNat).op=9:=λi hi=>by
   have h1:=hf.lt i hi;have h0:=hf.nonneg hi;have:=(h4 (zdL c i-1).toNat (by omega)).2;refine this ?_;rw [hf.proc (i:=i) hi (by omega) (by omega),zds];omega
 obtain ⟨_,h2⟩:=zhU hf he c.entry.length (lr _)
 have hb:eb c c.entry.length=c.ins.length:=by
   have:=hf.eb_succ (n:=c.entry.length-1) (by omega);rw [hf.last (by omega),show c.entry.length-1+1=c.entry.length by omega] at this;omega
 rw [hb] at h2;refine ⟨hf.ins,hf.len,hf.zero,h2.2 λj hj h9=>?_,λi hi=>⟨(hf.lt i hi).1,(hf.lt i hi).2,he i hi⟩⟩;obtain ⟨i,hi,hx,hy,hpr⟩:=hf.find hp (a:=j) (by omega) (by omega);have:=(h4 j hj).1 h9;rw [hpr,zds] at this;exact ⟨i,hi,by omega⟩
theorem zmP {c:DCode} (hn:NamesR c) (he:EntI c):CodeR c↔∀ i,i<c.entry.length→∀ j:Nat,en c i≤j→(j:Int)<zdL c i→zgx c (zan c j) (en c i) (zdL c i):=by
 have hf:=he.f;have hp:=hn.procs8.2;constructor
 · intro h i hi j h1 h2
   have h3:=hf.lt i hi;have:=h.2.2 j (by omega);rw [hf.proc hi h1 h2,zds,Int.toNat_natCast] at this
   rwa [Int.sub_add_cancel] at this
 intro h;refine ⟨hn,(zsh hp).1 he,λj hj=>?_⟩;obtain ⟨i,hi,hx,hy,hpr⟩:=hf.find hp (a:=j) (by omega) (by omega);rw [hpr,zds,Int.toNat_natCast,Int.sub_add_cancel];exact h i hi j hx hy
def F60 (a0:Value) (w:World) (R:VW):Prop:=
 oX 28 a0 w λx1 w=>
 rL 28 x1 w λx8=>
 cL 109 [x8] w λx9 w=>
 rT x9 w λx10=>
 BR x10
 (R vF w)
 (rL 28 x1 w λx12=>
 cL 110 [x12] w λx13 w=>
 rT x13 w λx14=>
 BR x14
 (R vF w)
 (rF 28 x1 3 w λx16=>
 rL 25 x16 w λx17=>
 rN 25 3 x17 w λx18=>
 LOOPI [19] [(iV 0)] w λu4 w n4=>
 rC (u4 19) x18 w λx20=>
 BR x20
 (rX 25 x17 (u4 19) w λx22=>
 rL 3 x22 w λx23=>
 rL 28 x1 w λx24=>
 cL 111 [x24,(u4 19)] w λx26 w=>
 rF 28 x1 4 w λx27=>
 rL 26 x27 w λx28=>
 rD (Instr.sliceAt 26 x28 (some x23) (some x26) none) w λx31=>
 rN 26 3 x31 w λx32=>
 LOOPI [33] [(iV 0)] w λu8 w n8=>
 rC (u8 33) x32 w λx34=>
 BR x34
 (rX 26 x31 (u8 33) w λx35=>
 rL 118 x35 w λx36=>
 oP (aL 118) w λx7 w=>
 oS 118 x7 x36 w λw=>
 rL 28 x1 w λx37=>
 rL 118 x7 w λx38=>
 cL 112 [x37,x38,x23,x26] w λx41 w=>
 rT x41 w λx42=>
 BR x42
 (R vF w)
 (rI (u8 33) w λx43=>
 n8 [x43] w))
 (rI (u4 19) w λx44=>
 n4 [x44] w))
 (R vT w)))
theorem F60_call {a0 w R} (h:F60 a0 w R):cL 60 [a0] w R:=co (g:=(kf [] [(4,35184371564732,[19]),(8,17583596109956,[33])] [])) Tryz.func60 h
theorem zhb {w:World} {v0:Value} {W0:World} {c:DCode}  (h0:Is W0 v0 c) (e0:Ext W0 w)  :
   CALL tp 60 [v0] w λr w'=>Ext w w'∧(r=.bool (decide (CodeR c))):=by
 refine F60_call ?_;unfold F60;refine zao zcv rfl h0 e0 λw1_ η1 hA1 hV1=>?_;refine zau hV1 (Ext.refl w1_) ?_;refine (zlE h0 (e0.t η1)).mono ?_;rintro _ w2_ ⟨η2,rfl⟩;refine zav ?_;refine br (λc1=>?_) (λc1=>?_)
 · refine ⟨(η1.t η2),?_⟩
   have:¬CodeR c:=λh=>c1 h.1;simp only [this,decide_false]
 refine zau hV1 η2 ?_;refine (zjx h0 (e0.t (η1.t η2)) (Decidable.not_not.1 c1).procs8.2).mono ?_;rintro _ w3_ ⟨η3,rfl⟩;refine zav ?_;refine br (λc2=>?_) (λc2=>?_)
 · refine ⟨(η1.t (η2.t η3)),?_⟩
   have:¬CodeR c:=λh=>c2 ((zsh h.1.procs8.2).2 h.2.1);simp only [this,decide_false]
 refine zaa za7 ?_;refine zab zaK (zap hA1) (η2.t η3) λv17 h17=>?_;have hln18:=zah h17;refine zae u25 h17 ?_;refine zat (c.entry.length) (λq us w'=>us=[.int .i64 (q:Int)]∧Ext w3_ w'∧(∀ i,i<q→∀ j:Nat,en c i≤j→(j:Int)<zdL c i→zgx c (zan c j) (en c i) (zdL c i))) (0) (by omega) ⟨by simp,Ext.refl w3_,λi h=>by omega⟩ ?_;rintro q m4 uu4 w4_ hk4 ⟨hu,η4,hent⟩;try replace hu:=zbG hu
 try rw [hu]
 try clear hu
 replace c1:=Decidable.not_not.1 c1;replace c2:=Decidable.not_not.1 c2;have hln4:=zah h17
 refine zaf ?_;refine br (λc3=>?_) (λc3=>?_)
 · refine zad u25 ty3 h17 (by omega) λb22 o22 h22=>?_
   refine zac ty3 h22 (η2.t (η3.t η4)) λhI23=>?_;rw [zbr];have h8:=c1.procs8;have hlq:=c2.f.lt q (by omega);have hnq:=c2.f.nonneg (i:=q) (by omega);have hlen:=c2.f.len;refine zau hV1 (η2.t (η3.t η4)) ?_;refine (zeF h0 (e0.t (η1.t (η2.t (η3.t η4)))) (by omega)).mono ?_;rintro _ w5_ ⟨η5,rfl⟩;refine zaa zaR ?_;refine zab zdn (zal hA1) (η2.t (η3.t (η4.t η5))) λv28 h28=>?_;refine zlw u26 zbm h28 (by omega) (by omega) (by omega) λv31 h31=>?_;have hln32:=zah h31;refine zae u26 h31 ?_;refine zat ((zdL c q).toNat-(en c q).toNat) (λk us w'=>us=[.int .i64 (k:Int)]∧Ext w5_ w'∧(∀ j:Nat,en c q≤j→(j:Int)<en c q+k→zgx c (zan c j) (en c q) (zdL c q))) (0) (by omega) ⟨by simp,Ext.refl w5_,λj h1 h2=>by omega⟩ ?_;rintro k m8 uu8 w6_ hk8 ⟨hu,η6,hinv⟩;try replace hu:=zbG hu
   try rw [hu]
   try clear hu
   have hl31:((c.ins.take (zdL c q).toNat).drop (en c q).toNat).length=(zdL c q).toNat-(en c q).toNat:=by rw [List.length_drop,List.length_take];omega
   refine zaf ?_;refine br (λc4=>?_) (λc4=>?_)
   · refine zad u26 zbm h31 (by omega) λb35 o35 h35=>?_
     refine zab zbm h35 (η2.t (η3.t (η4.t (η5.t η6)))) λv36 h36=>?_;rw [List.getElem_drop,List.getElem_take,zaE] at h36;refine zcX zhM rfl zbm rfl h36 (η2.t (η3.t (η4.t (η5.t η6)))) λw7_ η7 hA7 hV7=>?_;refine zau hV1 (η2.t (η3.t (η4.t (η5.t (η6.t η7))))) ?_;refine zau hV7 (Ext.refl w7_) ?_;refine (zoz h0 (e0.t (η1.t (η2.t (η3.t (η4.t (η5.t (η6.t η7))))))) h36 (η2.t (η3.t (η4.t (η5.t (η6.t η7)))))).mono ?_;rintro _ w8_ ⟨η8,rfl⟩;refine zav ?_;refine br (λc5=>?_) (λc5=>?_)
     · refine ⟨(η1.t (η2.t (η3.t (η4.t (η5.t (η6.t (η7.t η8))))))),?_⟩
       have:¬CodeR c:=λh=>c5 ((zmP c1 c2).1 h q (by omega) _ (by omega) (by omega));simp only [this,decide_false]
     refine zaB ?_;refine ⟨m8-1,by omega,k+1,by omega,by simp,(η6.t (η7.t η8)),?_⟩;intro j h1 h2;by_cases hj:j=(en c q).toNat+k
     · subst hj;exact Decidable.not_not.1 c5
     exact hinv j h1 (by omega)
   refine zaB ?_;refine ⟨m4-1,by omega,q+1,by omega,by simp,(η4.t (η5.t η6)),?_⟩;intro i hi j h1 h2;by_cases hiq:i=q
   · subst hiq;exact hinv j h1 (by omega)
   exact hent i (by omega) j h1 h2
 refine ⟨(η1.t (η2.t (η3.t η4))),?_⟩;have:CodeR c:=(zmP c1 c2).2 λi hi=>hent i (by omega);simp only [this,decide_true]
structure Cur where
 i:Nat
 h:Int
def zqI (h:Int):Int:=zn3 (zn3 (h*6364136223846793005)+1442695040888963407)
def zua (h:Int):Int:=zqA (zxv (zwX h 33) (zwX h 45)) 255
def zhV (bs:List UInt8) (s:Cur):Int:=match bs[s.i]? with
 | some b=>zqA (zua (zqI s.h)+(b.toNat:Int)) 255
 | none=>zua (zqI s.h)
def zdt (bs:List UInt8) (s:Cur):Cur:=⟨if s.i<bs.length then s.i+1 else s.i,zqI s.h⟩
theorem zeG (bs:List UInt8) (s:Cur):0≤zhV bs s∧zhV bs s≤255:=by
 unfold zhV zua;split
 · exact zlq _ (n:=255) (by omega)
 exact zlq _ (n:=255) (by omega)
def zxV (a b c d:Int):Int:=a*16777216+b*65536+c*256+d
def zbC (bs:List UInt8) (n:Int) (s:Cur):Int:=
 if n≤0 then 0 else if n≤256 then (zhV bs s).tmod n
 else (zxV (zhV bs s) (zhV bs (zdt bs s)) (zhV bs (zdt bs (zdt bs s))) (zhV bs (zdt bs (zdt bs (zdt bs s))))).tmod n
def zam (bs:List UInt8) (n:Int) (s:Cur):Cur:=
 if n≤0 then s else if n≤256 then zdt bs s else zdt bs (zdt bs (zdt bs (zdt bs s)))
theorem zcf (bs:List UInt8) {n:Int} (hn:0<n) (s:Cur):0≤zbC bs n s∧zbC bs n s<n:=by
 have h1:=zeG bs s;have h2:=zeG bs (zdt bs s);have h3:=zeG bs (zdt bs (zdt bs s));have h4:=zeG bs (zdt bs (zdt bs (zdt bs s)));unfold zbC;rw [if_neg (by omega)];split
 · exact zr4 h1.1 hn
 exact zr4 (by unfold zxV;omega) hn
theorem zpD (bs:List UInt8) {n:Nat} (hn:0<n) (s:Cur):(zbC bs (n:Int) s).toNat<n:=by
 have:=zcf bs (n:=(n:Int)) (by omega) s;omega
def zcM (bs:List UInt8) (l:List ByteArray) (s:Cur):ByteArray:=l.getD (zbC bs (l.length:Int) s).toNat (ByteArray.mk #[])
def zhW (bs:List UInt8) (l:List Int) (s:Cur):Int:=l.getD (zbC bs (l.length:Int) s).toNat 0
theorem zlG {α:Type} {l:List α} {i:Nat} {d:α} (h:i<l.length):l.getD i d∈l:=by
 rw [List.getD_eq_getElem?_getD,List.getElem?_eq_getElem h];exact List.getElem_mem h
theorem zdS (bs:List UInt8) {l:List ByteArray} (h:0<l.length) (s:Cur):zcM bs l s∈l:=zlG (zpD bs h s)
theorem zjy (bs:List UInt8) {l:List Int} (h:0<l.length) (s:Cur):zhW bs l s∈l:=zlG (zpD bs h s)
def nX:ByteArray:=ByteArray.mk #[120]
def nY:ByteArray:=ByteArray.mk #[121]
def nZ:ByteArray:=ByteArray.mk #[122]
def nU:ByteArray:=ByteArray.mk #[117]
def nA:ByteArray:=ByteArray.mk #[97]
def nB:ByteArray:=ByteArray.mk #[98]
def nM:ByteArray:=ByteArray.mk #[109]
def nP:ByteArray:=ByteArray.mk #[112]
def nQ:ByteArray:=ByteArray.mk #[113]
def nR:ByteArray:=ByteArray.mk #[114]
def nO:ByteArray:=ByteArray.mk #[]
def zvR:List Int:=[0,1,2,3,7,999,1000,1000000000]
def zrC:List ByteArray:=[nX,nY,nZ,nX,nU]
def opL:List Int:=[3,4,5,6,7,9]
def glb:List ByteArray:=[nX,nY,nZ,nU]
def lks:List ByteArray:=[nA,nB,nM]
def zsi:List ByteArray:=[nX,nY,nZ]
def zmQ:List ByteArray:=[nP,nQ,nR]
def prc4:List ByteArray:=[zgr,nP,nQ,nR]
def zep (bs:List UInt8) (d:Nat) (s:Cur):Int:=if d=0∧6≤zbC bs 12 s then zbC bs 12 s-6 else zbC bs 12 s
def zar (bs:List UInt8):Nat→Cur→DTerm×Cur
 | 0,s=>
   if zep bs 0 s<3 then (.mk 1 (zhW bs zvR (zam bs 12 s)) nO [],zam bs 8 (zam bs 12 s))
   else (.mk 2 0 (zcM bs zrC (zam bs 12 s)) [],zam bs 5 (zam bs 12 s))
 | d+1,s=>
   if zep bs (d+1) s<3 then (.mk 1 (zhW bs zvR (zam bs 12 s)) nO [],zam bs 8 (zam bs 12 s))
   else if zep bs (d+1) s<6 then (.mk 2 0 (zcM bs zrC (zam bs 12 s)) [],zam bs 5 (zam bs 12 s))
   else if zep bs (d+1) s=6 then (.mk 8 0 nO [(zar bs d (zam bs 12 s)).1],(zar bs d (zam bs 12 s)).2)
   else (.mk (zhW bs opL (zam bs 12 s)) 0 nO [(zar bs d (zam bs 6 (zam bs 12 s))).1,(zar bs d (zar bs d (zam bs 6 (zam bs 12 s))).2).1],
     (zar bs d (zar bs d (zam bs 6 (zam bs 12 s))).2).2)
theorem zvS (bs:List UInt8) (s:Cur):0≤zep bs 0 s∧zep bs 0 s<6:=by
 have:=zcf bs (n:=12) (by omega) s;unfold zep;split<;>omega
theorem zpE {x:ByteArray} (h:x∈zrC):x∈glb:=by
 simp only [zrC,List.mem_cons,List.not_mem_nil,or_false] at h;rcases h with rfl | rfl | rfl | rfl | rfl<;>decide
theorem zpF {x:ByteArray} (h:x∈glb):zbk x=true:=by
 simp only [glb,List.mem_cons,List.not_mem_nil,or_false] at h;rcases h with rfl | rfl | rfl | rfl<;>decide
theorem zub {x:ByteArray} (h:x∈lks):zbk x=true:=by
 simp only [lks,List.mem_cons,List.not_mem_nil,or_false] at h;rcases h with rfl | rfl | rfl<;>decide
theorem zvT {n:Int} (h:n∈zvR):0≤n∧n≤1000000000:=by
 simp only [zvR,List.mem_cons,List.not_mem_nil,or_false] at h;omega
theorem zvd {n:Int} (h:n∈opL):3≤n∧n≤9∧n≠8:=by
 simp only [opL,List.mem_cons,List.not_mem_nil,or_false] at h;omega
theorem zsj (bs:List UInt8) (n:Nat) (s:Cur):zaU n (.mk 1 (zhW bs zvR s) nO [])=true:=by
 rw [zd6 rfl];have:=zvT (zjy bs (l:=zvR) (by decide) s);simp [DTerm.num,DTerm.name,DTerm.kids,this,nO]
theorem zsk (bs:List UInt8) (n:Nat) (s:Cur):zaU n (.mk 2 0 (zcM bs zrC s) [])=true:=by
 rw [zfs rfl];have:=zpF (zpE (zdS bs (l:=zrC) (by decide) s));simp [DTerm.num,DTerm.name,DTerm.kids,this]
theorem zgJ (bs:List UInt8):∀ (d n:Nat) (s:Cur),d≤n→zaU n (zar bs d s).1=true
 | 0,n,s,_=>by
   rw [zar];split
   · exact zsj bs n _
   exact zsk bs n _
 | d+1,0,s,h=>absurd h (by omega)
 | d+1,n+1,s,h=>by
   rw [zar];split
   · exact zsj bs _ _
   split
   · exact zsk bs _ _
   split
   · rw [zbg (by show ¬(8:Int)=1;omega) (by show ¬(8:Int)=2;omega)]
     simp [DTerm.kind,DTerm.num,DTerm.name,DTerm.kids,nO,zgJ bs d n _ (by omega)]
   have:=zvd (zjy bs (l:=opL) (by decide) (zam bs 12 s));generalize zhW bs opL (zam bs 12 s)=k at *;rw [zbg (by simp only [DTerm.kind];omega) (by simp only [DTerm.kind];omega)];simp [DTerm.kind,DTerm.num,DTerm.name,DTerm.kids,nO,zgJ bs d n _ (by omega:d≤n),this.1,this.2.1,this.2.2]
theorem zuc {l:List ByteArray} {s x:ByteArray} (h:x∈zrB l s):x∈l∨x=s:=by
 unfold zrB at h;split at h
 · exact .inl h
 simpa using h
theorem zkt (bs:List UInt8):∀ (d n:Nat) (s:Cur) (l:List ByteArray) (x:ByteArray),d≤n→x∈readsT n (zar bs d s).1 l→x∈l∨x∈glb:=by
 have h1:∀ n k l x,x∈readsT n (.mk 1 k nO []) l→x∈l:=by
   intro n k l x h;rw [zdH,if_neg (by show ¬(1:Int)=2;omega)] at h;cases n with
   | zero=>exact h
   | succ n=>exact h
 have h2:∀ n s l x,x∈readsT n (.mk 2 0 (zcM bs zrC s) []) l→x∈l∨x∈glb:=by
   intro n s l x h;rw [ziR rfl] at h;rcases zuc h with h | rfl
   · exact .inl h
   exact .inr (zpE (zdS bs (by decide) s))
 intro d
 induction d with
 | zero=>
   intro n s l x _ h;rw [zar] at h;split at h
   · exact .inl (h1 _ _ _ _ h)
   exact h2 _ _ _ _ h
 | succ d ih=>
   intro n s l x hd h;obtain ⟨n,rfl⟩:∃ m,n=m+1:=⟨n-1,by omega⟩;rw [zar] at h;split at h
   · exact .inl (h1 _ _ _ _ h)
   split at h
   · exact h2 _ _ _ _ h
   split at h
   · rw [zdH,if_neg (by show ¬(8:Int)=2;omega)] at h
     simp only [DTerm.kids,List.foldl_cons,List.foldl_nil] at h;exact ih n _ _ _ (by omega) h
   have hk:=zvd (zjy bs (l:=opL) (by decide) (zam bs 12 s));generalize zhW bs opL (zam bs 12 s)=k at *;rw [zdH,if_neg (by show ¬k=2;omega)] at h;simp only [DTerm.kids,List.foldl_cons,List.foldl_nil] at h;rcases ih n _ _ _ (by omega) h with h | h
   · exact ih n _ _ _ (by omega) h
   exact .inr h
theorem zqJ (k n:Int) (s:ByteArray) (l:List DTerm):wT (.mk k n s l)=s.size+(l.length+sm wT l):=by
 rw [zvQ,zsd];rfl
theorem zqK (bs:List UInt8):∀ (d:Nat) (s:Cur),wT (zar bs d s).1+2≤3*2^d:=by
 have h0:nO.size=0:=rfl
 have h2:∀ s,(zcM bs zrC s).size≤1:=λs=>by
   have:=zdS bs (l:=zrC) (by decide) s;generalize zcM bs zrC s=x at *;simp only [zrC,List.mem_cons,List.not_mem_nil,or_false] at this;rcases this with rfl | rfl | rfl | rfl | rfl<;>decide
 intro d
 induction d with
 | zero=>
   intro s;rw [zar];split
   · rw [zqJ];simp [h0,sm]
   rw [zqJ];have:=h2 (zam bs 12 s);simp [sm];omega
 | succ d ih=>
   intro s;have hp:1≤2^d:=Nat.one_le_two_pow;rw [zar,Nat.pow_succ];split
   · rw [zqJ];simp [h0,sm];omega
   split
   · rw [zqJ];have:=h2 (zam bs 12 s);simp [sm];omega
   split
   · rw [zqJ];have:=ih (zam bs 12 s);simp [sm,h0];omega
   rw [zqJ];have:=ih (zam bs 6 (zam bs 12 s));have:=ih (zar bs d (zam bs 6 (zam bs 12 s))).2;simp [sm,h0];omega
def TmR (t:DTerm):Prop:=zaU 6 t=true∧(∀ s∈zbI t,s∈glb)∧wT t≤24
theorem zf7 (bs:List UInt8) {d:Nat} (hd:d≤3) (s:Cur):TmR (zar bs d s).1:=by
 have h:=zgJ bs d 6 s (by omega);refine ⟨h,λx hx=>?_,?_⟩
 · unfold zbI at hx
   rw [if_pos h] at hx;rcases zkt bs d 6 s [] x (by omega) hx with h | h
   · cases h
   exact h
 have h1:=zqK bs d s;have h2:2^d≤2^3:=Nat.pow_le_pow_right (by omega) hd;omega
def ze6 (bs:List UInt8) (d:Nat) (s:Cur):Int:=if d=0∧11≤zbC bs 14 s then zbC bs 14 s-6 else zbC bs 14 s
def zfJ (bs:List UInt8) (k:Int) (s:Cur):DStmt×Cur:=
 if k<4 then (.mk 1 (zcM bs zsi s) (zar bs 2 (zam bs 3 s)).1 [] [],(zar bs 2 (zam bs 3 s)).2)
 else if k<6 then (.mk 6 (zcM bs lks s) term0 [] [],zam bs 3 s)
 else if k<8 then (.mk 7 (zcM bs lks s) term0 [] [],zam bs 3 s)
 else if k=8 then (.mk 4 (zcM bs zmQ s) term0 [] [],zam bs 3 s)
 else if k=9 then (.mk 5 (zcM bs zmQ s) term0 [] [],zam bs 3 s)
 else (.mk 8 nO term0 [] [],s)
def zdI (f:Cur→DStmt×Cur) (bs:List UInt8):Nat→Nat→Cur→List DStmt×Cur
 | 0,_,s=>([],s)
 | n+1,i,s=>
   if (i:Int)<zbC bs 4 s then ((f (zam bs 4 s)).1 :: (zdI f bs n (i+1) (f (zam bs 4 s)).2).1,(zdI f bs n (i+1) (f (zam bs 4 s)).2).2)
   else ([],zam bs 4 s)
def zkP (bs:List UInt8) (f:Cur→DStmt×Cur) (k:Int) (s:Cur):DStmt×Cur:=
 if k=11 then (.mk 3 nO (zar bs 1 s).1 (zdI f bs 4 0 (zar bs 1 s).2).1 [],(zdI f bs 4 0 (zar bs 1 s).2).2)
 else if zbC bs 2 (zdI f bs 4 0 (zar bs 1 s).2).2=0 then
   (.mk 2 nO (zar bs 1 s).1 (zdI f bs 4 0 (zar bs 1 s).2).1 (zdI f bs 4 0 (zam bs 2 (zdI f bs 4 0 (zar bs 1 s).2).2)).1,
     (zdI f bs 4 0 (zam bs 2 (zdI f bs 4 0 (zar bs 1 s).2).2)).2)
 else (.mk 2 nO (zar bs 1 s).1 (zdI f bs 4 0 (zar bs 1 s).2).1 [],zam bs 2 (zdI f bs 4 0 (zar bs 1 s).2).2)
def zbJ (bs:List UInt8):Nat→Cur→DStmt×Cur
 | 0,s=>zfJ bs (ze6 bs 0 s) (zam bs 14 s)
 | d+1,s=>if ze6 bs (d+1) s<11 then zfJ bs (ze6 bs (d+1) s) (zam bs 14 s) else zkP bs (zbJ bs d) (ze6 bs (d+1) s) (zam bs 14 s)
def za8 (bs:List UInt8) (d:Nat) (s:Cur):List DStmt×Cur:=zdI (zbJ bs d) bs 4 0 s
theorem zvU (bs:List UInt8) (s:Cur):0≤ze6 bs 0 s∧ze6 bs 0 s<11:=by
 have:=zcf bs (n:=14) (by omega) s;unfold ze6;split<;>omega
def St0 (pr:List ByteArray) (t:DStmt):Prop:=(t.kind=1∧t.name∈glb∧TmR t.term∧t.body=[]∧t.els=[])∨((t.kind=4∨t.kind=5)∧t.name∈pr∧t.term=term0∧t.body=[]∧t.els=[]) ∨
   ((t.kind=6∨t.kind=7)∧t.name∈lks∧t.term=term0∧t.body=[]∧t.els=[])∨(t.kind=8∧t.name=nO∧t.term=term0∧t.body=[]∧t.els=[])
def StR (pr:List ByteArray):Nat→DStmt→Prop
 | 0,t=>St0 pr t
 | n+1,t=>St0 pr t∨((t.kind=2∨t.kind=3∧t.els=[])∧t.name=nO∧TmR t.term∧(∀ x∈t.body,StR pr n x)∧∀ x∈t.els,StR pr n x)
theorem StR.base {pr:List ByteArray}:∀ {n:Nat} {t:DStmt},St0 pr t→StR pr n t
 | 0,t,h=>by rw [StR];exact h
 | n+1,t,h=>by rw [StR];exact .inl h
theorem StR.more {pr:List ByteArray} {n:Nat} {t:DStmt} (h1:t.kind=2∨t.kind=3∧t.els=[]) (h2:t.name=nO) (h3:TmR t.term) (h4:∀ x∈t.body,StR pr n x) (h5:∀ x∈t.els,StR pr n x):StR pr (n+1) t:=by
 rw [StR];exact .inr ⟨h1,h2,h3,h4,h5⟩
theorem StR.zero {pr:List ByteArray} {t:DStmt} (h:StR pr 0 t):St0 pr t:=by rw [StR] at h;exact h
theorem StR.succ {pr:List ByteArray} {n:Nat} {t:DStmt} (h:StR pr (n+1) t):St0 pr t∨((t.kind=2∨t.kind=3∧t.els=[])∧t.name=nO∧TmR t.term∧(∀ x∈t.body,StR pr n x)∧∀ x∈t.els,StR pr n x):=by
 rw [StR] at h;exact h
theorem StR.mono {pr:List ByteArray}:∀ {n m:Nat} {t:DStmt},n≤m→StR pr n t→StR pr m t
 | 0,m,_,_,h=>StR.base h.zero
 | n+1,0,_,h,_=>absurd h (by omega)
 | n+1,m+1,t,hn,h=>by
   rcases h.succ with h | ⟨h1,h2,h3,h4,h5⟩
   · exact StR.base h
   exact StR.more h1 h2 h3 (λx hx=>(h4 x hx).mono (by omega)) λx hx=>(h5 x hx).mono (by omega)
theorem zpG (bs:List UInt8) (k:Int) (s:Cur):St0 zmQ (zfJ bs k s).1:=by
 unfold zfJ;have hs:=zdS bs (l:=zsi) (by decide) s;have hl:=zdS bs (l:=lks) (by decide) s;have hp:=zdS bs (l:=zmQ) (by decide) s
 have hg:zcM bs zsi s∈glb:=by
   generalize zcM bs zsi s=x at *;simp only [zsi,List.mem_cons,List.not_mem_nil,or_false] at hs;rcases hs with rfl | rfl | rfl<;>decide
 split
 · exact .inl ⟨rfl,hg,zf7 bs (by omega) _,rfl,rfl⟩
 split
 · exact .inr (.inr (.inl ⟨.inl rfl,hl,rfl,rfl,rfl⟩))
 split
 · exact .inr (.inr (.inl ⟨.inr rfl,hl,rfl,rfl,rfl⟩))
 split
 · exact .inr (.inl ⟨.inl rfl,hp,rfl,rfl,rfl⟩)
 split
 · exact .inr (.inl ⟨.inr rfl,hp,rfl,rfl,rfl⟩)
 exact .inr (.inr (.inr ⟨rfl,rfl,rfl,rfl,rfl⟩))
theorem ze7 {f:Cur→DStmt×Cur} {bs:List UInt8} {p:DStmt→Prop} (hf:∀ s,p (f s).1):∀ (n i:Nat) (s:Cur),∀ x∈(zdI f bs n i s).1,p x
 | 0,_,_,x,h=>by rw [zdI] at h;cases h
 | n+1,i,s,x,h=>by
   rw [zdI] at h;split at h
   · rcases List.mem_cons.1 h with rfl | h
     · exact hf _
     exact ze7 hf n _ _ x h
   cases h
theorem zjz {f:Cur→DStmt×Cur} {bs:List UInt8}:∀ (n i:Nat) (s:Cur),(zdI f bs n i s).1.length≤n
 | 0,_,_=>by rw [zdI];exact Nat.le_refl _
 | n+1,i,s=>by
   rw [zdI];split
   · have:=zjz (f:=f) (bs:=bs) n (i+1) (f (zam bs 4 s)).2
     simp only [List.length_cons];omega
   simp
theorem zkQ (bs:List UInt8):∀ (d:Nat) (s:Cur),StR zmQ d (zbJ bs d s).1
 | 0,s=>by rw [zbJ];exact StR.base (zpG bs _ _)
 | d+1,s=>by
   rw [zbJ];split
   · exact StR.base (zpG bs _ _)
   have ih:=zkQ bs d;unfold zkP;split
   · exact StR.more (.inr ⟨rfl,rfl⟩) rfl (zf7 bs (by omega) _) (ze7 ih _ _ _) λx hx=>by cases hx
   split
   · exact StR.more (.inl rfl) rfl (zf7 bs (by omega) _) (ze7 ih _ _ _) (ze7 ih _ _ _)
   exact StR.more (.inl rfl) rfl (zf7 bs (by omega) _) (ze7 ih _ _ _) λx hx=>by cases hx
theorem zkR (bs:List UInt8) (d:Nat) (s:Cur):∀ x∈(za8 bs d s).1,StR zmQ d x:=ze7 (zkQ bs d) _ _ _
mutual
def szS:DStmt→Nat
  | .mk _ _ _ b e=>1+szL b+szL e
def szL:List DStmt→Nat
  | []=>0
  | x :: l=>szS x+szL l
end
mutual
def zrD:DStmt→Int→Int
  | .mk _ _ _ b e,n=>ziu e (ziu b (n-1))
def ziu:List DStmt→Int→Int
  | [],n=>n
  | x :: l,n=>if 0≤n then ziu l (zrD x n) else n
end
mutual
theorem zsl:∀ (x:DStmt) (n:Int),0≤n→((szS x:Int)≤n→zrD x n=n-szS x)∧(n<szS x→zrD x n<0)
  | .mk k s t b e,n,hn=>by
    rw [szS,zrD];have h1:=zhX b (n-1);have h2:=zhX e (ziu b (n-1));refine ⟨λh=>?_,λh=>?_⟩
    · rw [h2.1 (by rw [h1.1 (by omega)];omega),h1.1 (by omega)];omega
    by_cases hb:(szL b:Int)≤n-1
    · exact h2.2.1 (by rw [h1.1 hb];omega)
    have:=h1.2.1 (by omega);by_cases h0:ziu b (n-1)<0
    · exact h2.2.2 h0
    omega
theorem zhX:∀ (l:List DStmt) (n:Int),((szL l:Int)≤n→ziu l n=n-szL l)∧(n<szL l→ziu l n<0)∧(n<0→ziu l n<0)
  | [],n=>by
    rw [szL,ziu];exact ⟨λ_=>by omega,λh=>by omega,λh=>h⟩
  | x :: l,n=>by
    rw [szL,ziu];refine ⟨λh=>?_,λh=>?_,λh=>?_⟩
    · have h1:=zsl x n (by omega)
      have h2:=zhX l (zrD x n);rw [if_pos (by omega),h2.1 (by rw [h1.1 (by omega)];omega),h1.1 (by omega)];omega
    · split
      · rename_i h0
        have h1:=zsl x n h0;have h2:=zhX l (zrD x n);by_cases hx:(szS x:Int)≤n
        · exact h2.2.1 (by rw [h1.1 hx];omega)
        exact h2.2.2 (h1.2 (by omega))
      omega
    rw [if_neg (by omega)];exact h
end
theorem zhY:∀ (l m:List DStmt),szL (l++m)=szL l+szL m
 | [],m=>by simp [szL]
 | x :: l,m=>by rw [List.cons_append,szL,szL,zhY l m];omega
theorem zlH:∀ (l:List DStmt),l.length≤szL l
 | []=>by simp
 | .mk k s t b e :: l=>by have:=zlH l;rw [szL,szS,List.length_cons];omega
mutual
def zoA (bs:List UInt8) (pr:List ByteArray):DStmt→Cur→DStmt×Cur
  | .mk k n t b e,s=>
    if k=4∨k=5 then
      (.mk k (zcM bs pr s) t (zd8 bs pr b (zam bs (pr.length:Int) s)).1 (zd8 bs pr e (zd8 bs pr b (zam bs (pr.length:Int) s)).2).1,(zd8 bs pr e (zd8 bs pr b (zam bs (pr.length:Int) s)).2).2)
    else (.mk k n t (zd8 bs pr b s).1 (zd8 bs pr e (zd8 bs pr b s).2).1,(zd8 bs pr e (zd8 bs pr b s).2).2)
def zd8 (bs:List UInt8) (pr:List ByteArray):List DStmt→Cur→List DStmt×Cur
  | [],s=>([],s)
  | x :: l,s=>((zoA bs pr x s).1 :: (zd8 bs pr l (zoA bs pr x s).2).1,(zd8 bs pr l (zoA bs pr x s).2).2)
end
mutual
theorem zvV (bs:List UInt8) (pr:List ByteArray):∀ (x:DStmt) (s:Cur),szS (zoA bs pr x s).1=szS x
  | .mk k n t b e,s=>by
    rw [zoA];split
    · rw [szS,szS,zhZ bs pr b,zhZ bs pr e]
    rw [szS,szS,zhZ bs pr b,zhZ bs pr e]
theorem zhZ (bs:List UInt8) (pr:List ByteArray):∀ (l:List DStmt) (s:Cur),szL (zd8 bs pr l s).1=szL l
  | [],s=>by rw [zd8]
  | x :: l,s=>by rw [zd8,szL,szL,zvV bs pr x,zhZ bs pr l]
end
theorem zpH (bs:List UInt8) (pr:List ByteArray) (s:Cur):zd8 bs pr [] s=([],s):=by rw [zd8]
theorem zxG {bs:List UInt8} {pr pr0:List ByteArray} (hp:0<pr.length):∀ (n:Nat),(∀ (t:DStmt) (s:Cur),StR pr0 n t→StR pr n (zoA bs pr t s).1)∧∀ (l:List DStmt) (s:Cur),(∀ x∈l,StR pr0 n x)→∀ x∈(zd8 bs pr l s).1,StR pr n x:=by
 have h0:∀ (t:DStmt) (s:Cur),St0 pr0 t→St0 pr (zoA bs pr t s).1:=by
   rintro ⟨k,nm,t,b,e⟩ s h;have hb:b=[]:=by rcases h with h | h | h | h<;>exact h.2.2.2.1
   have he:e=[]:=by rcases h with h | h | h | h<;>exact h.2.2.2.2
   subst hb he;rw [zoA];simp only [zpH];rcases h with h | h | h | h
   · have hk:k=1:=h.1
     rw [if_neg (by omega)];exact .inl h
   · have hk:k=4∨k=5:=h.1
     rw [if_pos hk];exact .inr (.inl ⟨hk,zdS bs hp s,h.2.2.1,rfl,rfl⟩)
   · have hk:k=6∨k=7:=h.1
     rw [if_neg (by omega)];exact .inr (.inr (.inl h))
   have hk:k=8:=h.1;rw [if_neg (by omega)];exact .inr (.inr (.inr h))
 have hl:∀ n,(∀ (t:DStmt) (s:Cur),StR pr0 n t→StR pr n (zoA bs pr t s).1)→∀ (l:List DStmt) (s:Cur),(∀ x∈l,StR pr0 n x)→∀ x∈(zd8 bs pr l s).1,StR pr n x:=by
   intro n hs l
   induction l with
   | nil=>intro s _ x hx;rw [zd8] at hx;cases hx
   | cons y l ih=>
     intro s h x hx;rw [zd8] at hx;rcases List.mem_cons.1 hx with rfl | hx
     · exact hs y s (h y (by simp))
     exact ih _ (λz hz=>h z (by simp [hz])) x hx
 intro n
 induction n with
 | zero=>
   have h0':∀ (t:DStmt) (s:Cur),StR pr0 0 t→StR pr 0 (zoA bs pr t s).1:=λt s h=>StR.base (h0 t s h.zero);exact ⟨h0',hl 0 h0'⟩
 | succ n ih=>
   have hs:∀ (t:DStmt) (s:Cur),StR pr0 (n+1) t→StR pr (n+1) (zoA bs pr t s).1:=by
     intro t s h;rcases h.succ with h | ⟨h1,h2,h3,h4,h5⟩
     · exact StR.base (h0 t s h)
     obtain ⟨k,nm,t,b,e⟩:=t;have hk:k=2∨k=3∧e=[]:=h1;rw [zoA,if_neg (by omega)];refine StR.more ?_ h2 h3 (ih.2 b _ h4) (ih.2 e _ h5);rcases hk with hk | ⟨hk,rfl⟩
     · exact .inl hk
     exact .inr ⟨hk,by show (zd8 bs pr [] _).1=[];rw [zd8]⟩
   exact ⟨hs,hl (n+1) hs⟩
def zvW:DStmt:=.mk 8 nO term0 [] []
def ze8 (n:ByteArray):DStmt:=.mk 6 n term0 [] []
def zdJ (n:ByteArray):DStmt:=.mk 7 n term0 [] []
def zve (n:ByteArray):DStmt:=.mk 5 n term0 [] []
def zjA (bs:List UInt8) (body:List DStmt) (s:Cur):List DStmt×Cur:=
 if zcM bs lks s=zcM bs lks (zam bs 3 s) then (ze8 (zcM bs lks s) :: (body++[zdJ (zcM bs lks s)]),zam bs 3 (zam bs 3 s))
 else if zbC bs 2 (zam bs 3 (zam bs 3 s))=0 then (ze8 (zcM bs lks s) :: ze8 (zcM bs lks (zam bs 3 s)) :: (body++[zdJ (zcM bs lks s)]),zam bs 2 (zam bs 3 (zam bs 3 s)))
 else (ze8 (zcM bs lks s) :: (body++[zdJ (zcM bs lks s)]),zam bs 2 (zam bs 3 (zam bs 3 s)))
def zfK (bs:List UInt8) (s:Cur):List DStmt×Cur:=
 (if ziu ((za8 bs 2 s).1++(za8 bs 1 (za8 bs 2 s).2).1) 50<0 then [zvW] else (za8 bs 2 s).1++(za8 bs 1 (za8 bs 2 s).2).1,(za8 bs 1 (za8 bs 2 s).2).2)
def zgK (bs:List UInt8) (r:List DStmt×Cur):List DStmt×Cur:=
 if zbC bs 2 r.2=0 then zjA bs r.1 (zam bs 2 r.2) else (r.1,zam bs 2 r.2)
def ziG (bs:List UInt8) (i:Nat) (nm:ByteArray) (r:List DStmt×Cur):List DStmt×Cur:=
 if i=0 then (if zbC bs 2 r.2=0 then (zve nm :: r.1,zam bs 2 r.2) else (r.1,zam bs 2 r.2)) else r
def zdu (bs:List UInt8) (pr:List ByteArray) (i:Nat) (s:Cur):List DStmt×Cur:=
 zd8 bs pr (ziG bs i (pr.getD 0 nO) (zgK bs (zfK bs s))).1 (ziG bs i (pr.getD 0 nO) (zgK bs (zfK bs s))).2
def zbs (bs:List UInt8) (pr:List ByteArray):List ByteArray→Nat→Cur→List DProc×Cur
 | [],_,s=>([],s)
 | n :: l,i,s=>(⟨n,(zdu bs pr i s).1⟩ :: (zbs bs pr l (i+1) (zdu bs pr i s).2).1,(zbs bs pr l (i+1) (zdu bs pr i s).2).2)
def zjB (bs:List UInt8) (s:Cur):List ByteArray:=prc4.take (2+(zbC bs 3 s).toNat)
def zcV (bs:List UInt8) (s:Cur):DProg×Cur:=
 (⟨glb,lks,(zbs bs ((zjB bs s).drop 1) (zjB bs s) 0 (zam bs 3 s)).1⟩,(zbs bs ((zjB bs s).drop 1) (zjB bs s) 0 (zam bs 3 s)).2)
def zxH (bs:List UInt8):Int:=(bs.take 4000).foldl (λh b=>zqA (h*131+(b.toNat:Int)+7) 1073741823) (94701+(bs.length:Int))
def zhc (bs:List UInt8):Cur:=⟨0,zxH bs⟩
def zqL (pr:List ByteArray) (l:List DStmt):Prop:=(∀ x∈l,StR pr 2 x)∧szL l≤54
theorem zw4 (pr:List ByteArray):StR pr 2 zvW:=StR.base (.inr (.inr (.inr ⟨rfl,rfl,rfl,rfl,rfl⟩)))
theorem zpI (pr:List ByteArray) {n:ByteArray} (h:n∈lks):StR pr 2 (ze8 n):=StR.base (.inr (.inr (.inl ⟨.inl rfl,h,rfl,rfl,rfl⟩)))
theorem zud (pr:List ByteArray) {n:ByteArray} (h:n∈lks):StR pr 2 (zdJ n):=StR.base (.inr (.inr (.inl ⟨.inr rfl,h,rfl,rfl,rfl⟩)))
theorem zoB (bs:List UInt8) (s:Cur):(∀ x∈(zfK bs s).1,StR zmQ 2 x)∧szL (zfK bs s).1≤50:=by
 unfold zfK;split
 · exact ⟨λx hx=>by simp only [List.mem_cons,List.not_mem_nil,or_false] at hx;subst hx;exact zw4 _,by simp [szL,szS,zvW]⟩
 rename_i h
 refine ⟨λx hx=>?_,?_⟩
 · rcases List.mem_append.1 hx with hx | hx
   · exact zkR bs 2 s x hx
   exact (zkR bs 1 _ x hx).mono (by omega)
 have:=zhX ((za8 bs 2 s).1++(za8 bs 1 (za8 bs 2 s).2).1) 50;have:=this.2.1;show szL ((za8 bs 2 s).1++(za8 bs 1 (za8 bs 2 s).2).1)≤50;omega
theorem zsm (bs:List UInt8) {r:List DStmt×Cur} (h:(∀ x∈r.1,StR zmQ 2 x)∧szL r.1≤50):(∀ x∈(zgK bs r).1,StR zmQ 2 x)∧szL (zgK bs r).1≤53:=by
 have hl:=λs=>zdS bs (l:=lks) (by decide) s
 have key:∀ (pre:List DStmt) (n:ByteArray),n∈lks→(∀ x∈pre,StR zmQ 2 x)→szL pre≤2→(∀ x∈pre++(r.1++[zdJ n]),StR zmQ 2 x)∧szL (pre++(r.1++[zdJ n]))≤53:=by
   intro pre n hn hp hs;refine ⟨λx hx=>?_,?_⟩
   · rcases List.mem_append.1 hx with hx | hx
     · exact hp x hx
     rcases List.mem_append.1 hx with hx | hx
     · exact h.1 x hx
     simp only [List.mem_cons,List.not_mem_nil,or_false] at hx;subst hx;exact zud _ hn
   rw [zhY,zhY];have:szL [zdJ n]=1:=by simp [szL,szS,zdJ]
   omega
 unfold zgK;split
 · unfold zjA
   split
   · exact key [ze8 _] _ (hl _) (λx hx=>by simp only [List.mem_cons,List.not_mem_nil,or_false] at hx;subst hx;exact zpI _ (hl _)) (by simp [szL,szS,ze8])
   split
   · exact key [ze8 _,ze8 _] _ (hl _) (λx hx=>by
       simp only [List.mem_cons,List.not_mem_nil,or_false] at hx;rcases hx with rfl | rfl
       · exact zpI _ (hl _)
       exact zpI _ (hl _)) (by simp [szL,szS,ze8])
   exact key [ze8 _] _ (hl _) (λx hx=>by simp only [List.mem_cons,List.not_mem_nil,or_false] at hx;subst hx;exact zpI _ (hl _)) (by simp [szL,szS,ze8])
 exact ⟨h.1,by have:=h.2;show szL r.1≤53;omega⟩
theorem zvX (bs:List UInt8) (i:Nat) {nm:ByteArray} (hn:nm∈zmQ) {r:List DStmt×Cur} (h:(∀ x∈r.1,StR zmQ 2 x)∧szL r.1≤53):zqL zmQ (ziG bs i nm r).1:=by
 unfold ziG;split
 · split
   · refine ⟨λx hx=>?_,?_⟩
     · rcases List.mem_cons.1 hx with rfl | hx
       · exact StR.base (.inr (.inl ⟨.inr rfl,hn,rfl,rfl,rfl⟩))
       exact h.1 x hx
     have:=h.2;simp only [szL,szS,zve];omega
   exact ⟨h.1,by have:=h.2;show szL r.1≤54;omega⟩
 exact ⟨h.1,by have:=h.2;omega⟩
theorem zqM (bs:List UInt8) {pr:List ByteArray} (hp:0<pr.length) (h3:∀ x∈pr,x∈zmQ) (i:Nat) (s:Cur):zqL pr (zdu bs pr i s).1:=by
 have h:=zvX bs i (nm:=pr.getD 0 nO) (h3 _ (zlG hp)) (zsm bs (zoB bs s));unfold zdu;exact ⟨(zxG hp 2).2 _ _ h.1,by rw [zhZ];exact h.2⟩
structure ProgR (p:DProg):Prop where
 g:p.globals=glb
 l:p.locks=lks
 n:∃ k,k<3∧p.procs.map DProc.name=prc4.take (2+k)
 b:∀ x∈p.procs,zqL ((p.procs.map DProc.name).drop 1) x.body
theorem zeq (bs:List UInt8) (pr:List ByteArray):∀ (l:List ByteArray) (i:Nat) (s:Cur),(zbs bs pr l i s).1.map DProc.name=l
 | [],_,_=>by rw [zbs];rfl
 | n :: l,i,s=>by rw [zbs,List.map_cons,zeq bs pr l]
theorem zjC (bs:List UInt8) {pr:List ByteArray} (hp:0<pr.length) (h3:∀ x∈pr,x∈zmQ):∀ (l:List ByteArray) (i:Nat) (s:Cur),∀ x∈(zbs bs pr l i s).1,zqL pr x.body
 | [],_,_,x,h=>by rw [zbs] at h;cases h
 | n :: l,i,s,x,h=>by
   rw [zbs] at h;rcases List.mem_cons.1 h with rfl | h
   · exact zqM bs hp h3 i s
   exact zjC bs hp h3 l _ _ x h
theorem zsn (bs:List UInt8) (s:Cur):(zbC bs 3 s).toNat<3:=by
 have:=zcf bs (n:=3) (by omega) s;omega
theorem zlJ:∀ k,k<3→0<((prc4.take (2+k)).drop 1).length∧∀ x∈(prc4.take (2+k)).drop 1,x∈zmQ
 | 0,_=>⟨by decide,by intro x hx;simp only [prc4,List.take,List.drop,List.mem_cons,List.not_mem_nil,or_false] at hx;subst hx;decide⟩
 | 1,_=>⟨by decide,by intro x hx;simp only [prc4,List.take,List.drop,List.mem_cons,List.not_mem_nil,or_false] at hx;rcases hx with rfl | rfl<;>decide⟩
 | 2,_=>⟨by decide,by intro x hx;simp only [prc4,List.take,List.drop,List.mem_cons,List.not_mem_nil,or_false] at hx;rcases hx with rfl | rfl | rfl<;>decide⟩
 | k+3,h=>absurd h (by omega)
theorem zh0 (bs:List UInt8) (s:Cur):ProgR (zcV bs s).1:=by
 have hk:=zsn bs s;have ht:=zlJ _ hk;refine ⟨rfl,rfl,⟨_,hk,?_⟩,λx hx=>?_⟩
 · exact zeq bs _ _ _ _
 have hn:((zcV bs s).1.procs.map DProc.name)=zjB bs s:=zeq bs _ _ _ _;rw [hn];exact zjC bs ht.1 ht.2 _ _ _ x hx
end Go.Proofs.YtakjaofncelghaaGreat
namespace Go.Sh
open Go.RowKit (Below)
open Rep (rep)
section
variable {P:Program} {w w0 w':World} {α β γ:Type} [Rep α] [Rep β]
theorem zfv {t e:TypeId} {by_:Nat} {F:List Nat} {v:Value} {l:List α} {k:Nat} {K:Value→Prop} (ht:P.underlying t=some (.slice e)) (he:tyI P e=some (Rep.size α,by_,Rep.agg α)) (hm:Mine F w v l) (hk:k<l.length)
   (kk:∀ b o G,Lens (MH v) F w b o G l[k] (λy=>l.set k y)→K (.pointer (some ⟨b,o,none⟩))):RD P (Instr.indexAt t v (.int .i64 (k:Int))) w K:=by
 obtain ⟨b,a,cap,G,hv,hL⟩:=ztX hm hk;refine za3 (v:=.pointer (some ⟨b,a+k*Rep.size α,none⟩)) (λw' _=>?_) (kk _ _ _ hL);rw [hv,zb2 ht he (by omega) (by omega)];simp
theorem zjD {ft by_ b o:Nat} {H:List Nat→World→γ→Prop} {F G:List Nat} {l:List β} {upd:List β→γ} {K:Value→Prop} (hft:tyI P ft=some (1,by_,false)) (hL:Lens H F w b o G l upd)
   (k:∀ u,Mine G w u l→(∀ c∈G,c∈F)→(∀ w' G' l',Chg G w w'→Mine G' w' u l'→(∀ c∈G',c∈G∨c∉F)→∃ F',H F' w' (upd l')∧∀ c∈F',c∈F∨c∈G')→K u) :
   RD P (Instr.loadAt ft (.pointer (some ⟨b,o,none⟩))) w K:=by
 obtain ⟨u,hM,hr,hG,hb⟩:=hL.row;refine za3 (λw' hx'=>?_) (k u hM hG hb);have h0:w'.cell? ⟨b,o,none⟩=some u:=by simpa using (zbF hr hx') 0 u rfl
 have hA:=zc1 hft w';simp [Instr.loadAt,Instr.sureAddr,loadVar,hA,h0]
theorem zas {ft by_ g e o:Nat} {cs:List Value} {v:Value} {K:Value→Prop} (hft:tyI P ft=some (1,by_,false)) (hB:Blk g e w cs) (ho:cs[o]?=some v) (k:K v) :
   RD P (Instr.loadAt ft (.pointer (some ⟨g,o,none⟩))) w K:=by
 refine za3 (λw' hx'=>?_) k;have h0:w'.cell? ⟨g,o,none⟩=some v:=by simpa using (zbF hB.range hx') o v ho
 have hA:=zc1 hft w';simp [Instr.loadAt,Instr.sureAddr,loadVar,hA,h0]
theorem zlK {t:TypeId} {cs:Array Value} {K:Value→World→Prop} (k:∀ w',Ext w w'→Blk w.heap.size t w' cs.toList→K (.pointer (some ⟨w.heap.size,0,none⟩)) w'):OP P (Instr.box t (.agg cs)) w K:=
 ⟨_,w.alloc (.cells cs t),by simp [Instr.box,newVar,newRow,Value.cells],k _ (zaP w _) (by unfold Blk;rw [heap_alloc_new w _])⟩
theorem ze9 {t by_ b o:Nat} {F G:List Nat} {v:Value} {y y':β} {upd:β→α} {u:Value} {K:World→Prop} (ht:tyI P t=some (Rep.size β,by_,Rep.agg β)) (h:Lens (MH v) F w b o G y upd)
   (hu:Mine [] w u y') (k:∀ w' F',Chg F w w'→Mine F' w' v (upd y')→(∀ c∈F',c∈F)→K w'):OPU P (Instr.storeAt t (.pointer (some ⟨b,o,none⟩)) u) w K:=
 ziK ht h hu (by simp) λw' hc ⟨F',h1,h2⟩=>k w' F' hc h1 λc hc=>by
   rcases h2 c hc with h | h
   · exact h
   simp at h
theorem zbh {x:Int} (h:I64 x):Mine [] w (.int .i64 x) x:=⟨⟨_,⟨rfl,rfl,h⟩,rfl⟩,List.nodup_nil,Wr.nil w⟩
theorem zpJ {x:ByteArray} (h:x.size≤maxLen):Mine [] w (.string x) x:=⟨⟨_,⟨rfl,rfl,h⟩,rfl⟩,List.nodup_nil,Wr.nil w⟩
theorem zjE {x:Bool}:Mine [] w (.bool x) x:=⟨⟨_,⟨rfl,rfl⟩,rfl⟩,List.nodup_nil,Wr.nil w⟩
theorem Chg.sub {F G:List Nat} {a b c:World} (h:Chg F a b) (k:Chg G b c) (hs:∀ x∈G,x∈F):Chg F a c:=h.trans (k.mono hs)
theorem zw5 {ts:Array TypeId} {ty:TypeId} {a b:Int} {K:Value→Prop} (k:K (.int .i64 (max a b))):RD P (Builtin.max_ ts ty [Value.int .i64 a,Value.int .i64 b].toArray) w K:=by
 refine za3 (λw' _=>?_) k;have:(if b>a then b else a)=max a b:=by split<;>omega
 simp only [Builtin.max_,List.toList_toArray,List.foldlM_cons,List.foldlM_nil,Builtin.max2,this];rfl
end
end Go.Sh
namespace Go.Sh
open Rep (rep)
section
variable {P:Program} {w w0:World} {α:Type} [Rep α]
theorem zmR [RepZ α] {z:Value} (hz:RepZ.zc α=[z]) (w:World):∀ n,Cells [] w (List.replicate n z) (List.replicate n (RepZ.zv:α))
 | 0=>⟨rfl,rfl⟩
 | n+1=>⟨[],[],[z],List.replicate n z,rfl,rfl,hz▸RepZ.zr w,zmR hz w n⟩
theorem zue (z:Value) (n:Nat):(madeCells #[z] n).toList=List.replicate n z:=by
 apply List.ext_getElem
 · simp [madeCells]
 intro i h1 h2;simp [madeCells,Nat.mod_one]
theorem zfw [RepZ α] {t e:TypeId} {by_:Nat} {z:Value} {K:Value→World→Prop} {n:Nat} (ht:P.underlying t=some (.slice e)) (he:tyI P e=some (Rep.size α,by_,Rep.agg α)) (h1:Rep.size α=1) (hzc:RepZ.zc α=[z]) (hz:zcu P e=some [z])
   (hb:by_*n≤281474976710656) (hm:n≤9223372036854775807)
   (k:∀ w',Ext w w'→RowI w.heap.size w'.heap.size e w' (.slice (some ⟨w.heap.size,0,none⟩) n n) (List.replicate n (RepZ.zv:α))→K (.slice (some ⟨w.heap.size,0,none⟩) n n) w') :
   OP P (Instr.makeSlice t (.int .i64 (n:Int)) (.int .i64 (n:Int))) w K:=by
 obtain ⟨i,d,hi,hd,hs,hby,hg⟩:=zc5 he;unfold zcu at hz;rw [hi] at hz;obtain ⟨zz,hzz,hcz⟩:=Option.map_eq_some_iff.1 hz
 have hb':(i.bytes:Int)*(n:Int)≤281474976710656:=by
   have h:((i.bytes*n:Nat):Int)≤281474976710656:=by rw [hby];omega
   rwa [Int.natCast_mul] at h
 have hr:=run_make (P:=P) w t e i zz ht hi hzz .i64 .i64 n n (by omega) (Int.le_refl _) hb' (by omega);simp only [Int.toNat_natCast] at hr;have hcells:zz.cells=#[z]:=by apply Array.ext';simpa using hcz
 have hlen:n*i.size=n:=by rw [hs,h1,Nat.mul_one]
 rw [hcells,hlen] at hr;refine ⟨_,_,hr,k _ (zaP w _) (.inr ⟨[w.heap.size],⟨List.replicate n z,[],⟨?_,.inr ⟨w.heap.size,n,madeCells #[z] n,?_,z0 _,heap_alloc_new w _,by simp,by rw [zak];omega,?_,?_⟩⟩,zmR hzc _ n,rfl,Wr.nil _⟩,by simp,?_⟩)⟩
 · simp [h1]
 · simp
 · rw [h1];simp [madeCells]
 · rw [zue,List.length_replicate,h1,Nat.mul_one,List.take_of_length_le (by simp)]
 intro b hb;simp only [List.mem_cons,List.not_mem_nil,or_false] at hb;subst hb;exact ⟨Nat.le_refl _,(Array.getElem?_eq_some_iff.1 (heap_alloc_new w _)).1⟩
theorem zaX {K:Value→Prop} {t:TypeId} {parts:Array (Nat×Value)} {cells:Array Value} (h:P.built t parts.toList=some cells) (k:K (.agg cells)):RD P (Instr.build t parts) w K:=
 za3 (λw' _=>run_build w' t parts cells h) k
theorem zgL {t by_ g e:Nat} {cs:List Value} {K:Value→Prop} (hB:Blk g e w cs) (ht:tyI P t=some (cs.length,by_,true)) (k:K (.agg cs.toArray)):RD P (Instr.loadAt t (.pointer (some ⟨g,0,none⟩))) w K:=
 zau ⟨e,cs,by_,hB,rfl,ht⟩ (Ext.refl w) k
theorem zer {t by_ g e:Nat} {cs:List Value} {K:Value→Prop} (hB:Blk g e w cs) (ht:tyI P t=some (cs.length,by_,true)) (k:K (.agg cs.toArray)):RD P (zaJ t (.pointer (some ⟨g,0,none⟩))) w K:=by
 obtain ⟨i,d,hi,hd,hs,_,hg⟩:=zc5 ht;refine za3 (λw' hx'=>?_) k;have:=run_loadAt_mid w' g 0 t cs d (hB.ext hx').range hd hg (by simp [hi,hs]);simpa [zaJ,asAddr,Instr.loadAt,Instr.sureAddr] using this
theorem zbU {t by_ g e:Nat} {cs:List Value} {us:Array Value} {lo hi:Nat} {x:α} {K:World→Prop} (ht:tyI P t=some (Rep.size α,by_,true)) (ha:Rep.agg α=true) (hB:Blk g e w cs) (hl:cs.length=Rep.size α) (hu:OwnI lo hi w (.agg us) x)
   (k:∀ w',ChgI g (g+1) w w'→Blk g e w' us.toList→K w'):OPU P (Instr.storeAt t (.pointer (some ⟨g,0,none⟩)) (.agg us)) w K:=by
 obtain ⟨F,⟨⟨cs',hr,hv⟩,_⟩,_⟩:=hu
 have hus:us.toList=cs':=by
   simp only [mkv,ha,cond_true,Value.agg.injEq] at hv;rw [hv]
 have hl':=Rep.len hr;rw [hv];refine zrQ (by rw [ha];exact ht) hB hr rfl (by omega) λw' hc hB'=>k w' (hc.toI (by simp)) ?_;rw [hus];rw [List.take_zero,List.nil_append,Nat.zero_add,List.drop_of_length_le (by omega),List.append_nil] at hB';exact hB'
theorem zbp {t by_ g e o:Nat} {cs:List Value} {u:Value} {lo hi:Nat} {x:α} {K:World→Prop} (ht:tyI P t=some (1,by_,false)) (h1:Rep.size α=1) (ha:Rep.agg α=false) (hB:Blk g e w cs) (ho:o<cs.length) (hu:OwnI lo hi w u x)
   (k:∀ w',ChgI g (g+1) w w'→Blk g e w' (cs.set o u)→K w'):OPU P (Instr.storeAt t (.pointer (some ⟨g,o,none⟩)) u) w K:=by
 obtain ⟨F,⟨⟨cs',hr,hv⟩,_⟩,_⟩:=hu;have hl':=Rep.len hr;rw [h1] at hl';obtain ⟨c,rfl⟩:=List.length_eq_one_iff.1 hl';have huc:u=c:=by simpa [mkv,ha] using hv
 subst huc;refine zrQ (by rw [h1,ha];exact ht) hB hr hv (by omega) λw' hc hB'=>k w' (hc.toI (by simp)) ?_
 have:cs.set o u=cs.take o++[u]++cs.drop (o+1):=by
   rw [List.set_eq_take_append_cons_drop,if_pos ho];simp
 rw [this];exact hB'
theorem Blk.chgI {g e a b:Nat} {w':World} {cs:List Value} (h:Blk g e w cs) (hc:ChgI a b w w') (hd:g<a∨b≤g):Blk g e w' cs:=h.keep (hc.block g h.lt hd)
theorem zfa {a b c:Value} {s:DState} {lo hi l0 h0 l1 h1 l2 h2:Nat} (m0:OwnI l0 h0 w a s.vars) (m1:OwnI l1 h1 w b s.owner) (m2:OwnI l2 h2 w c s.stacks) (d01:h0≤l1∨h1≤l0) (d02:h0≤l2∨h2≤l0) (d12:h1≤l2∨h2≤l1)
   (b0:lo≤l0∧h0≤hi) (b1:lo≤l1∧h1≤hi) (b2:lo≤l2∧h2≤hi):OwnI lo hi w (.agg #[a,b,c]) s:=by
 obtain ⟨F0,M0,B0⟩:=m0;obtain ⟨F1,M1,B1⟩:=m1;obtain ⟨F2,M2,B2⟩:=m2;refine ⟨F0++(F1++F2),zqw M0 M1 M2 ?_,λx hx=>?_⟩
 · rw [List.nodup_append,List.nodup_append]
   refine ⟨M0.nodup,⟨M1.nodup,M2.nodup,λp hp q hq e=>?_⟩,λp hp q hq e=>?_⟩
   · subst e;have:=B1 p hp;have:=B2 p hq;omega
   subst e;have:=B0 p hp;rcases List.mem_append.1 hq with hq | hq
   · have:=B1 p hq;omega
   have:=B2 p hq;omega
 rcases List.mem_append.1 hx with hx | hx
 · have:=B0 x hx;omega
 rcases List.mem_append.1 hx with hx | hx
 · have:=B1 x hx;omega
 have:=B2 x hx;omega
end
end Go.Sh
namespace Go.Sh
open Rep (rep)
section
variable {P:Program} {w:World} {α:Type} [Rep α] {e:Nat}
theorem zcB {w:World}:∀ {l:List ByteArray},(∀ x∈l,x.size≤maxLen)→Cells [] w (l.map Value.string) l
 | [],_=>⟨rfl,rfl⟩
 | x :: l,h=>⟨[],[],[.string x],l.map Value.string,rfl,rfl,⟨rfl,rfl,h x (by simp)⟩,zcB λy hy=>h y (by simp [hy])⟩
theorem zh1 {w:World}:∀ {l:List Int},(∀ x∈l,I64 x)→Cells [] w (l.map (Value.int .i64)) l
 | [],_=>⟨rfl,rfl⟩
 | x :: l,h=>⟨[],[],[.int .i64 x],l.map (Value.int .i64),rfl,rfl,⟨rfl,rfl,h x (by simp)⟩,zh1 λy hy=>h y (by simp [hy])⟩
theorem zfL {t:TypeId} {by_ n:Nat} {z:Value} {vs:List Value} {parts:Array (Nat×Value)} {l:List α} {K:Value→World→Prop} (ht:P.underlying t=some (.slice e)) (he:tyI P e=some (1,by_,false)) (hz:zcu P e=some [z])
   (hn:0<n∧n≤1000) (hf:Instr.fill (λi=>some (i*1,1)) ((Array.range (n*1)).map λi=>(#[z])[i%1]!) parts.toList=some vs.toArray) (hl:l.length=n) (hc:∀ w,Cells [] w vs l)
   (k:∀ v w',Ext w w'→OwnI w.heap.size w'.heap.size w' v l→K v w'):OP P (Instr.buildSlice t n parts) w K:=by
 unfold zcu at hz;cases hi:P.info? e with
 | none=>simp [hi] at hz
 | some i=>
   simp only [hi] at hz;obtain ⟨v,hv,hvc⟩:=Option.map_eq_some_iff.1 hz;have hvc':v.cells=#[z]:=Array.ext' (by simpa using hvc);have hB:Blk w.heap.size e (w.alloc (.cells vs.toArray e)) vs:=heap_alloc_new w _;have hlt:w.heap.size<(w.alloc (.cells vs.toArray e)).heap.size:=hB.lt;refine ⟨.slice (some ⟨w.heap.size,0,none⟩) n n,w.alloc (.cells vs.toArray e),?_,k _ _ (zaP w _) ⟨[w.heap.size],⟨⟨_,⟨some ⟨w.heap.size,0,none⟩,n,[],vs,rfl,by omega,by rw [zak];omega,hc _,.inr ⟨_,_,rfl,rfl,hB.range,hlt⟩⟩,by rw [hl];rfl⟩,by simp,λb hb=>?_⟩,λb hb=>?_⟩⟩
   · have hne:¬n*1=0:=by omega
     have h24:¬2^24<n*1:=by omega
     have hzr:(zeroValue e).run P w=.ok v w:=by simp [zeroValue,typeInfo,hi,hv]
     simp only [Instr.buildSlice,Sem.run_bind,run_underlying ht,Result.andThen_ok,zaM he];simp only [h24,hne,if_false,Sem.run_bind,Sem.run_pure,Result.andThen_ok,hzr,hvc'];rw [show (λx=>(#[z]:Array Value)[x%(#[z]:Array Value).size]!)=λi=>(#[z]:Array Value)[i%1]! from rfl,hf];rfl
   · simp only [List.mem_cons,List.not_mem_nil,or_false] at hb
     subst hb;exact ⟨_,_,hB⟩
   simp only [List.mem_cons,List.not_mem_nil,or_false] at hb;subst hb;exact ⟨Nat.le_refl _,hlt⟩
theorem zuf (u v:Value) (cells:Array Value) (s:Nat) (hu:u.cells.size=s) (hv:v.cells.size=s) (hc:cells.size=2*s) :
   Instr.fill (λi=>some (i*s,s)) cells [(0,u),(1,v)]=some (u.cells++v.cells):=by
 have key:∀ (x:Value) (off:Nat) (cs:Array Value),x.cells.zipIdx.foldl (λ(cs:Array Value) (p:Value×Nat)=>match p with | (c,j)=>cs.setIfInBounds (off+j) c) cs
     = (x.cells.toList.zipIdx 0).foldl (λ(cs:Array Value) (p:Value×Nat)=>cs.setIfInBounds (off+p.2) p.1) cs:=by
   intro x off cs;rw [←Array.foldl_toList,Array.toList_zipIdx]
 unfold Instr.fill;simp only [Nat.zero_mul];rw [if_neg (by simp;omega)];rw [key];obtain ⟨h1,h2⟩:=ziL 0 u.cells.toList 0 cells;generalize (u.cells.toList.zipIdx 0).foldl (λ(cs:Array Value) (p:Value×Nat)=>cs.setIfInBounds (0+p.2) p.1) cells=c1 at *;unfold Instr.fill;simp only [Nat.one_mul];rw [if_neg (by simp;omega)];unfold Instr.fill;rw [key];obtain ⟨h3,h4⟩:=ziL s v.cells.toList 0 c1;generalize (v.cells.toList.zipIdx 0).foldl (λ(cs:Array Value) (p:Value×Nat)=>cs.setIfInBounds (s+p.2) p.1) c1=c2 at *;congr 1;apply Array.ext_getElem?;intro i;rw [h4,h2,Array.getElem?_append];simp only [Array.length_toList,Nat.add_zero,Nat.zero_add,Array.getElem?_toList,Nat.sub_zero];by_cases hi:i<s
 · rw [if_neg (by omega),if_pos (by omega),if_pos (by omega)]
 by_cases hi2:i<2*s
 · rw [if_pos (by omega),if_neg (by omega),hu]
 rw [if_neg (by omega),if_neg (by omega),if_neg (by omega),Array.getElem?_eq_none (by omega),Array.getElem?_eq_none (by omega)]
theorem zqN {t:TypeId} {by_:Nat} {u v:Value} {x y:α} {lo l0 h0 l1 h1:Nat} {K:Value→World→Prop} (ht:P.underlying t=some (.slice e)) (he:tyI P e=some (Rep.size α,by_,Rep.agg α)) (hz:zbX P e=true) (hsz:Rep.size α≤1000)
   (hx:OwnI l0 h0 w u x) (hy:OwnI l1 h1 w v y) (hd:h0≤l1∨h1≤l0) (hl:lo≤l0∧lo≤l1∧lo≤w.heap.size)
   (k:∀ v' w',Ext w w'→OwnI lo w'.heap.size w' v' [x,y]→K v' w'):OP P (Instr.buildSlice t 2 #[(0,u),(1,v)]) w K:=by
 obtain ⟨F,⟨⟨cs,hr,rfl⟩,hn,hw⟩,hF⟩:=hx;obtain ⟨G,⟨⟨ds,hr2,rfl⟩,hn2,hw2⟩,hG⟩:=hy;have hlen:=Rep.len hr;have hlen2:=Rep.len hr2;have hcl:=zek hr;have hcl2:=zek hr2;have hvs:(mkv α cs).cells.size=Rep.size α:=by rw [←Array.length_toList,hcl,hlen]
 have hvs2:(mkv α ds).cells.size=Rep.size α:=by rw [←Array.length_toList,hcl2,hlen2]
 obtain ⟨i,d,hi,hd',hs,hby,hg⟩:=zc5 he;unfold zbX at hz;rw [hi] at hz;obtain ⟨z,hz⟩:=Option.isSome_iff_exists.1 hz;have hpos:=Rep.pos (α:=α);have hxx:=zaP w (.cells ((mkv α cs).cells++(mkv α ds).cells) e);have hB:(w.alloc (.cells ((mkv α cs).cells++(mkv α ds).cells) e)).heap[w.heap.size]?=some (.cells ((mkv α cs).cells++(mkv α ds).cells) e (0,0)):=heap_alloc_new w _
 have hB':Blk w.heap.size e (w.alloc (.cells ((mkv α cs).cells++(mkv α ds).cells) e)) (cs++ds):=by
   unfold Blk;rw [hB];congr 2;apply Array.ext';simp [hcl,hcl2]
 have hlt:=hB'.lt;have hFl:=Rep.lt hr;have hGl:=Rep.lt hr2;refine ⟨.slice (some ⟨w.heap.size,0,none⟩) 2 2,_,?_,k _ _ hxx ⟨w.heap.size :: (F++G),⟨⟨_,⟨some ⟨w.heap.size,0,none⟩,2,F++G,cs++ds,rfl,lr _,by rw [zak];omega,⟨F,G,cs,ds,rfl,rfl,zb8 hr hxx,Cells.single (zb8 hr2 hxx)⟩,.inr ⟨_,_,rfl,rfl,hB'.range,hlt⟩⟩,rfl⟩,?_,?_⟩,?_⟩⟩
 · have hne:¬2*Rep.size α=0:=by omega
   have h24:¬2^24<2*Rep.size α:=by omega
   have hzr:(zeroValue e).run P w=.ok z w:=by simp [zeroValue,typeInfo,hi,hz]
   simp only [Instr.buildSlice,Sem.run_bind,run_underlying ht,Result.andThen_ok,zaM he];simp only [h24,hne,if_false,Sem.run_bind,Sem.run_pure,Result.andThen_ok,hzr];rw [zuf _ _ _ _ hvs hvs2 (by simp)];rfl
 · rw [List.nodup_cons,List.nodup_append]
   refine ⟨λhm=>?_,hn,hn2,λp hp q hq e=>?_⟩
   · rcases List.mem_append.1 hm with hm | hm
     · exact Nat.lt_irrefl _ (hFl _ hm)
     exact Nat.lt_irrefl _ (hGl _ hm)
   subst e;have:=hF p hp;have:=hG p hq;omega
 · intro b hb
   rcases List.mem_cons.1 hb with rfl | hb
   · exact ⟨_,_,hB⟩
   rcases List.mem_append.1 hb with hb | hb
   · exact (hw.ext hxx) b hb
   exact (hw2.ext hxx) b hb
 intro b hb;rcases List.mem_cons.1 hb with rfl | hb
 · exact ⟨hl.2.2,hlt⟩
 rcases List.mem_append.1 hb with hb | hb
 · have:=hF b hb;have:=hFl b hb;omega
 have:=hG b hb;have:=hGl b hb;omega
theorem zh2 {t ty:TypeId} {by_:Nat} {v src:Value} {l m:List α} {lo0 lo hi l1 h1:Nat} {K:Value→World→Prop} (ht:P.underlying t=some (.slice e)) (he:tyI P e=some (Rep.size α,by_,Rep.agg α))
   (hzc:(P.info? e).map (λi=>(i.zero.map (·.cells.size)))=some (some (Rep.size α))) (hv:RowI lo hi e w v l) (hlo:lo≤w.heap.size) (hs:OwnI l1 h1 w src m) (hd:hi≤l1∨h1≤lo) (h0:lo0≤lo) (hl:lo0≤l1) (hm:l.length+m.length≤maxLen) (hb:(l.length+m.length)*by_≤140737488355328)
   (k:∀ v' w',ChgI lo hi w w'→RowI lo0 w'.heap.size e w' v' (l++m)→K v' w'):OP P (Builtin.append_ #[t,t] ty [v,src].toArray) w K:=by
 obtain ⟨Fs,⟨⟨cs,⟨a,cap,Fi,xs,rfl,g1,g2,hc,h4⟩,hveq⟩,hnd,hw⟩,hFs⟩:=hs;simp only [mkv,Rep.agg,cond_false,List.headD_cons] at hveq;subst hveq
 have hFi:(∀ b∈Fi,l1≤b∧b<h1)∧Fi.Nodup∧Wr Fi w:=by
   rcases h4 with ⟨rfl,rfl⟩ | ⟨b,o,rfl,rfl,hr,hb'⟩
   · obtain ⟨rfl,rfl⟩:=hc
     exact ⟨(λb hb=>by cases hb),List.nodup_nil,Wr.nil w⟩
   exact ⟨λc hc=>hFs c (by simp [hc]),(List.nodup_cons.1 hnd).2,hw.sub (by simp +contextual)⟩
 have key:∀ (v:Value) (F:List Nat),RowF F e w v l→F.Nodup→(∀ b∈F,lo≤b∧b<hi)→OP P (Builtin.append_ #[t,t] ty [v,.slice a m.length cap].toArray) w K:=by
   intro v F hF hFn hFl
   refine ze1 (m:=m) ht he hzc hF hFn rfl hc (by
     rcases h4 with h | ⟨b,o,ha,_,hr,_⟩
     · exact .inl h.1
     exact .inr ⟨b,o,ha,hr⟩) hFi.2.2 ?_ hm hb λv' w' F' hch hfull hr' hn' hs'=>?_
   · rw [List.nodup_append]
     refine ⟨hFi.2.1,hFn,λp hp q hq e=>?_⟩;subst e;have:=hFi.1 p hp;have:=hFl p hq;omega
   have hown:∀ c∈v.ownBlock.toList,lo≤c∧c<hi:=λc hc=>by
     obtain ⟨xs,Fi,_,_,rfl,_⟩:=hF;exact hFl c (by simp only [List.mem_append];exact .inl hc)
   refine k v' w' (hch.toI hown) (.inr ⟨F',hr',hn',λc hc=>⟨?_,hr'.lt c hc⟩⟩);rcases hs' c hc with h | h | h
   · have:=(hFl c h).1;omega
   · have:=hFi.1 c h;omega
   omega
 rcases hv with ⟨a0,rfl,rfl⟩ | ⟨F,hF,hFn,hFl⟩
 · have kn:=key (.slice none 0 0) [] (zg7 e w) List.nodup_nil (by simp)
   cases a0 with
   | none=>exact kn
   | some x0=>
     by_cases hm0:m=[]
     · subst hm0
       refine ⟨.slice (some x0) 0 0,w,?_,k _ w (ChgI.refl w) (zcw _ _ _ _ _)⟩
       have hf:(Builtin.firstCells (Rep.size α) 0 (.slice a 0 cap)).run P w=.ok #[] w:=by
         cases a with
         | none=>rfl
         | some a=>simp [Builtin.firstCells,loadCells,loadCellsFrom]
       simp [Builtin.append_,run_underlying ht,zaM he,Builtin.lenOf,hf,storeCells]
     rcases h4 with h | ⟨b,o,rfl,_,hr,_⟩
     · exact absurd h.1 hm0
     exact ziM (zfr (α:=α) ht he hzc (Cells.len hc) hr (List.length_pos_iff.2 hm0) (by simpa using hm) (by simpa using hb)) kn
 exact key v F hF hFn hFl
theorem zqO {t ty:TypeId} {by_:Nat} {v src:Value} {l m:List α} {lo hi l1 h1:Nat} {K:Value→World→Prop} (ht:P.underlying t=some (.slice e)) (he:tyI P e=some (Rep.size α,by_,Rep.agg α))
   (hzc:(P.info? e).map (λi=>(i.zero.map (·.cells.size)))=some (some (Rep.size α))) (hv:RowI lo hi e w v l) (hlo:lo≤w.heap.size) (hs:OwnI l1 h1 w src m) (hd:hi≤l1∨h1≤lo) (hl:lo≤l1) (hm:l.length+m.length≤maxLen) (hb:(l.length+m.length)*by_≤140737488355328)
   (k:∀ v' w',ChgI lo hi w w'→RowI lo w'.heap.size e w' v' (l++m)→K v' w'):OP P (Builtin.append_ #[t,t] ty [v,src].toArray) w K:=zh2 ht he hzc hv hlo hs hd (lr _) hl hm hb k
end
end Go.Sh
namespace Go.Sh
open Rep (rep)
instance:Rep UInt8 where
 size:=1
 agg:=false
 rep F _ cs x:=F=[]∧cs=[.int .u8 (x.toNat:Int)]
 pos:=by decide
 sz _:=rfl
 len:=by rintro _ _ _ _ ⟨_,rfl⟩;rfl
 one:=by rintro _ _ _ _ ⟨_,rfl⟩ v hv;simp at hv;subst hv;rfl
 keep:=by rintro _ _ _ _ _ h _;exact h
 lt:=by rintro _ _ _ _ ⟨rfl,_⟩ b hb;cases hb
instance:Flat UInt8:=⟨λh=>h.1⟩
instance:RepZ UInt8:=⟨0,[.int .u8 0],λ_=>⟨rfl,rfl⟩⟩
section
variable {P:Program} {w w0:World} {K:Value→Prop} {t:TypeId} {x y:Operand}
theorem zxI {v:Value} {b:UInt8}:Is w v b↔v=.int .u8 (b.toNat:Int):=by
 constructor
 · rintro ⟨F,cs,⟨_,rfl⟩,rfl⟩;rfl
 rintro rfl;exact ⟨[],_,⟨rfl,rfl⟩,rfl⟩
theorem zpK {t by_ b o:Nat} {x:UInt8} (ht:tyI P t=some (1,by_,false)) (h:At w0 b o x) (hx:Ext w0 w) (k:K (.int .u8 (x.toNat:Int))) :
   RD P (Instr.loadAt t (.pointer (some ⟨b,o,none⟩))) w K:=
 zab (α:=UInt8) ht h hx λv hv=>by obtain rfl:=zxI.1 hv;exact k
end
end Go.Sh
namespace Go.Proofs.YtakjaofncelghaaGreat
open Go Go.Sh Go.Proofs
open Rep (rep)
def F34 (a0:Value) (w:World) (R:VW):Prop:=
 NIL a0 <|
 rF 99 a0 2 w λx7=>
 rL 3 x7 w λx8=>
 rB .mul 3 T0 U0 x8 (iV 6364136223846793005) w λx9=>
 rA x9 (iV 1442695040888963407) w λx10=>
 NIL a0 <|
 rF 99 a0 2 w λx12=>
 oS 3 x12 x10 w λw=>
 (λw=>NIL a0 <|
 rF 99 a0 2 w λx15=>
 rL 3 x15 w λx16=>
 rB .shr 3 T0 U0 x16 (Value.int .u64 33) w λx17=>
 NIL a0 <|
 rF 99 a0 2 w λx20=>
 rL 3 x20 w λx21=>
 rB .shr 3 T0 U0 x21 (Value.int .u64 45) w λx22=>
 rB .xor 3 T0 T0 x17 x22 w λx23=>
 rB .and 3 T0 U0 x23 (iV 255) w λx24=>
 (λw=>NIL a0 <|
 rF 99 a0 1 w λx27=>
 rL 3 x27 w λx28=>
 NIL a0 <|
 rF 99 a0 0 w λx31=>
 rL 22 x31 w λx32=>
 rN 22 3 x32 w λx33=>
 rC x28 x33 w λx34=>
 BR x34
 ((λw=>NIL a0 <|
 rF 99 a0 0 w λx38=>
 rL 22 x38 w λx39=>
 NIL a0 <|
 rF 99 a0 1 w λx42=>
 rL 3 x42 w λx43=>
 rX 22 x39 x43 w λx44=>
 rL 5 x44 w λx45=>
 rD (convert 5 3 x45) w λx46=>
 rB .add 3 T0 T0 x24 x46 w λx47=>
 rB .and 3 T0 U0 x47 (iV 255) w λx48=>
 NIL a0 <|
 rF 99 a0 1 w λx52=>
 rL 3 x52 w λx53=>
 rI x53 w λx54=>
 NIL a0 <|
 rF 99 a0 1 w λx56=>
 oS 3 x56 x54 w λw=>
 R x48 w) (World.drew1 w))
 (R x24 w)) (World.drew1 w)) (World.drew1 w)
theorem F34_call {a0 w R} (h:F34 a0 w R):cL 34 [a0] w R:=co (g:=(kf [] [] [(2,[0,1,2,3,4,5,6,7,8,9,10,11,12],0),(3,[0,1,2,3,4,5,6,7,8,9],0),(4,[0,1,2,3,4,5,6,7,8,9,10,11,12,13,14],0)])) Tryz.func34 h
theorem zw6:zcu tp 3=some [.int .i64 0]:=by kernel_rfl
theorem zcp:zcu tp 9=some [.string ByteArray.empty]:=by kernel_rfl
def CurAt (W:World) (g:Nat) (bs:List UInt8) (s:Cur) (w:World):Prop:=
 ∃ v,Is W v bs∧Ext W w∧W.heap.size≤g∧Blk g 99 w [v,.int .i64 (s.i:Int),.int .i64 s.h]∧s.i≤bs.length∧bs.length≤1048576
section
variable {W w w':World} {g a b:Nat} {bs:List UInt8} {s:Cur}
theorem CurAt.lt (h:CurAt W g bs s w):W.heap.size≤g∧g<w.heap.size:=by
 obtain ⟨v,_,_,h1,h2,_⟩:=h;exact ⟨h1,h2.lt⟩
theorem CurAt.ext (h:CurAt W g bs s w) (hx:Ext w w'):CurAt W g bs s w':=by
 obtain ⟨v,h0,h1,h2,h3,h4⟩:=h;exact ⟨v,h0,h1.trans hx,h2,h3.ext hx,h4⟩
theorem CurAt.chg (h:CurAt W g bs s w) (hc:ChgI a b w w') (h1:W.heap.size≤a) (hd:g<a∨b≤g):CurAt W g bs s w':=by
 obtain ⟨v,h0,hx,h2,h3,h4⟩:=h;exact ⟨v,h0,hx.chgI hc h1,h2,h3.chgI hc hd,h4⟩
theorem ChgI.out {c:World} {lo hi x y:Nat} (h:ChgI x y w w') (k:ChgI lo hi w' c) (hl:w.heap.size≤lo):ChgI x y w c:=
 ⟨k.os.trans h.os,k.tape.trans h.tape,k.output.trans h.output,Nat.le_trans h.size k.size,λi hi ho=>(k.block i (Nat.lt_of_lt_of_le hi h.size) (by omega)).trans (h.block i hi ho)⟩
end
theorem zee {W w:World} {g:Nat} {bs:List UInt8} {s:Cur} (hC:CurAt W g bs s w) :
   CALL tp 34 [.pointer (some ⟨g,0,none⟩)] w λr w'=>ChgI g (g+1) w w'∧CurAt W g bs (zdt bs s) w'∧r=.int .i64 (zhV bs s):=by
 obtain ⟨v,hv,hx,hg,hB,hi,hl⟩:=hC;refine F34_call ?_;unfold F34;refine NIL.mk rfl ?_;refine zaa zpx ?_;refine zas ty3 hB rfl ?_;refine zvM ?_;refine zr1 ?_;refine NIL.mk rfl ?_;refine zaa zpx ?_;refine zbp (α:=Int) ty3 rfl rfl hB (by simp) (ownI_int (lo:=0) (hi:=0) (zvL _)) λw1 hc1 hB1=>?_;have hx2:=zai w1;have hB2:=hB1.ext hx2;have hc2:=hc1.trans hx2.toI;have hvl:=zah hv;refine NIL.mk rfl ?_;refine zaa zpx ?_;refine zas ty3 hB2 rfl ?_;refine zr2 (n:=33) ?_;refine NIL.mk rfl ?_;refine zaa zpx ?_;refine zas ty3 hB2 rfl ?_;refine zr2 (n:=45) ?_;refine zvN ?_;refine zok ?_;have hx3:=zai (World.drew1 w1);have hB3:=hB2.ext hx3;have hc3:=hc2.trans hx3.toI;refine NIL.mk rfl ?_;refine zaa zpw ?_;refine zas ty3 hB3 rfl ?_;refine NIL.mk rfl ?_;refine zaa zvb ?_;refine zas zxQ hB3 rfl ?_;refine zae u22 hv ?_;have hx3':Ext W (World.drew1 (World.drew1 w1)):=hx.chgI hc3 hg;obtain ⟨bx,hbx⟩:∃ x,x=zua (zqI s.h):=⟨_,rfl⟩;have e0:zqA (zxv (zwX (zn3 (zn3 (s.h*6364136223846793005)+1442695040888963407)) 33) (zwX (zn3 (zn3 (s.h*6364136223846793005)+1442695040888963407)) 45)) 255=bx:=hbx.symm;have hbl:0≤bx∧bx≤255:=by rw [hbx];exact zlq _ (n:=255) (by omega)
 rw [e0];refine zaf ?_;refine br (λhlt=>?_) (λhge=>?_)
 · have hlt:s.i<bs.length:=by omega
   have hx4:=zai (World.drew1 (World.drew1 w1));have hB4:=hB3.ext hx4;have hc4:=hc3.trans hx4.toI;have hx4':=hx3'.trans hx4;refine NIL.mk rfl ?_;refine zaa zvb ?_;refine zas zxQ hB4 rfl ?_;refine NIL.mk rfl ?_;refine zaa zpw ?_;refine zas ty3 hB4 rfl ?_;refine zad u22 ty5 (i:=s.i) hv hlt λb o hA=>?_;refine zpK ty5 hA hx4' ?_;have h256:=UInt8.toNat_lt (bs[s.i]);refine zr3 (by kernel_rfl) u3 (by omega) ?_;refine zr1 ?_;refine zok ?_;refine NIL.mk rfl ?_;refine zaa zpw ?_;refine zas ty3 hB4 rfl ?_;refine zaB ?_;refine NIL.mk rfl ?_;refine zaa zpw ?_;refine zbp (α:=Int) ty3 rfl rfl hB4 (by simp) (ownI_int (lo:=0) (hi:=0) (by unfold I64;omega)) λw5 hc5 hB5=>?_;have hc6:=hc4.trans hc5;refine ⟨hc6,⟨v,hv,hx.chgI hc6 hg,hg,?_,?_,hl⟩,?_⟩
   rotate_left 2
   · have hq:zhV bs s=zqA (bx+(bs[s.i].toNat:Int)) 255:=by
       unfold zhV;rw [List.getElem?_eq_getElem hlt,hbx]
     rw [hq,zr0 (by unfold I64;omega)]
   · have:zdt bs s=⟨s.i+1,zqI s.h⟩:=by unfold zdt;rw [if_pos hlt]
     rw [this];exact hB5
   show (if s.i<bs.length then s.i+1 else s.i)≤_;rw [if_pos hlt];omega
 have hge:¬s.i<bs.length:=by omega
 refine ⟨hc3,⟨v,hv,hx3',hg,?_,?_,hl⟩,?_⟩
 rotate_left 2
 · have hq:zhV bs s=bx:=by
     unfold zhV;rw [List.getElem?_eq_none (by omega),hbx]
   rw [hq]
 · have:zdt bs s=⟨s.i,zqI s.h⟩:=by unfold zdt;rw [if_neg hge]
   rw [this];exact hB3
 show (if s.i<bs.length then s.i+1 else s.i)≤_;rw [if_neg hge];exact hi
def F35 (a0 a1:Value) (w:World) (R:VW):Prop:=
 rB .leq 3 T0 U0 a1 (iV 0) w λx10=>
 BR x10
 (R (iV 0) w)
 (rB .leq 3 T0 U0 a1 (iV 256) w λx12=>
 BR x12
 (cL 34 [a0] w λx14 w=>
 rB .rem 3 T0 T0 x14 a1 w λx16=>
 R x16 w)
 (cL 34 [a0] w λx18 w=>
 cL 34 [a0] w λx20 w=>
 cL 34 [a0] w λx22 w=>
 cL 34 [a0] w λx24 w=>
 rB .mul 3 T0 U0 x18 (iV 16777216) w λx26=>
 rB .mul 3 T0 U0 x20 (iV 65536) w λx28=>
 rB .add 3 T0 T0 x26 x28 w λx29=>
 rB .mul 3 T0 U0 x22 (iV 256) w λx31=>
 rB .add 3 T0 T0 x29 x31 w λx32=>
 rB .add 3 T0 T0 x32 x24 w λx34=>
 rB .rem 3 T0 T0 x34 a1 w λx36=>
 R x36 w))
theorem F35_call {a0 a1 w R} (h:F35 a0 a1 w R):cL 35 [a0,a1] w R:=co (g:=(kf [] [] [])) Tryz.func35 h
theorem zcq {w:World} {W:World} {g:Nat} {bs:List UInt8} {s:Cur} {n:Int}  (hC:CurAt W g bs s w) (hn:n≤1000000000000) :
   CALL tp 35 [.pointer (some ⟨g,0,none⟩),.int .i64 n] w λr w'=>ChgI g (g+1) w w'∧(CurAt W g bs (zam bs n s) w'∧r=.int .i64 (zbC bs n s)):=by
 refine F35_call ?_;unfold F35;have hgl:=hC.lt;have b1:=zeG bs s;have b2:=zeG bs (zdt bs s);have b3:=zeG bs (zdt bs (zdt bs s));have b4:=zeG bs (zdt bs (zdt bs (zdt bs s)));refine zdZ ?_;refine br (λc1=>?_) (λc1=>?_)
 · refine ⟨(ChgI.refl w),?_⟩
   unfold zam zbC;rw [if_pos c1,if_pos c1];exact ⟨hC,rfl⟩
 refine zdZ ?_;refine br (λc2=>?_) (λc2=>?_)
 · refine (zee hC).mono ?_
   rintro _ w1_ ⟨hc1_,hC1_,rfl⟩;have σhc1_:=hc1_.size;have σhc1_:=hc1_.size;refine zjd (by omega) ?_;refine ⟨hc1_,?_⟩;unfold zam zbC;rw [if_neg c1,if_neg c1,if_pos c2,if_pos c2];exact ⟨hC1_,rfl⟩
 refine (zee hC).mono ?_;rintro _ w2_ ⟨hc2_,hC2_,rfl⟩;have σhc2_:=hc2_.size;have σhc2_:=hc2_.size;refine (zee hC2_).mono ?_;rintro _ w3_ ⟨hc3_,hC3_,rfl⟩;have σhc3_:=hc3_.size;have σhc3_:=hc3_.size;refine (zee hC3_).mono ?_;rintro _ w4_ ⟨hc4_,hC4_,rfl⟩;have σhc4_:=hc4_.size;have σhc4_:=hc4_.size;refine (zee hC4_).mono ?_;rintro _ w5_ ⟨hc5_,hC5_,rfl⟩;have σhc5_:=hc5_.size;have σhc5_:=hc5_.size;refine zkH (by unfold I64;omega) ?_;refine zkH (by unfold I64;omega) ?_;refine zcG (by unfold I64;omega) ?_;refine zkH (by unfold I64;omega) ?_;refine zcG (by unfold I64;omega) ?_;refine zcG (by unfold I64;omega) ?_;refine zjd (by omega) ?_;refine ⟨(ChgI.trans (ChgI.trans (ChgI.trans hc2_ hc3_) hc4_) hc5_),?_⟩;unfold zam zbC;rw [if_neg c1,if_neg c1,if_neg c2,if_neg c2];exact ⟨hC5_,rfl⟩
def F129 (a0 a1:Value) (w:World) (R:VW):Prop:=
 cL 35 [a0,a1] w λx7 w=>
 rQ x7 (iV 0) w λx8=>
 R x8 w
theorem F129_call {a0 a1 w R} (h:F129 a0 a1 w R):cL 129 [a0,a1] w R:=co (g:=(kf [] [] [])) Tryz.func129 h
theorem zf8 {w:World} {W:World} {g:Nat} {bs:List UInt8} {s:Cur} {n:Int}  (hC:CurAt W g bs s w) (hn:n≤1000000000000) :
   CALL tp 129 [.pointer (some ⟨g,0,none⟩),.int .i64 n] w λr w'=>ChgI g (g+1) w w'∧(CurAt W g bs (zam bs n s) w'∧r=.bool (decide (zbC bs n s=0))):=by
 refine F129_call ?_;unfold F129;refine (zcq hC (by omega)).mono ?_;rintro _ w1_ ⟨hc1_,hC1_,rfl⟩;refine zag ?_;refine ⟨hc1_,?_⟩;exact ⟨hC1_,rfl⟩
theorem zes {α:Type} {l:List α} {i:Nat} {d:α} (h:i<l.length):l[i]=l.getD i d:=by rw [List.getD_eq_getElem?_getD,List.getElem?_eq_getElem h];rfl
def F195 (a0 a1:Value) (w:World) (R:VW):Prop:=
 rN 24 3 a1 w λx8=>
 cL 35 [a0,x8] w λx9 w=>
 rX 24 a1 x9 w λx10=>
 rL 9 x10 w λx11=>
 R x11 w
theorem F195_call {a0 a1 w R} (h:F195 a0 a1 w R):cL 195 [a0,a1] w R:=co (g:=(kf [] [] [])) Tryz.func195 h
theorem zde {w:World} {W:World} {g:Nat} {bs:List UInt8} {s:Cur} {v1:Value} {lo1 hi1:Nat} {l:(List ByteArray)}  (hC:CurAt W g bs s w) (h1:OwnI lo1 hi1 w v1 l) (hlo1:lo1≤w.heap.size) (hhi1:hi1≤w.heap.size) (hg1:g<lo1∨hi1≤g) (h0:0<l.length) (hn:l.length≤1000) :
   CALL tp 195 [.pointer (some ⟨g,0,none⟩),v1] w λr w'=>ChgI g (g+1) w w'∧(CurAt W g bs (zam bs (l.length:Int) s) w'∧r=.string (zcM bs l s)∧(zcM bs l s).size≤maxLen):=by
 refine F195_call ?_;unfold F195;have hgl:=hC.lt;have hbx:=zcf bs (n:=(l.length:Int)) (by omega) s;have hln8:=zah h1.is;refine zae u24 h1.is ?_;refine (zcq hC (by omega)).mono ?_;rintro _ w1_ ⟨hc1_,hC1_,rfl⟩;have σhc1_:=hc1_.size;have σhc1_:=hc1_.size;have h1_c1:=(h1.ext (Ext.refl w)).chg hc1_ (by omega);refine zax u24 ty9 h1_c1.is (by omega) (by omega) λb10 o10 h10=>?_;refine zaq ty9 h10 (Ext.refl w1_) λhS11=>?_;refine ⟨hc1_,?_⟩;refine ⟨hC1_,?_,?_⟩
 · unfold zcM;rw [←zes (by omega)]
 unfold zcM;rw [←zes (by omega)];assumption
def F285 (a0 a1:Value) (w:World) (R:VW):Prop:=
 rN 25 3 a1 w λx8=>
 cL 35 [a0,x8] w λx9 w=>
 rX 25 a1 x9 w λx10=>
 rL 3 x10 w λx11=>
 R x11 w
theorem F285_call {a0 a1 w R} (h:F285 a0 a1 w R):cL 285 [a0,a1] w R:=co (g:=(kf [] [] [])) Tryz.func285 h
theorem zhd {w:World} {W:World} {g:Nat} {bs:List UInt8} {s:Cur} {v1:Value} {lo1 hi1:Nat} {l:(List Int)}  (hC:CurAt W g bs s w) (h1:OwnI lo1 hi1 w v1 l) (hlo1:lo1≤w.heap.size) (hhi1:hi1≤w.heap.size) (hg1:g<lo1∨hi1≤g) (h0:0<l.length) (hn:l.length≤1000) :
   CALL tp 285 [.pointer (some ⟨g,0,none⟩),v1] w λr w'=>ChgI g (g+1) w w'∧(CurAt W g bs (zam bs (l.length:Int) s) w'∧r=.int .i64 (zhW bs l s)∧I64 (zhW bs l s)):=by
 refine F285_call ?_;unfold F285;have hgl:=hC.lt;have hbx:=zcf bs (n:=(l.length:Int)) (by omega) s;have hln8:=zah h1.is;refine zae u25 h1.is ?_;refine (zcq hC (by omega)).mono ?_;rintro _ w1_ ⟨hc1_,hC1_,rfl⟩;have σhc1_:=hc1_.size;have σhc1_:=hc1_.size;have h1_c1:=(h1.ext (Ext.refl w)).chg hc1_ (by omega);refine zax u25 ty3 h1_c1.is (by omega) (by omega) λb10 o10 h10=>?_;refine zac ty3 h10 (Ext.refl w1_) λhI11=>?_;refine ⟨hc1_,?_⟩;refine ⟨hC1_,?_,?_⟩
 · unfold zhW;rw [←zes (by omega)]
 unfold zhW;rw [←zes (by omega)];assumption
section
variable {w:World} {lo hi l0 h0 l1 h1:Nat} {K:Value→Prop}
theorem zfb {α:Type} [Rep α] {v:Value} {l:List α} (h:OwnI lo hi w v l):∃ a cap,v=.slice a l.length cap:=by
 obtain ⟨F,⟨⟨cs,⟨a,cap,Fi,xs,rfl,_⟩,hv⟩,_⟩,_⟩:=h;exact ⟨a,cap,by simpa [mkv,Rep.agg] using hv⟩
theorem zcg {α:Type} [Rep α]:OwnI (α:=List α) lo hi w (.slice none 0 0) []:=zdr none
theorem zjF:I64 0:=by unfold I64;omega
theorem zh3:nO.size≤maxLen:=by decide
theorem zoC {a b:Int} (ha:I64 a) (hb:I64 b) (k:∀ v,OwnI lo hi w v (DTerm.mk a b nO [])→K v):RD tp (Instr.build 116 #[(0,.int .i64 a),(1,.int .i64 b)]) w K:=
 zaX (cells:=#[.int .i64 a,.int .i64 b,.string nO,.slice none 0 0]) (by kernel_rfl) (k _ (ze4 ha hb zh3 zcg))
theorem zoD {a:Int} {s:ByteArray} (ha:I64 a) (hs:s.size≤maxLen) (k:∀ v,OwnI lo hi w v (DTerm.mk a 0 s [])→K v):RD tp (Instr.build 116 #[(0,.int .i64 a),(2,.string s)]) w K:=
 zaX (cells:=#[.int .i64 a,.int .i64 0,.string s,.slice none 0 0]) (by kernel_rfl) (k _ (ze4 ha zjF hs zcg))
theorem zjG {a:Int} {u:Value} {l:List DTerm} (ha:I64 a) (hu:OwnI lo hi w u l) (k:∀ v,OwnI lo hi w v (DTerm.mk a 0 nO l)→K v):RD tp (Instr.build 116 #[(0,.int .i64 a),(3,u)]) w K:=by
 obtain ⟨p,q,rfl⟩:=zfb hu;exact zaX (cells:=#[.int .i64 a,.int .i64 0,.string nO,.slice p l.length q]) (by kernel_rfl) (k _ (ze4 ha zjF zh3 hu))
theorem zfc:OwnI lo hi w (.agg #[.int .i64 0,.int .i64 0,.string nO,.slice none 0 0]) term0:=ze4 zjF zjF zh3 zcg
theorem mkS {k:Int} {s:ByteArray} {t:DTerm} {c0 c1 c2 c3 vb ve:Value} {bs es:List DStmt} {l0 h0 l1 h1 l2 h2:Nat} (hk:I64 k) (hs:s.size≤maxLen) (ht:OwnI l0 h0 w (.agg #[c0,c1,c2,c3]) t) (hb:OwnI l1 h1 w vb bs) (he:OwnI l2 h2 w ve es)
   (d01:h0≤l1∨h1≤l0) (d02:h0≤l2∨h2≤l0) (d12:h1≤l2∨h2≤l1) (b0:lo≤l0∧h0≤hi) (b1:lo≤l1∧h1≤hi) (b2:lo≤l2∧h2≤hi) :
   OwnI lo hi w (.agg #[.int .i64 k,.string s,c0,c1,c2,c3,vb,ve]) (DStmt.mk k s t bs es):=zrZ hk hs ht hb he d01 d02 d12 b0 b1 b2
theorem zkS {a:Int} (hl:lo≤hi) (ha:I64 a) (k:∀ v,OwnI lo hi w v (DStmt.mk a nO term0 [] [])→K v):RD tp (Instr.build 166 #[(0,.int .i64 a)]) w K:=
 zaX (cells:=#[.int .i64 a,.string nO,.int .i64 0,.int .i64 0,.string nO,.slice none 0 0,.slice none 0 0,.slice none 0 0]) (by kernel_rfl)
   (k _ (mkS (l0:=lo) (h0:=lo) (l1:=lo) (h1:=lo) (l2:=lo) (h2:=lo) ha zh3 zfc zcg zcg (by omega) (by omega) (by omega) (by omega) (by omega) (by omega)))
theorem zcN {a:Int} {s:ByteArray} (hl:lo≤hi) (ha:I64 a) (hs:s.size≤maxLen) (k:∀ v,OwnI lo hi w v (DStmt.mk a s term0 [] [])→K v):RD tp (Instr.build 166 #[(0,.int .i64 a),(1,.string s)]) w K:=
 zaX (cells:=#[.int .i64 a,.string s,.int .i64 0,.int .i64 0,.string nO,.slice none 0 0,.slice none 0 0,.slice none 0 0]) (by kernel_rfl)
   (k _ (mkS (l0:=lo) (h0:=lo) (l1:=lo) (h1:=lo) (l2:=lo) (h2:=lo) ha hs zfc zcg zcg (by omega) (by omega) (by omega) (by omega) (by omega) (by omega)))
theorem zmS {a:Int} {s:ByteArray} {u:Value} {t:DTerm} (hl:lo≤hi) (ha:I64 a) (hs:s.size≤maxLen) (hu:OwnI lo hi w u t) (k:∀ v,OwnI lo hi w v (DStmt.mk a s t [] [])→K v):RD tp (Instr.build 166 #[(0,.int .i64 a),(1,.string s),(2,u)]) w K:=by
 obtain ⟨p,q,rfl⟩:=zf6 hu.is
 exact zaX (cells:=#[.int .i64 a,.string s,.int .i64 t.kind,.int .i64 t.num,.string t.name,.slice p t.kids.length q,.slice none 0 0,.slice none 0 0]) (by kernel_rfl)
   (k _ (mkS (l1:=lo) (h1:=lo) (l2:=lo) (h2:=lo) ha hs hu zcg zcg (by omega) (by omega) (by omega) (by omega) (by omega) (by omega)))
theorem ziv {a:Int} {u v1:Value} {t:DTerm} {bs:List DStmt} (ha:I64 a) (hu:OwnI l0 h0 w u t) (hv:OwnI l1 h1 w v1 bs) (d:h0≤l1∨h1≤l0) (b0:lo≤l0∧h0≤hi) (b1:lo≤l1∧h1≤hi) (hl:lo≤hi)
   (k:∀ v,OwnI lo hi w v (DStmt.mk a nO t bs [])→K v):RD tp (Instr.build 166 #[(0,.int .i64 a),(2,u),(3,v1)]) w K:=by
 obtain ⟨p,q,rfl⟩:=zf6 hu.is;obtain ⟨p2,q2,rfl⟩:=zfb hv;refine zaX (cells:=#[.int .i64 a,.string nO,.int .i64 t.kind,.int .i64 t.num,.string t.name,.slice p t.kids.length q,.slice p2 bs.length q2,.slice none 0 0]) (by kernel_rfl) (k _ ?_);rcases d with d | d
 · exact mkS (l2:=min lo l0) (h2:=min lo l0) ha zh3 hu hv zcg (.inl d) (by omega) (by omega) b0 b1 (by omega)
 exact mkS (l2:=min lo l0) (h2:=min lo l0) ha zh3 hu hv zcg (.inr d) (by omega) (by omega) b0 b1 (by omega)
end
section
variable {bs:List UInt8} {n:Nat} {s:Cur}
theorem zmT (h:zep bs n s<3):zar bs n s=(.mk 1 (zhW bs zvR (zam bs 12 s)) nO [],zam bs 8 (zam bs 12 s)):=by
 cases n with
 | zero=>rw [zar,if_pos h]
 | succ n=>rw [zar,if_pos h]
theorem zmU (h:¬zep bs n s<3) (h2:zep bs n s<6):zar bs n s=(.mk 2 0 (zcM bs zrC (zam bs 12 s)) [],zam bs 5 (zam bs 12 s)):=by
 cases n with
 | zero=>rw [zar,if_neg h]
 | succ n=>rw [zar,if_neg h,if_pos h2]
theorem zeH (h2:¬zep bs n s<6):0<n:=by
 cases n with
 | zero=>have:=zvS bs s;omega
 | succ n=>omega
theorem zmV (h:¬zep bs n s<3) (h2:¬zep bs n s<6) (h3:zep bs n s=6):zar bs n s=(.mk 8 0 nO [(zar bs (n-1) (zam bs 12 s)).1],(zar bs (n-1) (zam bs 12 s)).2):=by
 have:=zeH h2;obtain ⟨m,rfl⟩:∃ m,n=m+1:=⟨n-1,by omega⟩;rw [zar,if_neg h,if_neg h2,if_pos h3];rfl
theorem zmW (h:¬zep bs n s<3) (h2:¬zep bs n s<6) (h3:¬zep bs n s=6):zar bs n s=(.mk (zhW bs opL (zam bs 12 s)) 0 nO [(zar bs (n-1) (zam bs 6 (zam bs 12 s))).1,(zar bs (n-1) (zar bs (n-1) (zam bs 6 (zam bs 12 s))).2).1],
     (zar bs (n-1) (zar bs (n-1) (zam bs 6 (zam bs 12 s))).2).2):=by
 have:=zeH h2;obtain ⟨m,rfl⟩:∃ m,n=m+1:=⟨n-1,by omega⟩;rw [zar,if_neg h,if_neg h2,if_neg h3];rfl
end
def zvf (n:Nat):Prop:=∀ {W w:World} {g:Nat} {bs:List UInt8} {s:Cur} {d:Int},CurAt W g bs s w→d=(n:Int) →
 CALL tp 247 [.pointer (some ⟨g,0,none⟩),.int .i64 d] w λr w'=>ChgI g (g+1) w w'∧CurAt W g bs (zar bs n s).2 w'∧OwnI w.heap.size w'.heap.size w' r (zar bs n s).1
def F247 (a0 a1:Value) (w:World) (R:VW):Prop:=
 oP (aL 116) w λx4 w=>
 cL 35 [a0,(iV 12)] w λx7 w=>
 JOIN [5] (λJ4=>
 rB .leq 3 T0 U0 a1 (iV 0) w λx9=>
 BR x9
 (rB .geq 3 T0 U0 x7 (iV 6) w λx12=>
 BR x12
 (rB .sub 3 T0 U0 x7 (iV 6) w λx15=>
 J4 [x15] w)
 (J4 [x7] w))
 (J4 [x7] w)) (λu4 w=>
 rB .lss 3 T0 U0 (u4 5) (iV 3) w λx18=>
 BR x18
 (oP (Instr.buildSlice 25 8 #[(0,(iV 0)),(1,(iV 1)),(2,(iV 2)),(3,(iV 3)),(4,(iV 7)),(5,(iV 999)),(6,(iV 1000)),(7,(iV 1000000000))]) w λx20 w=>
 cL 285 [a0,x20] w λx21 w=>
 rD (Instr.build 116 #[(0,(iV 1)),(1,x21)]) w λx22=>
 oS 116 x4 x22 w λw=>
 rD (zaJ 116 x4) w λr4=>R r4 w)
 (rB .lss 3 T0 U0 (u4 5) (iV 6) w λx25=>
 BR x25
 (oP (Instr.buildSlice 24 5 #[(0,(Value.string (ByteArray.mk #[120]))),(1,(Value.string (ByteArray.mk #[121]))),(2,(Value.string (ByteArray.mk #[122]))),(3,(Value.string (ByteArray.mk #[120]))),(4,(Value.string (ByteArray.mk #[117])))]) w λx27 w=>
 cL 195 [a0,x27] w λx28 w=>
 rD (Instr.build 116 #[(0,(iV 2)),(2,x28)]) w λx29=>
 oS 116 x4 x29 w λw=>
 rD (zaJ 116 x4) w λr4=>R r4 w)
 (rQ (u4 5) (iV 6) w λx32=>
 BR x32
 (rB .sub 3 T0 U0 a1 (iV 1) w λx35=>
 cL 247 [a0,x35] w λx36 w=>
 oP (bS 114 x36) w λx37 w=>
 rD (Instr.build 116 #[(0,(iV 8)),(3,x37)]) w λx38=>
 oS 116 x4 x38 w λw=>
 rD (zaJ 116 x4) w λr4=>R r4 w)
 (oP (Instr.buildSlice 25 6 #[(0,(iV 3)),(1,(iV 4)),(2,(iV 5)),(3,(iV 6)),(4,(iV 7)),(5,(iV 9))]) w λx40 w=>
 cL 285 [a0,x40] w λx41 w=>
 rB .sub 3 T0 U0 a1 (iV 1) w λx44=>
 cL 247 [a0,x44] w λx45 w=>
 rB .sub 3 T0 U0 a1 (iV 1) w λx48=>
 cL 247 [a0,x48] w λx49 w=>
 oP (Instr.buildSlice 114 2 #[(0,x45),(1,x49)]) w λx50 w=>
 rD (Instr.build 116 #[(0,x41),(3,x50)]) w λx51=>
 oS 116 x4 x51 w λw=>
 rD (zaJ 116 x4) w λr4=>R r4 w))))
theorem F247_call {a0 a1 w R} (h:F247 a0 a1 w R):cL 247 [a0,a1] w R:=co (g:=(kf [(4,65312,[5])] [] [])) Tryz.func247 h
theorem zmX {w:World} {W:World} {g:Nat} {bs:List UInt8} {s:Cur} {d:Int} {n:Nat} (hC:CurAt W g bs s w) (hd:d=(n:Int)) (ih:∀ m,m+1=n→zvf m) (hn:n≤10) :
   CALL tp 247 [.pointer (some ⟨g,0,none⟩),.int .i64 d] w λr w'=>ChgI g (g+1) w w'∧(CurAt W g bs (zar bs n s).2 w'∧OwnI w.heap.size w'.heap.size w' r (zar bs n s).1):=by
 refine F247_call ?_;unfold F247;have hgl:=hC.lt;have hb12:=zcf bs (n:=12) (by omega) s;refine zfp (α:=DTerm) zqC λw1_ η1 hv4=>?_;have hg4:=hv4.lt;have σ1:=η1.size;refine (zcq (CurAt.ext hC η1) (by omega)).mono ?_;rintro _ w2_ ⟨hc2_,hC2_,rfl⟩;have σhc2_:=hc2_.size;have σhc2_:=hc2_.size;have hv4_c2:=(hv4.ext (Ext.refl w1_)).chg hc2_ (by omega) (by omega);refine JOIN.mk (λus w'=>us=[.int .i64 (zep bs n s)]∧Ext w2_ w'∧(True)) ?_ ?_
 · refine zdZ ?_
   refine br (λc1=>?_) (λc1=>?_)
   · refine zbW ?_
     refine br (λc2=>?_) (λc2=>?_)
     · refine za0 (by unfold I64;omega) ?_
       refine ⟨by unfold zep;rw [if_pos (by omega)],Ext.refl w2_,?_⟩;trivial
     refine ⟨by unfold zep;rw [if_neg (by omega)],Ext.refl w2_,?_⟩;trivial
   refine ⟨by unfold zep;rw [if_neg (by omega)],Ext.refl w2_,?_⟩;trivial
 rintro uj4 w3_ ⟨hu,η3,_⟩;have σ3:=η3.size;try replace hu:=zbG hu
 try rw [hu]
 try clear hu
 refine zaf ?_;refine br (λc3=>?_) (λc3=>?_)
 · refine zfL (vs:=([0,1,2,3,7,999,1000,1000000000]:List Int).map (Value.int .i64)) u25 ty3 zw6 (by decide) (by kernel_rfl) rfl (λw=>zh1 (by simp [I64])) λv20 w4_ η4 o20=>?_
   have σ4:=η4.size;refine (zhd (CurAt.ext (CurAt.ext hC2_ η3) η4) (o20.ext (Ext.refl w4_)) (by omega) (by omega) (by omega) (by decide) (by decide)).mono ?_;rintro _ w5_ ⟨hc5_,hC5_,rfl,hI21⟩;have σhc5_:=hc5_.size;have σhc5_:=hc5_.size;have hv4_c5:=(hv4_c2.ext (η3.t η4)).chg hc5_ (by omega) (by omega);have o20_c5:=(o20.ext (Ext.refl w4_)).chg hc5_ (by omega);refine zoC (lo:=w5_.heap.size) (hi:=w5_.heap.size) (by first | assumption | (unfold I64;omega)) (by first | assumption | (unfold I64;omega)) λv22 o22=>?_;refine zbf za4 (hv4_c5.ext (Ext.refl w5_)) (o22.ext (Ext.refl w5_)) (by omega) λw6_ hc6_ hv4_s6=>?_;have σhc6_:=hc6_.size;have o20_c6:=(o20_c5.ext (Ext.refl w5_)).chg hc6_ (by omega);have o22_c6:=(o22.ext (Ext.refl w5_)).chg hc6_ (by omega);refine zbT za4 hv4_s6 (Ext.refl w6_) λr4 hr4=>?_
   replace hr4:=hr4.ext (Ext.refl w6_)
   refine ⟨(ChgI.out (ChgI.trans (ChgI.trans (ChgI.trans (ChgI.trans (Ext.toI η1) hc2_) (Ext.toI η3)) (Ext.toI η4)) hc5_) hc6_ (by omega)),?_⟩;rw [zmT (by omega)];exact ⟨(CurAt.chg hC5_ hc6_ (by omega) (by omega)),hr4.mono (by omega) (by omega)⟩
 refine zaf ?_;refine br (λc4=>?_) (λc4=>?_)
 · refine zfL (vs:=([ByteArray.mk #[120],ByteArray.mk #[121],ByteArray.mk #[122],ByteArray.mk #[120],ByteArray.mk #[117]]:List ByteArray).map Value.string) u24 ty9 zcp (by decide) (by kernel_rfl) rfl (λw=>zcB (by decide)) λv27 w7_ η7 o27=>?_
   have σ7:=η7.size;refine (zde (CurAt.ext (CurAt.ext hC2_ η3) η7) (o27.ext (Ext.refl w7_)) (by omega) (by omega) (by omega) (by decide) (by decide)).mono ?_;rintro _ w8_ ⟨hc8_,hC8_,rfl,hS28⟩;have σhc8_:=hc8_.size;have σhc8_:=hc8_.size;have hv4_c8:=(hv4_c2.ext (η3.t η7)).chg hc8_ (by omega) (by omega);have o27_c8:=(o27.ext (Ext.refl w7_)).chg hc8_ (by omega);refine zoD (lo:=w8_.heap.size) (hi:=w8_.heap.size) (by first | assumption | (unfold I64;omega)) (by first | assumption | decide) λv29 o29=>?_;refine zbf za4 (hv4_c8.ext (Ext.refl w8_)) (o29.ext (Ext.refl w8_)) (by omega) λw9_ hc9_ hv4_s9=>?_;have σhc9_:=hc9_.size;have o27_c9:=(o27_c8.ext (Ext.refl w8_)).chg hc9_ (by omega);have o29_c9:=(o29.ext (Ext.refl w8_)).chg hc9_ (by omega);refine zbT za4 hv4_s9 (Ext.refl w9_) λr4 hr4=>?_
   replace hr4:=hr4.ext (Ext.refl w9_)
   refine ⟨(ChgI.out (ChgI.trans (ChgI.trans (ChgI.trans (ChgI.trans (Ext.toI η1) hc2_) (Ext.toI η3)) (Ext.toI η7)) hc8_) hc9_ (by omega)),?_⟩;rw [zmU (by omega) (by omega)];exact ⟨(CurAt.chg hC8_ hc9_ (by omega) (by omega)),hr4.mono (by omega) (by omega)⟩
 refine zag ?_;refine br (λc5=>?_) (λc5=>?_)
 · refine za0 (by unfold I64;omega) ?_
   have hnp:=zeH (show ¬zep bs n s<6 by omega);refine (ih (n-1) (by omega) (CurAt.ext hC2_ η3) (by omega)).mono ?_;rintro r36 w10_ ⟨hc10_,hC10_,o36⟩;have σhc10_:=hc10_.size;have σhc10_:=hc10_.size;have hv4_c10:=(hv4_c2.ext η3).chg hc10_ (by omega) (by omega);refine zhO (α:=DTerm) zgq za4 zxy (by decide) (o36.ext (Ext.refl w10_)) (by omega) λv37 w11_ η11 o37=>?_;have σ11:=η11.size;refine zjG (lo:=w3_.heap.size) (hi:=w11_.heap.size) (by first | assumption | (unfold I64;omega)) (o37.ext (Ext.refl w11_)) λv38 o38=>?_;refine zbf za4 (hv4_c10.ext η11) (o38.ext (Ext.refl w11_)) (by omega) λw12_ hc12_ hv4_s12=>?_;have σhc12_:=hc12_.size;have o36_c12:=(o36.ext η11).chg hc12_ (by omega);have o37_c12:=(o37.ext (Ext.refl w11_)).chg hc12_ (by omega);have o38_c12:=(o38.ext (Ext.refl w11_)).chg hc12_ (by omega);refine zbT za4 hv4_s12 (Ext.refl w12_) λr4 hr4=>?_
   replace hr4:=hr4.ext (Ext.refl w12_)
   refine ⟨(ChgI.out (ChgI.trans (ChgI.trans (ChgI.trans (ChgI.trans (Ext.toI η1) hc2_) (Ext.toI η3)) hc10_) (Ext.toI η11)) hc12_ (by omega)),?_⟩;rw [zmV (by omega) (by omega) (by omega)];exact ⟨(CurAt.chg (CurAt.ext hC10_ η11) hc12_ (by omega) (by omega)),hr4.mono (by omega) (by omega)⟩
 refine zfL (vs:=([3,4,5,6,7,9]:List Int).map (Value.int .i64)) u25 ty3 zw6 (by decide) (by kernel_rfl) rfl (λw=>zh1 (by simp [I64])) λv40 w13_ η13 o40=>?_;have σ13:=η13.size;refine (zhd (CurAt.ext (CurAt.ext hC2_ η3) η13) (o40.ext (Ext.refl w13_)) (by omega) (by omega) (by omega) (by decide) (by decide)).mono ?_;rintro _ w14_ ⟨hc14_,hC14_,rfl,hI41⟩;have σhc14_:=hc14_.size;have σhc14_:=hc14_.size;have hv4_c14:=(hv4_c2.ext (η3.t η13)).chg hc14_ (by omega) (by omega);have o40_c14:=(o40.ext (Ext.refl w13_)).chg hc14_ (by omega);refine za0 (by unfold I64;omega) ?_;have hnp:=zeH (show ¬zep bs n s<6 by omega);refine (ih (n-1) (by omega) hC14_ (by omega)).mono ?_;rintro r45 w15_ ⟨hc15_,hC15_,o45⟩;have σhc15_:=hc15_.size;have σhc15_:=hc15_.size;have hv4_c15:=(hv4_c14.ext (Ext.refl w14_)).chg hc15_ (by omega) (by omega);have o40_c15:=(o40_c14.ext (Ext.refl w14_)).chg hc15_ (by omega);refine za0 (by unfold I64;omega) ?_;refine (ih (n-1) (by omega) hC15_ (by omega)).mono ?_;rintro r49 w16_ ⟨hc16_,hC16_,o49⟩;have σhc16_:=hc16_.size;have σhc16_:=hc16_.size;have hv4_c16:=(hv4_c15.ext (Ext.refl w15_)).chg hc16_ (by omega) (by omega);have o40_c16:=(o40_c15.ext (Ext.refl w15_)).chg hc16_ (by omega);have o45_c16:=(o45.ext (Ext.refl w15_)).chg hc16_ (by omega);refine zqN (α:=DTerm) (lo:=w14_.heap.size) zgq za4 zxy (by decide) (o45_c16.ext (Ext.refl w16_)) (o49.ext (Ext.refl w16_)) (by omega) (by omega) λv50 w17_ η17 o50=>?_;have σ17:=η17.size;refine zjG (lo:=w14_.heap.size) (hi:=w17_.heap.size) (by first | assumption | (unfold I64;omega)) (o50.ext (Ext.refl w17_)) λv51 o51=>?_;refine zbf za4 (hv4_c16.ext η17) (o51.ext (Ext.refl w17_)) (by omega) λw18_ hc18_ hv4_s18=>?_;have σhc18_:=hc18_.size;have o40_c18:=(o40_c16.ext η17).chg hc18_ (by omega);have o45_c18:=(o45_c16.ext η17).chg hc18_ (by omega);have o49_c18:=(o49.ext η17).chg hc18_ (by omega);have o50_c18:=(o50.ext (Ext.refl w17_)).chg hc18_ (by omega);have o51_c18:=(o51.ext (Ext.refl w17_)).chg hc18_ (by omega);refine zbT za4 hv4_s18 (Ext.refl w18_) λr4 hr4=>?_
 replace hr4:=hr4.ext (Ext.refl w18_)
 refine ⟨(ChgI.out (ChgI.trans (ChgI.trans (ChgI.trans (ChgI.trans (ChgI.trans (ChgI.trans (ChgI.trans (Ext.toI η1) hc2_) (Ext.toI η3)) (Ext.toI η13)) hc14_) hc15_) hc16_) (Ext.toI η17)) hc18_ (by omega)),?_⟩;rw [zmW (by omega) (by omega) (by omega)];exact ⟨(CurAt.chg (CurAt.ext hC16_ η17) hc18_ (by omega) (by omega)),hr4.mono (by omega) (by omega)⟩
theorem zf9:∀ (n:Nat),n≤10→zvf n
 | n,hn=>by
   intro h hd;exact zmX h hd (λm hm=>zf9 m (by omega)) hn
end Go.Proofs.YtakjaofncelghaaGreat
