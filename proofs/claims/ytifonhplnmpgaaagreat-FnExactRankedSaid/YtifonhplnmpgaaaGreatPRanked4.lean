/-
  Parts of the proof, put together by program.
-/
import Derived.Test.YtifonhplnmpgaaaGreatPRanked3
set_option linter.unusedVariables false
set_option linter.unusedSimpArgs false
set_option linter.unusedSectionVars false
namespace Go.Proofs.YtifonhplnmpgaaaGreat
open Go Go.Sh Go.Proofs
open Rep (rep)
def zra:DIns:=⟨0,0,term0,0⟩
def en (c:DCode) (i:Nat):Int:=c.entry.getD i 0
def zaj (c:DCode) (j:Nat):DIns:=c.ins.getD j zra
theorem zbf {c:DCode} {i:Nat} (h:i<c.entry.length):c.entry[i]=en c i:=by unfold en;rw [List.getD_eq_getElem?_getD,List.getElem?_eq_getElem h];rfl
theorem zaS {c:DCode} {i:Nat} (h:i<c.ins.length):c.ins[i]=zaj c i:=by unfold zaj;rw [List.getD_eq_getElem?_getD,List.getElem?_eq_getElem h];rfl
def prc (c:DCode) (a:Int):Nat→Int
 | 0=>-1
 | n+1=>if en c n≤a then n else prc c a n
def zaC (c:DCode) (a:Int):Int:=prc c a c.entry.length
theorem zfM {c:DCode} {a:Int} {m:Nat}:∀ {n:Nat},m≤n→(∀ j,m≤j→j<n→a<en c j)→prc c a n=prc c a m
 | 0,h,_=>by rw [Nat.le_zero.1 h]
 | n+1,h,hj=>by
   by_cases e:m=n+1
   · rw [e]
   rw [prc,if_neg (by have:=hj n (by omega) (by omega);omega)]
   exact zfM (by omega) fun j h1 h2=>hj j h1 (by omega)
theorem zoV {c:DCode} {a:Int}:∀ (n:Nat),-1≤prc c a n∧prc c a n<n
 | 0=>by simp [prc]
 | n+1=>by
   have:=zoV (c:=c) (a:=a) n
   rw [prc]
   split<;>omega
theorem ze4 {c:DCode} {a:Int}:-1≤zaC c a∧zaC c a<c.entry.length:=zoV _
def zdD (c:DCode) (p:Int):Int:=if p+1<c.entry.length then en c (p+1).toNat-1 else (c.ins.length:Int)-1
def zcB (c:DCode) (i:Nat):Int:=if i+1<c.entry.length then en c (i+1) else c.ins.length
theorem zc6 (c:DCode) (i:Nat):zdD c i=zcB c i-1:=by
 unfold zdD zcB
 have e:((i:Int)+1).toNat=i+1:=by omega
 by_cases h:i+1<c.entry.length
 · rw [if_pos (by omega),if_pos h,e]
 rw [if_neg (by omega),if_neg h]
def F97 (a0 a1:Value) (w:World) (R:VW):Prop:=
 oP (Instr.box 32 a0) w fun x2 w=>
 rF 32 x2 3 w fun x6=>
 rL 23 x6 w fun x7=>
 rN 23 3 x7 w fun x8=>
 rB .sub 3 T0 U0 x8 (iV 1) w fun x9=>
 LOOPI [5] [x9] w fun u2 w next2=>
 rB .geq 3 T0 U0 (u2 5) (iV 0) w fun x11=>
 BR x11
 (rF 32 x2 3 w fun x14=>
 rL 23 x14 w fun x15=>
 rX 23 x15 (u2 5) w fun x17=>
 rL 3 x17 w fun x18=>
 rB .leq 3 T0 T0 x18 a1 w fun x20=>
 BR x20
 (R (u2 5) w)
 (rB .sub 3 T0 U0 (u2 5) (iV 1) w fun x13=>
 next2 [x13] w))
 (R (iV (-1)) w)
def cfg97:Cfg:=⟨extL,[],[(2,4193328,[5])],[],[],[],[]⟩
theorem F97_call {a0 a1:Value} {w:World} {R:VW} (h:F97 a0 a1 w R):cL 97 [a0,a1] w R:=co (g:=cfg97) Tryz.func97 (by kernel_rfl) (by kernel_rfl) (by kernel_rfl) h
theorem zhh {w:World} {v0:Value} {W0:World} {c:DCode} {a:Int}  (h0:Is W0 v0 c) (e0:Ext W0 w)  :
   CALL Tryz.prog 97 [v0,.int .i64 a] w fun r w'=>Ext w w'∧(r=.int .i64 (zaC c a)):=by
 refine F97_call ?_
 unfold F97
 refine zax zdh rfl h0 e0 fun w1_ hx1_ hA2 hV2=>?_
 refine zaa zaO ?_
 refine zab zbv (zal hA2) (Ext.refl w1_) fun v7 h7=>?_
 have hln8:=zai h7
 refine zae u23 h7 ?_
 refine za9 (by unfold I64;omega) ?_
 refine zaq (c.entry.length) (fun k us w'=>us=[.int .i64 ((c.entry.length:Int)-1-(k:Int))]∧Ext w1_ w'∧(∀ j,c.entry.length-k≤j→j<c.entry.length→a<en c j)) (0) (by omega) ⟨by simp,Ext.refl w1_,fun j h1 h2=>by omega⟩ ?_
 rintro k m2 uu2 w2_ hk2 ⟨hu,hx2_,hinv⟩
 simp only [List.map_cons,List.map_nil,List.cons.injEq,and_true] at hu
 try rw [hu]
 try clear hu
 have hln:=zai h7
 refine zbY ?_
 refine br (fun c1=>?_) (fun c1=>?_)
 · refine zaa zaO ?_
   refine zab zbv (zal hA2) hx2_ fun v15 h15=>?_
   refine zcD u23 ty3 h15 (by omega) (by omega) fun b17 o17 h17=>?_
   have hn17:((c.entry.length:Int)-1-(k:Int)).toNat=c.entry.length-k-1:=by omega
   simp only [hn17] at h17
   refine zad ty3 h17 hx2_ fun hI18=>?_
   refine zdM ?_
   refine br (fun c2=>?_) (fun c2=>?_)
   · refine ⟨(hx1_.trans hx2_),?_⟩
     rw [zbf] at c2
     unfold zaC
     rw [zfM (m:=c.entry.length-k) (by omega) hinv,show c.entry.length-k=(c.entry.length-k-1)+1 by omega,prc,if_pos c2]
     congr 1
     omega
   refine za9 (by unfold I64;omega) ?_
   refine ⟨m2-1,by omega,k+1,by omega,by simp;omega,hx2_,?_⟩
   intro j h1 h2
   by_cases hj:j=c.entry.length-k-1
   · subst hj
     rw [zbf] at c2
     omega
   exact hinv j (by omega) h2
 refine ⟨(hx1_.trans hx2_),?_⟩
 unfold zaC
 rw [zfM (m:=c.entry.length-k) (by omega) hinv,show c.entry.length-k=0 by omega]
 rfl
def F124 (a0 a1:Value) (w:World) (R:VW):Prop:=
 oP (Instr.box 32 a0) w fun x2 w=>
 rA a1 (iV 1) w fun x6=>
 rF 32 x2 3 w fun x7=>
 rL 23 x7 w fun x8=>
 rN 23 3 x8 w fun x9=>
 rC x6 x9 w fun x10=>
 BR x10
 (rF 32 x2 3 w fun x11=>
 rL 23 x11 w fun x12=>
 rA a1 (iV 1) w fun x14=>
 rX 23 x12 x14 w fun x15=>
 rL 3 x15 w fun x16=>
 rB .sub 3 T0 U0 x16 (iV 1) w fun x17=>
 R x17 w)
 (rF 32 x2 4 w fun x18=>
 rL 30 x18 w fun x19=>
 rN 30 3 x19 w fun x20=>
 rB .sub 3 T0 U0 x20 (iV 1) w fun x21=>
 R x21 w)
def cfg124:Cfg:=⟨extL,[],[],[],[],[],[]⟩
theorem F124_call {a0 a1:Value} {w:World} {R:VW} (h:F124 a0 a1 w R):cL 124 [a0,a1] w R:=co (g:=cfg124) Tryz.func124 (by kernel_rfl) (by kernel_rfl) (by kernel_rfl) h
theorem zgw {w:World} {v0:Value} {W0:World} {c:DCode} {p:Int}  (h0:Is W0 v0 c) (e0:Ext W0 w) (hp0:-1≤p) (hp1:p<1000000000000) (hE:∀ i,i<c.entry.length→0≤en c i) :
   CALL Tryz.prog 124 [v0,.int .i64 p] w fun r w'=>Ext w w'∧(r=.int .i64 (zdD c p)):=by
 refine F124_call ?_
 unfold F124
 refine zax zdh rfl h0 e0 fun w1_ hx1_ hA2 hV2=>?_
 refine zcA (by unfold I64;omega) ?_
 refine zaa zaO ?_
 refine zab zbv (zal hA2) (Ext.refl w1_) fun v8 h8=>?_
 have hln9:=zai h8
 refine zae u23 h8 ?_
 refine zah ?_
 refine br (fun c1=>?_) (fun c1=>?_)
 · refine zaa zaO ?_
   refine zab zbv (zal hA2) (Ext.refl w1_) fun v12 h12=>?_
   refine zcA (by unfold I64;omega) ?_
   refine zcD u23 ty3 h12 (by omega) (by omega) fun b15 o15 h15=>?_
   refine zad ty3 h15 (Ext.refl w1_) fun hI16=>?_
   have hE1:=hE (p+1).toNat (by omega)
   rw [←zbf (by omega)] at hE1
   refine za9 (by unfold I64 at *;omega) ?_
   refine ⟨hx1_,?_⟩
   unfold zdD
   rw [if_pos c1,zbf]
 refine zaa zaK ?_
 refine zab zdn (zak hA2) (Ext.refl w1_) fun v19 h19=>?_
 have hln20:=zai h19
 refine zae u30 h19 ?_
 refine za9 (by unfold I64;have:=zai h19;omega) ?_
 refine ⟨hx1_,?_⟩
 unfold zdD
 rw [if_neg c1]
def zg0:ByteArray:=ByteArray.mk #[109,97,105,110]
def NamesR (c:DCode):Prop:=(decide ((c.globals.length:Int)≤6)&&c.globals.all zbb)=true∧(decide ((c.locks.length:Int)≤6)&&c.locks.all zbb)=true∧(decide ((c.procs.length:Int)≤8)&&c.procs.all zbb)=true ∧
 c.globals.Nodup∧c.locks.Nodup∧c.procs.Nodup∧zg0∈c.procs
instance (c:DCode):Decidable (NamesR c):=by unfold NamesR;infer_instance
def EntS (c:DCode):Prop:=c.entry.length=c.procs.length∧c.ins.length≤1500∧(∀ i,i<c.entry.length→(i=0→en c 0=0)∧(0<i→en c (i-1)<en c i)∧en c i<c.ins.length) ∧
 ∀ j,j<c.ins.length→((zaj c j).op=9↔zdD c (zaC c j)=j)
instance (c:DCode):Decidable (EntS c):=by unfold EntS;infer_instance
theorem ze5 {P:Nat→Prop} {k:Nat} (h:∀ i,i<k→P i) (hk:P k):∀ i,i<k+1→P i:=fun i hi=>by
 by_cases e:i=k
 · rw [e];exact hk
 exact h i (by omega)
theorem zfo {c:DCode} {n:Nat} {m:Int} (h:∀ i,i<n→(i=0→en c 0=0)∧(0<i→en c (i-1)<en c i)∧en c i<m):∀ i,i<n→0≤en c i
 | 0,hi=>by rw [(h 0 hi).1 rfl];omega
 | i+1,hi=>by
   have h1:=zfo h i (by omega)
   have h2:=(h (i+1) hi).2.1 (by omega)
   simp only [Nat.add_sub_cancel] at h2
   omega
def F70 (a0:Value) (w:World) (R:VW):Prop:=
 oP (Instr.box 32 a0) w fun x1 w=>
 rF 32 x1 0 w fun x5=>
 rL 22 x5 w fun x6=>
 cL 121 [x6,(iV 6)] w fun x7 w=>
 rD (Op.unary .not x7) w fun x8=>
 BR x8
 (R (Value.bool false) w)
 (rF 32 x1 1 w fun x10=>
 rL 22 x10 w fun x11=>
 cL 121 [x11,(iV 6)] w fun x12 w=>
 rD (Op.unary .not x12) w fun x13=>
 BR x13
 (R (Value.bool false) w)
 (rF 32 x1 2 w fun x16=>
 rL 22 x16 w fun x17=>
 cL 121 [x17,(iV 8)] w fun x18 w=>
 rD (Op.unary .not x18) w fun x19=>
 BR x19
 (R (Value.bool false) w)
 (rF 32 x1 0 w fun x22=>
 rL 22 x22 w fun x23=>
 cL 122 [x23] w fun x24 w=>
 BR x24
 (R (Value.bool false) w)
 (rF 32 x1 1 w fun x27=>
 rL 22 x27 w fun x28=>
 cL 122 [x28] w fun x29 w=>
 BR x29
 (R (Value.bool false) w)
 (rF 32 x1 2 w fun x32=>
 rL 22 x32 w fun x33=>
 cL 122 [x33] w fun x34 w=>
 BR x34
 (R (Value.bool false) w)
 (rF 32 x1 3 w fun x37=>
 rL 23 x37 w fun x38=>
 rN 23 3 x38 w fun x39=>
 rF 32 x1 2 w fun x40=>
 rL 22 x40 w fun x41=>
 rN 22 3 x41 w fun x42=>
 rB .neq 3 T0 T0 x39 x42 w fun x43=>
 BR x43
 (R (Value.bool false) w)
 (rF 32 x1 4 w fun x46=>
 rL 30 x46 w fun x47=>
 rN 30 3 x47 w fun x48=>
 rB .gtr 3 T0 U0 x48 (iV 1500) w fun x49=>
 BR x49
 (R (Value.bool false) w)
 (rF 32 x1 2 w fun x52=>
 rL 22 x52 w fun x53=>
 cL 123 [x53,(Value.string (ByteArray.mk #[109,97,105,110]))] w fun x54 w=>
 rB .lss 3 T0 U0 x54 (iV 0) w fun x55=>
 BR x55
 (R (Value.bool false) w)
 (LOOPI [3] [(iV 0)] w fun u4 w next4=>
 rF 32 x1 3 w fun x58=>
 rL 23 x58 w fun x59=>
 rN 23 3 x59 w fun x60=>
 rC (u4 3) x60 w fun x61=>
 BR x61
 ((fun w=>rB .eql 3 T0 U0 (u4 3) (iV 0) w fun x65=>
 BR x65
 (rF 32 x1 3 w fun x67=>
 rL 23 x67 w fun x68=>
 rX 23 x68 (iV 0) w fun x69=>
 rL 3 x69 w fun x70=>
 rB .neq 3 T0 U0 x70 (iV 0) w fun x71=>
 BR x71
 (R (Value.bool false) w)
 (rB .gtr 3 T0 U0 (u4 3) (iV 0) w fun x75=>
 GBR x75
 (rF 32 x1 3 w fun x77=>
 rL 23 x77 w fun x78=>
 rX 23 x78 (u4 3) w fun x80=>
 rL 3 x80 w fun x81=>
 rF 32 x1 3 w fun x82=>
 rL 23 x82 w fun x83=>
 rB .sub 3 T0 U0 (u4 3) (iV 1) w fun x85=>
 rX 23 x83 x85 w fun x86=>
 rL 3 x86 w fun x87=>
 rB .leq 3 T0 T0 x81 x87 w fun x88=>
 BR x88
 (R (Value.bool false) w)
 (rF 32 x1 3 w fun x92=>
 rL 23 x92 w fun x93=>
 rX 23 x93 (u4 3) w fun x95=>
 rL 3 x95 w fun x96=>
 rF 32 x1 4 w fun x97=>
 rL 30 x97 w fun x98=>
 rN 30 3 x98 w fun x99=>
 rB .geq 3 T0 T0 x96 x99 w fun x100=>
 BR x100
 (R (Value.bool false) w)
 (rA (u4 3) (iV 1) w fun x63=>
 next4 [x63] w)))
 (rF 32 x1 3 w fun x92=>
 rL 23 x92 w fun x93=>
 rX 23 x93 (u4 3) w fun x95=>
 rL 3 x95 w fun x96=>
 rF 32 x1 4 w fun x97=>
 rL 30 x97 w fun x98=>
 rN 30 3 x98 w fun x99=>
 rB .geq 3 T0 T0 x96 x99 w fun x100=>
 BR x100
 (R (Value.bool false) w)
 (rA (u4 3) (iV 1) w fun x63=>
 next4 [x63] w))
 (BR undef
 (BR undef
 (R (Value.bool false) w)
 (rF 32 x1 3 w fun x92=>
 rL 23 x92 w fun x93=>
 rX 23 x93 (u4 3) w fun x95=>
 rL 3 x95 w fun x96=>
 rF 32 x1 4 w fun x97=>
 rL 30 x97 w fun x98=>
 rN 30 3 x98 w fun x99=>
 rB .geq 3 T0 T0 x96 x99 w fun x100=>
 BR x100
 (R (Value.bool false) w)
 (rA (u4 3) (iV 1) w fun x63=>
 next4 [x63] w)))
 (rF 32 x1 3 w fun x92=>
 rL 23 x92 w fun x93=>
 rX 23 x93 (u4 3) w fun x95=>
 rL 3 x95 w fun x96=>
 rF 32 x1 4 w fun x97=>
 rL 30 x97 w fun x98=>
 rN 30 3 x98 w fun x99=>
 rB .geq 3 T0 T0 x96 x99 w fun x100=>
 BR x100
 (R (Value.bool false) w)
 (rA (u4 3) (iV 1) w fun x63=>
 next4 [x63] w)))))
 (rB .gtr 3 T0 U0 (u4 3) (iV 0) w fun x75=>
 GBR x75
 (rF 32 x1 3 w fun x77=>
 rL 23 x77 w fun x78=>
 rX 23 x78 (u4 3) w fun x80=>
 rL 3 x80 w fun x81=>
 rF 32 x1 3 w fun x82=>
 rL 23 x82 w fun x83=>
 rB .sub 3 T0 U0 (u4 3) (iV 1) w fun x85=>
 rX 23 x83 x85 w fun x86=>
 rL 3 x86 w fun x87=>
 rB .leq 3 T0 T0 x81 x87 w fun x88=>
 BR x88
 (R (Value.bool false) w)
 (rF 32 x1 3 w fun x92=>
 rL 23 x92 w fun x93=>
 rX 23 x93 (u4 3) w fun x95=>
 rL 3 x95 w fun x96=>
 rF 32 x1 4 w fun x97=>
 rL 30 x97 w fun x98=>
 rN 30 3 x98 w fun x99=>
 rB .geq 3 T0 T0 x96 x99 w fun x100=>
 BR x100
 (R (Value.bool false) w)
 (rA (u4 3) (iV 1) w fun x63=>
 next4 [x63] w)))
 (rF 32 x1 3 w fun x92=>
 rL 23 x92 w fun x93=>
 rX 23 x93 (u4 3) w fun x95=>
 rL 3 x95 w fun x96=>
 rF 32 x1 4 w fun x97=>
 rL 30 x97 w fun x98=>
 rN 30 3 x98 w fun x99=>
 rB .geq 3 T0 T0 x96 x99 w fun x100=>
 BR x100
 (R (Value.bool false) w)
 (rA (u4 3) (iV 1) w fun x63=>
 next4 [x63] w))
 (BR undef
 (BR undef
 (R (Value.bool false) w)
 (rF 32 x1 3 w fun x92=>
 rL 23 x92 w fun x93=>
 rX 23 x93 (u4 3) w fun x95=>
 rL 3 x95 w fun x96=>
 rF 32 x1 4 w fun x97=>
 rL 30 x97 w fun x98=>
 rN 30 3 x98 w fun x99=>
 rB .geq 3 T0 T0 x96 x99 w fun x100=>
 BR x100
 (R (Value.bool false) w)
 (rA (u4 3) (iV 1) w fun x63=>
 next4 [x63] w)))
 (rF 32 x1 3 w fun x92=>
 rL 23 x92 w fun x93=>
 rX 23 x93 (u4 3) w fun x95=>
 rL 3 x95 w fun x96=>
 rF 32 x1 4 w fun x97=>
 rL 30 x97 w fun x98=>
 rN 30 3 x98 w fun x99=>
 rB .geq 3 T0 T0 x96 x99 w fun x100=>
 BR x100
 (R (Value.bool false) w)
 (rA (u4 3) (iV 1) w fun x63=>
 next4 [x63] w))))) (World.drew1 w))
 (LOOPI [4] [(iV 0)] w fun u9 w next9=>
 rF 32 x1 4 w fun x103=>
 rL 30 x103 w fun x104=>
 rN 30 3 x104 w fun x105=>
 rC (u9 4) x105 w fun x106=>
 BR x106
 ((fun w=>rF 32 x1 4 w fun x109=>
 rL 30 x109 w fun x110=>
 rX 30 x110 (u9 4) w fun x112=>
 rF 111 x112 0 w fun x113=>
 rL 3 x113 w fun x114=>
 rB .eql 3 T0 U0 x114 (iV 9) w fun x115=>
 rL 32 x1 w fun x116=>
 rL 32 x1 w fun x117=>
 (fun w_=>cL 97 [x117,(u9 4)] w_ fun x119 w=>
 Ext w_ w ∧
 (fun w_=>cL 124 [x116,x119] w_ fun x120 w=>
 Ext w_ w ∧
 rB .eql 3 T0 T0 x120 (u9 4) w fun x122=>
 rB .neq 4 T0 T0 x115 x122 w fun x123=>
 BR x123
 (R (Value.bool false) w)
 (rA (u9 4) (iV 1) w fun x108=>
 next9 [x108] w)) w) w) (World.drew1 w))
 (R (Value.bool true) w)))))))))))
def cfg70:Cfg:=⟨extL,[],[(4,5070602400912773490798736965644,[3]),(9,21267642861956253053543306977672691732,[4])],[(6,[0,1,2,3,4,5,6,7,8,9,10,11,12,13,14,15,16,17,18,19,20,21,22,23,24,25,26,27,28,29,30,31,32,33,34,35,36,37],0),(11,[0,1,2,3,4,5,6,7,8,9,12,10,11,13,14],3072)],[],[],[]⟩
theorem F70_call {a0:Value} {w:World} {R:VW} (h:F70 a0 w R):cL 70 [a0] w R:=co (g:=cfg70) Tryz.func70 (by kernel_rfl) (by kernel_rfl) (by kernel_rfl) h
theorem zj3 {w:World} {v0:Value} {W0:World} {c:DCode}  (h0:Is W0 v0 c) (e0:Ext W0 w)  :
   CALL Tryz.prog 70 [v0] w fun r w'=>Ext w w'∧(r=.bool (decide (NamesR c∧EntS c))):=by
 refine F70_call ?_
 unfold F70
 refine zax zdh rfl h0 e0 fun w1_ hx1_ hA1 hV1=>?_
 refine zaa zc4 ?_
 refine zab zb1 (za2 hA1) (Ext.refl w1_) fun v6 h6=>?_
 refine (zeB h6 (Ext.refl w1_)).mono ?_
 rintro _ w2_ ⟨hx2_,rfl⟩
 refine zaW ?_
 refine zb8 (fun c1=>?_) (fun c1=>?_)
 · refine ⟨(hx1_.trans hx2_),?_⟩
   have:¬(NamesR c∧EntS c):=fun h=>by rw [h.1.1] at c1;cases c1
   simp only [this,decide_false]
 refine zaa zb2 ?_
 refine zab zb1 (zaB hA1) hx2_ fun v11 h11=>?_
 refine (zeB h11 hx2_).mono ?_
 rintro _ w3_ ⟨hx3_,rfl⟩
 refine zaW ?_
 refine zb8 (fun c2=>?_) (fun c2=>?_)
 · refine ⟨(hx1_.trans (hx2_.trans hx3_)),?_⟩
   have:¬(NamesR c∧EntS c):=fun h=>by rw [h.1.2.1] at c2;cases c2
   simp only [this,decide_false]
 refine zaa zbS ?_
 refine zab zb1 (zaw hA1) (hx2_.trans hx3_) fun v17 h17=>?_
 refine (zeB h17 (hx2_.trans hx3_)).mono ?_
 rintro _ w4_ ⟨hx4_,rfl⟩
 refine zaW ?_
 refine zb8 (fun c3=>?_) (fun c3=>?_)
 · refine ⟨(hx1_.trans (hx2_.trans (hx3_.trans hx4_))),?_⟩
   have:¬(NamesR c∧EntS c):=fun h=>by rw [h.1.2.2.1] at c3;cases c3
   simp only [this,decide_false]
 refine zaa zc4 ?_
 refine zab zb1 (za2 hA1) (hx2_.trans (hx3_.trans hx4_)) fun v23 h23=>?_
 refine (zeD h23 (hx2_.trans (hx3_.trans hx4_))).mono ?_
 rintro _ w5_ ⟨hx5_,rfl⟩
 refine br (fun c4=>?_) (fun c4=>?_)
 · refine ⟨(hx1_.trans (hx2_.trans (hx3_.trans (hx4_.trans hx5_)))),?_⟩
   have:¬(NamesR c∧EntS c):=fun h=>c4 h.1.2.2.2.1
   simp only [this,decide_false]
 refine zaa zb2 ?_
 refine zab zb1 (zaB hA1) (hx2_.trans (hx3_.trans (hx4_.trans hx5_))) fun v28 h28=>?_
 refine (zeD h28 (hx2_.trans (hx3_.trans (hx4_.trans hx5_)))).mono ?_
 rintro _ w6_ ⟨hx6_,rfl⟩
 refine br (fun c5=>?_) (fun c5=>?_)
 · refine ⟨(hx1_.trans (hx2_.trans (hx3_.trans (hx4_.trans (hx5_.trans hx6_))))),?_⟩
   have:¬(NamesR c∧EntS c):=fun h=>c5 h.1.2.2.2.2.1
   simp only [this,decide_false]
 refine zaa zbS ?_
 refine zab zb1 (zaw hA1) (hx2_.trans (hx3_.trans (hx4_.trans (hx5_.trans hx6_)))) fun v33 h33=>?_
 refine (zeD h33 (hx2_.trans (hx3_.trans (hx4_.trans (hx5_.trans hx6_))))).mono ?_
 rintro _ w7_ ⟨hx7_,rfl⟩
 refine br (fun c6=>?_) (fun c6=>?_)
 · refine ⟨(hx1_.trans (hx2_.trans (hx3_.trans (hx4_.trans (hx5_.trans (hx6_.trans hx7_)))))),?_⟩
   have:¬(NamesR c∧EntS c):=fun h=>c6 h.1.2.2.2.2.2.1
   simp only [this,decide_false]
 refine zaa zaO ?_
 refine zab zbv (zal hA1) (hx2_.trans (hx3_.trans (hx4_.trans (hx5_.trans (hx6_.trans hx7_))))) fun v38 h38=>?_
 have hln39:=zai h38
 refine zae u23 h38 ?_
 refine zaa zbS ?_
 refine zab zb1 (zaw hA1) (hx2_.trans (hx3_.trans (hx4_.trans (hx5_.trans (hx6_.trans hx7_))))) fun v41 h41=>?_
 have hln42:=zai h41
 refine zae u22 h41 ?_
 refine zaI ?_
 refine br (fun c7=>?_) (fun c7=>?_)
 · refine ⟨(hx1_.trans (hx2_.trans (hx3_.trans (hx4_.trans (hx5_.trans (hx6_.trans hx7_)))))),?_⟩
   have:¬(NamesR c∧EntS c):=fun h=>c7 (by rw [h.2.1])
   simp only [this,decide_false]
 refine zaa zaK ?_
 refine zab zdn (zak hA1) (hx2_.trans (hx3_.trans (hx4_.trans (hx5_.trans (hx6_.trans hx7_))))) fun v47 h47=>?_
 have hln48:=zai h47
 refine zae u30 h47 ?_
 refine zb9 ?_
 refine br (fun c8=>?_) (fun c8=>?_)
 · refine ⟨(hx1_.trans (hx2_.trans (hx3_.trans (hx4_.trans (hx5_.trans (hx6_.trans hx7_)))))),?_⟩
   have:¬(NamesR c∧EntS c):=fun h=>by have:=h.2.2.1;omega
   simp only [this,decide_false]
 refine zaa zbS ?_
 refine zab zb1 (zaw hA1) (hx2_.trans (hx3_.trans (hx4_.trans (hx5_.trans (hx6_.trans hx7_))))) fun v53 h53=>?_
 refine (zcq h53 (hx2_.trans (hx3_.trans (hx4_.trans (hx5_.trans (hx6_.trans hx7_)))))).mono ?_
 rintro _ w8_ ⟨hx8_,rfl⟩
 refine zah ?_
 refine br (fun c9=>?_) (fun c9=>?_)
 · refine ⟨(hx1_.trans (hx2_.trans (hx3_.trans (hx4_.trans (hx5_.trans (hx6_.trans (hx7_.trans hx8_))))))),?_⟩
   have:¬(NamesR c∧EntS c):=fun h=>by have:=zdW.2 h.1.2.2.2.2.2.2;unfold zg0 at this;omega
   simp only [this,decide_false]
 refine zaq (c.entry.length) (fun k us w'=>us=[.int .i64 (k:Int)]∧Ext w8_ w'∧(∀ i,i<k→(i=0→en c 0=0)∧(0<i→en c (i-1)<en c i)∧en c i<c.ins.length)) (0) (by omega) ⟨by simp,Ext.refl w8_,fun i h=>by omega⟩ ?_
 rintro k m4 uu4 w9_ hk4 ⟨hu,hx9_,hent⟩
 simp only [List.map_cons,List.map_nil,List.cons.injEq,and_true] at hu
 try rw [hu]
 try clear hu
 refine zaa zaO ?_
 refine zab zbv (zal hA1) (hx2_.trans (hx3_.trans (hx4_.trans (hx5_.trans (hx6_.trans (hx7_.trans (hx8_.trans hx9_))))))) fun v59 h59=>?_
 have hln60:=zai h59
 refine zae u23 h59 ?_
 refine zah ?_
 refine br (fun c10=>?_) (fun c10=>?_)
 · have hx10_:=zan w9_
   refine zao ?_
   refine br (fun c11=>?_) (fun c11=>?_)
   · refine zaa zaO ?_
     refine zab zbv (zal hA1) (hx2_.trans (hx3_.trans (hx4_.trans (hx5_.trans (hx6_.trans (hx7_.trans (hx8_.trans (hx9_.trans hx10_)))))))) fun v68 h68=>?_
     refine zcD u23 ty3 h68 (by omega) (by omega) fun b69 o69 h69=>?_
     refine zad ty3 h69 (hx2_.trans (hx3_.trans (hx4_.trans (hx5_.trans (hx6_.trans (hx7_.trans (hx8_.trans (hx9_.trans hx10_)))))))) fun hI70=>?_
     refine zaI ?_
     refine br (fun c12=>?_) (fun c12=>?_)
     · refine ⟨(hx1_.trans (hx2_.trans (hx3_.trans (hx4_.trans (hx5_.trans (hx6_.trans (hx7_.trans (hx8_.trans (hx9_.trans hx10_))))))))),?_⟩
       rw [zbf] at c12
       have:¬(NamesR c∧EntS c):=fun h=>c12 ((h.2.2.2.1 0 (by omega)).1 rfl)
       simp only [this,decide_false]
     refine zb9 ?_
     refine gbr (fun c13=>?_) (fun c13=>?_)
     · refine zaa zaO ?_
       refine zab zbv (zal hA1) (hx2_.trans (hx3_.trans (hx4_.trans (hx5_.trans (hx6_.trans (hx7_.trans (hx8_.trans (hx9_.trans hx10_)))))))) fun v78 h78=>?_
       refine zac u23 ty3 h78 (by omega) fun b80 o80 h80=>?_
       refine zad ty3 h80 (hx2_.trans (hx3_.trans (hx4_.trans (hx5_.trans (hx6_.trans (hx7_.trans (hx8_.trans (hx9_.trans hx10_)))))))) fun hI81=>?_
       refine zaa zaO ?_
       refine zab zbv (zal hA1) (hx2_.trans (hx3_.trans (hx4_.trans (hx5_.trans (hx6_.trans (hx7_.trans (hx8_.trans (hx9_.trans hx10_)))))))) fun v83 h83=>?_
       refine za9 (by unfold I64;omega) ?_
       refine zcD u23 ty3 h83 (by omega) (by omega) fun b86 o86 h86=>?_
       refine zad ty3 h86 (hx2_.trans (hx3_.trans (hx4_.trans (hx5_.trans (hx6_.trans (hx7_.trans (hx8_.trans (hx9_.trans hx10_)))))))) fun hI87=>?_
       have hn86:((k:Int)-1).toNat=k-1:=by omega
       refine zdM ?_
       refine br (fun c14=>?_) (fun c14=>?_)
       · refine ⟨(hx1_.trans (hx2_.trans (hx3_.trans (hx4_.trans (hx5_.trans (hx6_.trans (hx7_.trans (hx8_.trans (hx9_.trans hx10_))))))))),?_⟩
         exact absurd c11 (by omega)
       refine zaa zaO ?_
       refine zab zbv (zal hA1) (hx2_.trans (hx3_.trans (hx4_.trans (hx5_.trans (hx6_.trans (hx7_.trans (hx8_.trans (hx9_.trans hx10_)))))))) fun v93 h93=>?_
       refine zac u23 ty3 h93 (by omega) fun b95 o95 h95=>?_
       refine zad ty3 h95 (hx2_.trans (hx3_.trans (hx4_.trans (hx5_.trans (hx6_.trans (hx7_.trans (hx8_.trans (hx9_.trans hx10_)))))))) fun hI96=>?_
       refine zaa zaK ?_
       refine zab zdn (zak hA1) (hx2_.trans (hx3_.trans (hx4_.trans (hx5_.trans (hx6_.trans (hx7_.trans (hx8_.trans (hx9_.trans hx10_)))))))) fun v98 h98=>?_
       have hln99:=zai h98
       refine zae u30 h98 ?_
       refine zbY ?_
       refine br (fun c15=>?_) (fun c15=>?_)
       · refine ⟨(hx1_.trans (hx2_.trans (hx3_.trans (hx4_.trans (hx5_.trans (hx6_.trans (hx7_.trans (hx8_.trans (hx9_.trans hx10_))))))))),?_⟩
         exact absurd c11 (by omega)
       refine zaf (by omega) ?_
       refine ⟨m4-1,by omega,k+1,by omega,by simp,(hx9_.trans hx10_),?_⟩
       exact absurd c11 (by omega)
     refine zaa zaO ?_
     refine zab zbv (zal hA1) (hx2_.trans (hx3_.trans (hx4_.trans (hx5_.trans (hx6_.trans (hx7_.trans (hx8_.trans (hx9_.trans hx10_)))))))) fun v93 h93=>?_
     refine zac u23 ty3 h93 (by omega) fun b95 o95 h95=>?_
     refine zad ty3 h95 (hx2_.trans (hx3_.trans (hx4_.trans (hx5_.trans (hx6_.trans (hx7_.trans (hx8_.trans (hx9_.trans hx10_)))))))) fun hI96=>?_
     refine zaa zaK ?_
     refine zab zdn (zak hA1) (hx2_.trans (hx3_.trans (hx4_.trans (hx5_.trans (hx6_.trans (hx7_.trans (hx8_.trans (hx9_.trans hx10_)))))))) fun v98 h98=>?_
     have hln99:=zai h98
     refine zae u30 h98 ?_
     refine zbY ?_
     refine br (fun c16=>?_) (fun c16=>?_)
     · refine ⟨(hx1_.trans (hx2_.trans (hx3_.trans (hx4_.trans (hx5_.trans (hx6_.trans (hx7_.trans (hx8_.trans (hx9_.trans hx10_))))))))),?_⟩
       rw [zbf] at c16
       have:¬(NamesR c∧EntS c):=fun h=>by have:=(h.2.2.2.1 k (by omega)).2.2;omega
       simp only [this,decide_false]
     refine zaf (by omega) ?_
     refine ⟨m4-1,by omega,k+1,by omega,by simp,(hx9_.trans hx10_),?_⟩
     rw [zbf] at c16 c12
     have hk0:k=0:=by omega
     subst hk0
     exact ze5 hent ⟨fun _=>Decidable.not_not.1 c12,fun h=>by omega,by omega⟩
   refine zb9 ?_
   refine gbr (fun c17=>?_) (fun c17=>?_)
   · refine zaa zaO ?_
     refine zab zbv (zal hA1) (hx2_.trans (hx3_.trans (hx4_.trans (hx5_.trans (hx6_.trans (hx7_.trans (hx8_.trans (hx9_.trans hx10_)))))))) fun v78 h78=>?_
     refine zac u23 ty3 h78 (by omega) fun b80 o80 h80=>?_
     refine zad ty3 h80 (hx2_.trans (hx3_.trans (hx4_.trans (hx5_.trans (hx6_.trans (hx7_.trans (hx8_.trans (hx9_.trans hx10_)))))))) fun hI81=>?_
     refine zaa zaO ?_
     refine zab zbv (zal hA1) (hx2_.trans (hx3_.trans (hx4_.trans (hx5_.trans (hx6_.trans (hx7_.trans (hx8_.trans (hx9_.trans hx10_)))))))) fun v83 h83=>?_
     refine za9 (by unfold I64;omega) ?_
     refine zcD u23 ty3 h83 (by omega) (by omega) fun b86 o86 h86=>?_
     refine zad ty3 h86 (hx2_.trans (hx3_.trans (hx4_.trans (hx5_.trans (hx6_.trans (hx7_.trans (hx8_.trans (hx9_.trans hx10_)))))))) fun hI87=>?_
     have hn86:((k:Int)-1).toNat=k-1:=by omega
     refine zdM ?_
     refine br (fun c18=>?_) (fun c18=>?_)
     · refine ⟨(hx1_.trans (hx2_.trans (hx3_.trans (hx4_.trans (hx5_.trans (hx6_.trans (hx7_.trans (hx8_.trans (hx9_.trans hx10_))))))))),?_⟩
       rw [zbf,zbf] at c18
       simp only [hn86] at c18
       have:¬(NamesR c∧EntS c):=fun h=>by have:=(h.2.2.2.1 k (by omega)).2.1 (by omega);omega
       simp only [this,decide_false]
     refine zaa zaO ?_
     refine zab zbv (zal hA1) (hx2_.trans (hx3_.trans (hx4_.trans (hx5_.trans (hx6_.trans (hx7_.trans (hx8_.trans (hx9_.trans hx10_)))))))) fun v93 h93=>?_
     refine zac u23 ty3 h93 (by omega) fun b95 o95 h95=>?_
     refine zad ty3 h95 (hx2_.trans (hx3_.trans (hx4_.trans (hx5_.trans (hx6_.trans (hx7_.trans (hx8_.trans (hx9_.trans hx10_)))))))) fun hI96=>?_
     refine zaa zaK ?_
     refine zab zdn (zak hA1) (hx2_.trans (hx3_.trans (hx4_.trans (hx5_.trans (hx6_.trans (hx7_.trans (hx8_.trans (hx9_.trans hx10_)))))))) fun v98 h98=>?_
     have hln99:=zai h98
     refine zae u30 h98 ?_
     refine zbY ?_
     refine br (fun c19=>?_) (fun c19=>?_)
     · refine ⟨(hx1_.trans (hx2_.trans (hx3_.trans (hx4_.trans (hx5_.trans (hx6_.trans (hx7_.trans (hx8_.trans (hx9_.trans hx10_))))))))),?_⟩
       rw [zbf] at c19
       have:¬(NamesR c∧EntS c):=fun h=>by have:=(h.2.2.2.1 k (by omega)).2.2;omega
       simp only [this,decide_false]
     refine zaf (by omega) ?_
     refine ⟨m4-1,by omega,k+1,by omega,by simp,(hx9_.trans hx10_),?_⟩
     rw [zbf] at c19
     rw [zbf,zbf] at c18
     simp only [hn86] at c18
     exact ze5 hent ⟨fun h=>by omega,fun _=>by omega,by omega⟩
   refine zaa zaO ?_
   refine zab zbv (zal hA1) (hx2_.trans (hx3_.trans (hx4_.trans (hx5_.trans (hx6_.trans (hx7_.trans (hx8_.trans (hx9_.trans hx10_)))))))) fun v93 h93=>?_
   refine zac u23 ty3 h93 (by omega) fun b95 o95 h95=>?_
   refine zad ty3 h95 (hx2_.trans (hx3_.trans (hx4_.trans (hx5_.trans (hx6_.trans (hx7_.trans (hx8_.trans (hx9_.trans hx10_)))))))) fun hI96=>?_
   refine zaa zaK ?_
   refine zab zdn (zak hA1) (hx2_.trans (hx3_.trans (hx4_.trans (hx5_.trans (hx6_.trans (hx7_.trans (hx8_.trans (hx9_.trans hx10_)))))))) fun v98 h98=>?_
   have hln99:=zai h98
   refine zae u30 h98 ?_
   refine zbY ?_
   refine br (fun c20=>?_) (fun c20=>?_)
   · refine ⟨(hx1_.trans (hx2_.trans (hx3_.trans (hx4_.trans (hx5_.trans (hx6_.trans (hx7_.trans (hx8_.trans (hx9_.trans hx10_))))))))),?_⟩
     exact absurd c11 (by omega)
   refine zaf (by omega) ?_
   refine ⟨m4-1,by omega,k+1,by omega,by simp,(hx9_.trans hx10_),?_⟩
   exact absurd c11 (by omega)
 refine zaq (c.ins.length) (fun k us w'=>us=[.int .i64 (k:Int)]∧Ext w9_ w'∧(∀ j,j<k→((zaj c j).op=9↔zdD c (zaC c j)=j))) (0) (by omega) ⟨by simp,Ext.refl w9_,fun i h=>by omega⟩ ?_
 rintro k m9 uu9 w11_ hk9 ⟨hu,hx11_,hinv⟩
 simp only [List.map_cons,List.map_nil,List.cons.injEq,and_true] at hu
 try rw [hu]
 try clear hu
 refine zaa zaK ?_
 refine zab zdn (zak hA1) (hx2_.trans (hx3_.trans (hx4_.trans (hx5_.trans (hx6_.trans (hx7_.trans (hx8_.trans (hx9_.trans hx11_)))))))) fun v104 h104=>?_
 have hln105:=zai h104
 refine zae u30 h104 ?_
 refine zah ?_
 refine br (fun c21=>?_) (fun c21=>?_)
 · have hx12_:=zan w11_
   refine zaa zaK ?_
   refine zab zdn (zak hA1) (hx2_.trans (hx3_.trans (hx4_.trans (hx5_.trans (hx6_.trans (hx7_.trans (hx8_.trans (hx9_.trans (hx11_.trans hx12_))))))))) fun v110 h110=>?_
   refine zac u30 zaR h110 (by omega) fun b112 o112 h112=>?_
   refine zaa zaL ?_
   refine zad ty3 (zat h112) (hx2_.trans (hx3_.trans (hx4_.trans (hx5_.trans (hx6_.trans (hx7_.trans (hx8_.trans (hx9_.trans (hx11_.trans hx12_))))))))) fun hI114=>?_
   refine zao ?_
   refine zbd hV1 (hx2_.trans (hx3_.trans (hx4_.trans (hx5_.trans (hx6_.trans (hx7_.trans (hx8_.trans (hx9_.trans (hx11_.trans hx12_))))))))) ?_
   refine zbd hV1 (hx2_.trans (hx3_.trans (hx4_.trans (hx5_.trans (hx6_.trans (hx7_.trans (hx8_.trans (hx9_.trans (hx11_.trans hx12_))))))))) ?_
   have h8:c.entry.length≤8:=by
     simp only [Bool.not_eq_false',Bool.and_eq_true,decide_eq_true_eq] at c3
     have:=c3.1
     omega
   refine (zhh h0 (e0.trans (hx1_.trans (hx2_.trans (hx3_.trans (hx4_.trans (hx5_.trans (hx6_.trans (hx7_.trans (hx8_.trans (hx9_.trans (hx11_.trans hx12_)))))))))))).mono ?_
   rintro _ w13_ ⟨hx13_,rfl⟩
   refine ⟨hx13_,?_⟩
   refine (zgw h0 (e0.trans (hx1_.trans (hx2_.trans (hx3_.trans (hx4_.trans (hx5_.trans (hx6_.trans (hx7_.trans (hx8_.trans (hx9_.trans (hx11_.trans (hx12_.trans hx13_)))))))))))) (by have:=ze4 (c:=c) (a:=k);omega) (by have:=ze4 (c:=c) (a:=k);omega) (zfo fun i hi=>hent i (by omega))).mono ?_
   rintro _ w14_ ⟨hx14_,rfl⟩
   refine ⟨hx14_,?_⟩
   refine zao ?_
   refine zhI u4 ?_
   refine br (fun c22=>?_) (fun c22=>?_)
   · refine ⟨(hx1_.trans (hx2_.trans (hx3_.trans (hx4_.trans (hx5_.trans (hx6_.trans (hx7_.trans (hx8_.trans (hx9_.trans (hx11_.trans (hx12_.trans (hx13_.trans hx14_)))))))))))),?_⟩
     rw [zaS] at c22
     have:¬(NamesR c∧EntS c):=fun h=>c22 (decide_eq_decide.2 (h.2.2.2.2 k (by omega)))
     simp only [this,decide_false]
   refine zaf (by omega) ?_
   refine ⟨m9-1,by omega,k+1,by omega,by simp,(hx11_.trans (hx12_.trans (hx13_.trans hx14_))),?_⟩
   rw [zaS] at c22
   exact ze5 hinv (decide_eq_decide.1 (Decidable.not_not.1 c22))
 refine ⟨(hx1_.trans (hx2_.trans (hx3_.trans (hx4_.trans (hx5_.trans (hx6_.trans (hx7_.trans (hx8_.trans (hx9_.trans hx11_))))))))),?_⟩
 have:NamesR c∧EntS c:=by
   refine ⟨⟨by simpa using c1,by simpa using c2,by simpa using c3,Decidable.not_not.1 c4,Decidable.not_not.1 c5,Decidable.not_not.1 c6,zdW.1 (by unfold zg0;omega)⟩,by omega,by omega,fun i hi=>hent i (by omega),fun j hj=>hinv j (by omega)⟩
 simp only [this,and_self,decide_true]
def zbG (c:DCode) (op:Int):Int:=if op=1 then c.globals.length else if op=4∨op=5 then c.procs.length else if op=6∨op=7 then c.locks.length else 1
def zeE (c:DCode) (a:DIns) (b e:Int):Prop:=(1≤a.op∧a.op≤9)∧(0≤a.arg∧a.arg<zbG c a.op) ∧
 (if a.op=1∨a.op=2 then zbe 6 a.term=true∧(∀ s∈zbQ a.term,s∈c.globals) else a.term=term0)∧(if a.op=2∨a.op=3 then b≤a.to∧a.to<e else a.to=0)
instance (c:DCode) (a:DIns) (b e:Int):Decidable (zeE c a b e):=by unfold zeE;infer_instance
def F71 (a0 a1:Value) (w:World) (R:VW):Prop:=
 oP (Instr.box 32 a0) w fun x2 w=>
 rF 32 x2 4 w fun x10=>
 rL 30 x10 w fun x11=>
 rX 30 x11 a1 w fun x13=>
 rL 111 x13 w fun x14=>
 oP (Instr.alloc 111 true (.tuple #[])) w fun x5 w=>
 oS 111 x5 x14 w fun w=>
 JOIN [6] (fun J12=>
 rF 111 x5 0 w fun x15=>
 rL 3 x15 w fun x16=>
 rB .eql 3 T0 U0 x16 (iV 1) w fun x18=>
 BR x18
 (rF 32 x2 0 w fun x19=>
 rL 22 x19 w fun x20=>
 rN 22 3 x20 w fun x21=>
 rB .sub 3 T0 U0 x21 (iV 1) w fun x22=>
 J12 [x22] w)
 (rB .eql 3 T0 U0 x16 (iV 6) w fun x24=>
 BR x24
 (rF 32 x2 1 w fun x26=>
 rL 22 x26 w fun x27=>
 rN 22 3 x27 w fun x28=>
 rB .sub 3 T0 U0 x28 (iV 1) w fun x29=>
 J12 [x29] w)
 (rB .eql 3 T0 U0 x16 (iV 7) w fun x25=>
 BR x25
 (rF 32 x2 1 w fun x26=>
 rL 22 x26 w fun x27=>
 rN 22 3 x27 w fun x28=>
 rB .sub 3 T0 U0 x28 (iV 1) w fun x29=>
 J12 [x29] w)
 (rB .eql 3 T0 U0 x16 (iV 4) w fun x31=>
 BR x31
 (rF 32 x2 2 w fun x33=>
 rL 22 x33 w fun x34=>
 rN 22 3 x34 w fun x35=>
 rB .sub 3 T0 U0 x35 (iV 1) w fun x36=>
 J12 [x36] w)
 (rB .eql 3 T0 U0 x16 (iV 5) w fun x32=>
 BR x32
 (rF 32 x2 2 w fun x33=>
 rL 22 x33 w fun x34=>
 rN 22 3 x34 w fun x35=>
 rB .sub 3 T0 U0 x35 (iV 1) w fun x36=>
 J12 [x36] w)
 (J12 [(iV 0)] w)))))) (fun u12 w=>
 rF 111 x5 0 w fun x37=>
 rL 3 x37 w fun x38=>
 cL 125 [x38,(iV 1),(iV 9)] w fun x39 w=>
 rD (Op.unary .not x39) w fun x40=>
 BR x40
 (R (Value.bool false) w)
 (rF 111 x5 1 w fun x42=>
 rL 3 x42 w fun x43=>
 cL 125 [x43,(iV 0),(u12 6)] w fun x45 w=>
 rD (Op.unary .not x45) w fun x46=>
 BR x46
 (R (Value.bool false) w)
 (JOIN [] (fun J25=>
 rF 111 x5 0 w fun x48=>
 rL 3 x48 w fun x49=>
 rB .eql 3 T0 U0 x49 (iV 1) w fun x50=>
 BR x50
 (rF 111 x5 2 w fun x56=>
 rL 109 x56 w fun x57=>
 cL 126 [x57] w fun x58 w=>
 rD (Op.unary .not x58) w fun x59=>
 BR x59
 (R (Value.bool false) w)
 (rF 111 x5 2 w fun x60=>
 rL 109 x60 w fun x61=>
 cL 127 [x61] w fun x62 w=>
 LOOPI [8] [(iV 0)] w fun u19 w next19=>
 rN 22 3 x62 w fun x65=>
 rC (u19 8) x65 w fun x66=>
 BR x66
 ((fun w=>rF 32 x2 0 w fun x69=>
 rL 22 x69 w fun x70=>
 rX 22 x62 (u19 8) w fun x73=>
 rL 9 x73 w fun x74=>
 cL 123 [x70,x74] w fun x75 w=>
 rB .lss 3 T0 U0 x75 (iV 0) w fun x76=>
 BR x76
 (R (Value.bool false) w)
 (rA (u19 8) (iV 1) w fun x68=>
 next19 [x68] w)) (World.drew1 w))
 (J25 [] w)))
 (rF 111 x5 0 w fun x52=>
 rL 3 x52 w fun x53=>
 rB .eql 3 T0 U0 x53 (iV 2) w fun x54=>
 BR x54
 (rF 111 x5 2 w fun x56=>
 rL 109 x56 w fun x57=>
 cL 126 [x57] w fun x58 w=>
 rD (Op.unary .not x58) w fun x59=>
 BR x59
 (R (Value.bool false) w)
 (rF 111 x5 2 w fun x60=>
 rL 109 x60 w fun x61=>
 cL 127 [x61] w fun x62 w=>
 LOOPI [8] [(iV 0)] w fun u19 w next19=>
 rN 22 3 x62 w fun x65=>
 rC (u19 8) x65 w fun x66=>
 BR x66
 ((fun w=>rF 32 x2 0 w fun x69=>
 rL 22 x69 w fun x70=>
 rX 22 x62 (u19 8) w fun x73=>
 rL 9 x73 w fun x74=>
 cL 123 [x70,x74] w fun x75 w=>
 rB .lss 3 T0 U0 x75 (iV 0) w fun x76=>
 BR x76
 (R (Value.bool false) w)
 (rA (u19 8) (iV 1) w fun x68=>
 next19 [x68] w)) (World.drew1 w))
 (J25 [] w)))
 (rF 111 x5 2 w fun x77=>
 rL 109 x77 w fun x78=>
 rD (Instr.build 109 #[]) w fun x79=>
 cL 128 [x78,x79] w fun x80 w=>
 rD (Op.unary .not x80) w fun x81=>
 BR x81
 (R (Value.bool false) w)
 (J25 [] w)))) (fun u25 w=>
 JOIN [] (fun J27=>
 rF 111 x5 0 w fun x82=>
 rL 3 x82 w fun x83=>
 rB .neq 3 T0 U0 x83 (iV 2) w fun x84=>
 BR x84
 (rF 111 x5 0 w fun x86=>
 rL 3 x86 w fun x87=>
 rB .neq 3 T0 U0 x87 (iV 3) w fun x88=>
 BR x88
 (rF 111 x5 3 w fun x90=>
 rL 3 x90 w fun x91=>
 rB .eql 3 T0 U0 x91 (iV 0) w fun x92=>
 R x92 w)
 (J27 [] w))
 (J27 [] w)) (fun u27 w=>
 rL 32 x2 w fun x93=>
 cL 97 [x93,a1] w fun x95 w=>
 (fun w=>rF 111 x5 3 w fun x96=>
 rL 3 x96 w fun x97=>
 rF 32 x2 3 w fun x98=>
 rL 23 x98 w fun x99=>
 rX 23 x99 x95 w fun x101=>
 rL 3 x101 w fun x102=>
 rL 32 x2 w fun x103=>
 (fun w_=>cL 124 [x103,x95] w_ fun x105 w=>
 Ext w_ w ∧
 cL 125 [x97,x102,x105] w fun x106 w=>
 R x106 w) w) (World.drew1 w))))))
def cfg71:Cfg:=⟨extL,[(12,137438920768,[6]),(25,4835703278177041722114448,[]),(27,9898684611004583682494169104,[])],[(19,151106504079791792062736,[8])],[(21,[0,1,2,3,4,5,6,7],0),(28,[0,1,2,3,4,5,6,7,8,9,10,11],512)],[],[],[]⟩
theorem F71_call {a0 a1:Value} {w:World} {R:VW} (h:F71 a0 a1 w R):cL 71 [a0,a1] w R:=co (g:=cfg71) Tryz.func71 (by kernel_rfl) (by kernel_rfl) (by kernel_rfl) h
theorem zmH {w:World} {v0:Value} {W0:World} {c:DCode} {j:Nat}  (h0:Is W0 v0 c) (e0:Ext W0 w) (hj:j<c.ins.length) (hE:∀ i,i<c.entry.length→0≤en c i) (h8:c.entry.length≤8) (hp:0≤zaC c j) :
   CALL Tryz.prog 71 [v0,.int .i64 (j:Int)] w fun r w'=>Ext w w'∧(r=.bool (decide (zeE c (zaj c j) (en c (zaC c j).toNat) (zdD c (zaC c j)+1)))):=by
 refine F71_call ?_
 unfold F71
 have hpl:=ze4 (c:=c) (a:=j)
 refine zax zdh rfl h0 e0 fun w1_ hx1_ hA2 hV2=>?_
 refine zaa zaK ?_
 refine zab zdn (zak hA2) (Ext.refl w1_) fun v11 h11=>?_
 refine zac u30 zaR h11 (by omega) fun b13 o13 h13=>?_
 refine zab zaR h13 (Ext.refl w1_) fun v14 h14=>?_
 rw [zaS] at h14
 obtain ⟨a,ha⟩:∃ a,a=zaj c j:=⟨_,rfl⟩
 rw [←ha] at h14 ⊢
 refine zct zfD rfl zaR rfl h14 (Ext.refl w1_) fun w2_ hx2_ hA5 hV5=>?_
 refine JOIN.mk (fun us w'=>us=[.int .i64 (zbG c a.op-1)]∧Ext w2_ w'∧(True)) ?_ ?_
 · refine zaa zaL ?_
   refine zad ty3 (zat hA5) (Ext.refl w2_) fun hI16=>?_
   refine zao ?_
   refine br (fun c1=>?_) (fun c1=>?_)
   · refine zaa zc4 ?_
     refine zab zb1 (za2 hA2) hx2_ fun v20 h20=>?_
     have hln21:=zai h20
     refine zae u22 h20 ?_
     refine za9 (by unfold I64;have:=zai h20;omega) ?_
     refine ⟨by unfold zbG;rw [if_pos c1],Ext.refl w2_,?_⟩
     trivial
   refine zao ?_
   refine br (fun c2=>?_) (fun c2=>?_)
   · refine zaa zb2 ?_
     refine zab zb1 (zaB hA2) hx2_ fun v27 h27=>?_
     have hln28:=zai h27
     refine zae u22 h27 ?_
     refine za9 (by unfold I64;have:=zai h27;omega) ?_
     refine ⟨by unfold zbG;rw [if_neg (by omega),if_neg (by omega),if_pos (by omega)],Ext.refl w2_,?_⟩
     trivial
   refine zao ?_
   refine br (fun c3=>?_) (fun c3=>?_)
   · refine zaa zb2 ?_
     refine zab zb1 (zaB hA2) hx2_ fun v27 h27=>?_
     have hln28:=zai h27
     refine zae u22 h27 ?_
     refine za9 (by unfold I64;have:=zai h27;omega) ?_
     refine ⟨by unfold zbG;rw [if_neg (by omega),if_neg (by omega),if_pos (by omega)],Ext.refl w2_,?_⟩
     trivial
   refine zao ?_
   refine br (fun c4=>?_) (fun c4=>?_)
   · refine zaa zbS ?_
     refine zab zb1 (zaw hA2) hx2_ fun v34 h34=>?_
     have hln35:=zai h34
     refine zae u22 h34 ?_
     refine za9 (by unfold I64;have:=zai h34;omega) ?_
     refine ⟨by unfold zbG;rw [if_neg (by omega),if_pos (by omega)],Ext.refl w2_,?_⟩
     trivial
   refine zao ?_
   refine br (fun c5=>?_) (fun c5=>?_)
   · refine zaa zbS ?_
     refine zab zb1 (zaw hA2) hx2_ fun v34 h34=>?_
     have hln35:=zai h34
     refine zae u22 h34 ?_
     refine za9 (by unfold I64;have:=zai h34;omega) ?_
     refine ⟨by unfold zbG;rw [if_neg (by omega),if_pos (by omega)],Ext.refl w2_,?_⟩
     trivial
   refine ⟨by unfold zbG;rw [if_neg (by omega),if_neg (by omega),if_neg (by omega)];rfl,Ext.refl w2_,?_⟩
   trivial
 rintro uj12 w3_ ⟨hu,hx3_,hinv⟩
 simp only [List.map_cons,List.map_nil,List.cons.injEq,and_true] at hu
 try rw [hu]
 try clear hu
 refine zaa zaL ?_
 refine zad ty3 (zat hA5) hx3_ fun hI38=>?_
 refine (l01In_ok ).mono ?_
 rintro _ w4_ ⟨hx4_,rfl⟩
 refine zar ?_
 refine br (fun c6=>?_) (fun c6=>?_)
 · refine ⟨(hx1_.trans (hx2_.trans (hx3_.trans hx4_))),?_⟩
   have:¬zeE c a (en c (zaC c j).toNat) (zdD c (zaC c j)+1):=fun h=>c6 h.1
   simp only [this,decide_false]
 refine zaa zbi ?_
 refine zad ty3 (zaJ hA5) (hx3_.trans hx4_) fun hI43=>?_
 refine (l01In_ok ).mono ?_
 rintro _ w5_ ⟨hx5_,rfl⟩
 refine zar ?_
 refine br (fun c7=>?_) (fun c7=>?_)
 · refine ⟨(hx1_.trans (hx2_.trans (hx3_.trans (hx4_.trans hx5_)))),?_⟩
   have:¬zeE c a (en c (zaC c j).toNat) (zdD c (zaC c j)+1):=fun h=>c7 (by have:=h.2.1;omega)
   simp only [this,decide_false]
 refine JOIN.mk (fun us w'=>us=[]∧Ext w5_ w'∧(if a.op=1∨a.op=2 then zbe 6 a.term=true∧(∀ s∈zbQ a.term,s∈c.globals) else a.term=term0)) ?_ ?_
 · refine zaa zaL ?_
   refine zad ty3 (zat hA5) (hx3_.trans (hx4_.trans hx5_)) fun hI49=>?_
   refine zao ?_
   refine br (fun c8=>?_) (fun c8=>?_)
   · refine zaa zbM ?_
     refine zab za3 (zbm hA5) (hx3_.trans (hx4_.trans hx5_)) fun v57 h57=>?_
     refine (zdC h57 (hx3_.trans (hx4_.trans hx5_))).mono ?_
     rintro _ w7_ ⟨hx7_,rfl⟩
     refine zaW ?_
     refine zb8 (fun c9=>?_) (fun c9=>?_)
     · refine ⟨(hx1_.trans (hx2_.trans (hx3_.trans (hx4_.trans (hx5_.trans hx7_))))),?_⟩
       have:¬zeE c a (en c (zaC c j).toNat) (zdD c (zaC c j)+1):=fun h=>by have:=h.2.2.1;rw [if_pos (.inl c8)] at this;rw [this.1] at c9;cases c9
       simp only [this,decide_false]
     refine zaa zbM ?_
     refine zab za3 (zbm hA5) (hx3_.trans (hx4_.trans (hx5_.trans hx7_))) fun v61 h61=>?_
     refine (zes h61 (hx3_.trans (hx4_.trans (hx5_.trans hx7_)))).mono ?_
     rintro r62 w8_ ⟨hx8_,h62⟩
     refine zaq ((zbQ a.term).length) (fun k us w'=>us=[.int .i64 (k:Int)]∧Ext w8_ w'∧(∀ s∈(zbQ a.term).take k,s∈c.globals)) (0) (by omega) ⟨by simp,Ext.refl w8_,by simp⟩ ?_
     rintro k m19 uu19 w9_ hk19 ⟨hu,hx9_,hinv⟩
     simp only [List.map_cons,List.map_nil,List.cons.injEq,and_true] at hu
     try rw [hu]
     try clear hu
     have hln65:=zai h62
     refine zae u22 h62 ?_
     refine zah ?_
     refine br (fun c10=>?_) (fun c10=>?_)
     · have hx10_:=zan w9_
       refine zaa zc4 ?_
       refine zab zb1 (za2 hA2) (hx2_.trans (hx3_.trans (hx4_.trans (hx5_.trans (hx7_.trans (hx8_.trans (hx9_.trans hx10_))))))) fun v70 h70=>?_
       refine zac u22 ty9 h62 (by omega) fun b73 o73 h73=>?_
       refine zav ty9 h73 (hx9_.trans hx10_) fun hS74=>?_
       refine (zcq h70 (hx2_.trans (hx3_.trans (hx4_.trans (hx5_.trans (hx7_.trans (hx8_.trans (hx9_.trans hx10_)))))))).mono ?_
       rintro _ w11_ ⟨hx11_,rfl⟩
       refine zah ?_
       refine br (fun c11=>?_) (fun c11=>?_)
       · refine ⟨(hx1_.trans (hx2_.trans (hx3_.trans (hx4_.trans (hx5_.trans (hx7_.trans (hx8_.trans (hx9_.trans (hx10_.trans hx11_))))))))),?_⟩
         have:¬zeE c a (en c (zaC c j).toNat) (zdD c (zaC c j)+1):=fun h=>by
           have:=h.2.2.1;rw [if_pos (.inl c8)] at this
           have:=zdW.2 (this.2 _ (List.getElem_mem (n:=k) (by omega)));omega
         simp only [this,decide_false]
       refine zaf (by omega) ?_
       refine ⟨m19-1,by omega,k+1,by omega,by simp,(hx9_.trans (hx10_.trans hx11_)),?_⟩
       intro s hs
       rw [List.take_succ_eq_append_getElem (by omega)] at hs
       rcases List.mem_append.1 hs with hs | hs
       · exact hinv s hs
       simp only [List.mem_cons,List.not_mem_nil,or_false] at hs
       subst hs
       exact zdW.1 (by omega)
     refine ⟨by simp,(hx7_.trans (hx8_.trans hx9_)),?_⟩
     rw [if_pos (.inl c8)]
     rw [List.take_of_length_le (by omega)] at hinv
     exact ⟨by simpa using c9,hinv⟩
   refine zaa zaL ?_
   refine zad ty3 (zat hA5) (hx3_.trans (hx4_.trans hx5_)) fun hI53=>?_
   refine zao ?_
   refine br (fun c12=>?_) (fun c12=>?_)
   · refine zaa zbM ?_
     refine zab za3 (zbm hA5) (hx3_.trans (hx4_.trans hx5_)) fun v57 h57=>?_
     refine (zdC h57 (hx3_.trans (hx4_.trans hx5_))).mono ?_
     rintro _ w12_ ⟨hx12_,rfl⟩
     refine zaW ?_
     refine zb8 (fun c13=>?_) (fun c13=>?_)
     · refine ⟨(hx1_.trans (hx2_.trans (hx3_.trans (hx4_.trans (hx5_.trans hx12_))))),?_⟩
       have:¬zeE c a (en c (zaC c j).toNat) (zdD c (zaC c j)+1):=fun h=>by have:=h.2.2.1;rw [if_pos (.inr c12)] at this;rw [this.1] at c13;cases c13
       simp only [this,decide_false]
     refine zaa zbM ?_
     refine zab za3 (zbm hA5) (hx3_.trans (hx4_.trans (hx5_.trans hx12_))) fun v61 h61=>?_
     refine (zes h61 (hx3_.trans (hx4_.trans (hx5_.trans hx12_)))).mono ?_
     rintro r62 w13_ ⟨hx13_,h62⟩
     refine zaq ((zbQ a.term).length) (fun k us w'=>us=[.int .i64 (k:Int)]∧Ext w13_ w'∧(∀ s∈(zbQ a.term).take k,s∈c.globals)) (0) (by omega) ⟨by simp,Ext.refl w13_,by simp⟩ ?_
     rintro k m19 uu19 w14_ hk19 ⟨hu,hx14_,hinv⟩
     simp only [List.map_cons,List.map_nil,List.cons.injEq,and_true] at hu
     try rw [hu]
     try clear hu
     have hln65:=zai h62
     refine zae u22 h62 ?_
     refine zah ?_
     refine br (fun c14=>?_) (fun c14=>?_)
     · have hx15_:=zan w14_
       refine zaa zc4 ?_
       refine zab zb1 (za2 hA2) (hx2_.trans (hx3_.trans (hx4_.trans (hx5_.trans (hx12_.trans (hx13_.trans (hx14_.trans hx15_))))))) fun v70 h70=>?_
       refine zac u22 ty9 h62 (by omega) fun b73 o73 h73=>?_
       refine zav ty9 h73 (hx14_.trans hx15_) fun hS74=>?_
       refine (zcq h70 (hx2_.trans (hx3_.trans (hx4_.trans (hx5_.trans (hx12_.trans (hx13_.trans (hx14_.trans hx15_)))))))).mono ?_
       rintro _ w16_ ⟨hx16_,rfl⟩
       refine zah ?_
       refine br (fun c15=>?_) (fun c15=>?_)
       · refine ⟨(hx1_.trans (hx2_.trans (hx3_.trans (hx4_.trans (hx5_.trans (hx12_.trans (hx13_.trans (hx14_.trans (hx15_.trans hx16_))))))))),?_⟩
         have:¬zeE c a (en c (zaC c j).toNat) (zdD c (zaC c j)+1):=fun h=>by
           have:=h.2.2.1;rw [if_pos (.inr c12)] at this
           have:=zdW.2 (this.2 _ (List.getElem_mem (n:=k) (by omega)));omega
         simp only [this,decide_false]
       refine zaf (by omega) ?_
       refine ⟨m19-1,by omega,k+1,by omega,by simp,(hx14_.trans (hx15_.trans hx16_)),?_⟩
       intro s hs
       rw [List.take_succ_eq_append_getElem (by omega)] at hs
       rcases List.mem_append.1 hs with hs | hs
       · exact hinv s hs
       simp only [List.mem_cons,List.not_mem_nil,or_false] at hs
       subst hs
       exact zdW.1 (by omega)
     refine ⟨by simp,(hx12_.trans (hx13_.trans hx14_)),?_⟩
     rw [if_pos (.inr c12)]
     rw [List.take_of_length_le (by omega)] at hinv
     exact ⟨by simpa using c13,hinv⟩
   refine zaa zbM ?_
   refine zab za3 (zbm hA5) (hx3_.trans (hx4_.trans hx5_)) fun v78 h78=>?_
   refine zme (α:=DTerm) zqH zl9 (by kernel_rfl) rfl fun v79 h79=>?_
   refine (ziY h78 (hx3_.trans (hx4_.trans hx5_)) h79 (Ext.refl w5_) rfl).mono ?_
   rintro _ w17_ ⟨hx17_,rfl⟩
   refine zar ?_
   refine br (fun c16=>?_) (fun c16=>?_)
   · refine ⟨(hx1_.trans (hx2_.trans (hx3_.trans (hx4_.trans (hx5_.trans hx17_))))),?_⟩
     have:¬zeE c a (en c (zaC c j).toNat) (zdD c (zaC c j)+1):=fun h=>by have:=h.2.2.1;rw [if_neg (by omega)] at this;exact c16 this
     simp only [this,decide_false]
   refine ⟨by simp,hx17_,?_⟩
   rw [if_neg (by omega)]
   exact Decidable.not_not.1 c16
 rintro uj25 w6_ ⟨hu,hx17_,hT⟩
 simp only [List.map_cons,List.map_nil,List.cons.injEq,and_true] at hu
 clear hu
 refine JOIN.mk (fun us w'=>us=[]∧Ext w6_ w'∧(a.op=2∨a.op=3)) ?_ ?_
 · refine zaa zaL ?_
   refine zad ty3 (zat hA5) (hx3_.trans (hx4_.trans (hx5_.trans hx17_))) fun hI83=>?_
   refine zaI ?_
   refine br (fun c17=>?_) (fun c17=>?_)
   · refine zaa zaL ?_
     refine zad ty3 (zat hA5) (hx3_.trans (hx4_.trans (hx5_.trans hx17_))) fun hI87=>?_
     refine zaI ?_
     refine br (fun c18=>?_) (fun c18=>?_)
     · refine zaa zbN ?_
       refine zad ty3 (za4 hA5) (hx3_.trans (hx4_.trans (hx5_.trans hx17_))) fun hI91=>?_
       refine zao ?_
       refine ⟨(hx1_.trans (hx2_.trans (hx3_.trans (hx4_.trans (hx5_.trans hx17_))))),?_⟩
       congr 1
       rw [decide_eq_decide]
       constructor
       · exact fun h=>⟨Decidable.not_not.1 c6,by omega,hT,by rw [if_neg (by omega)];exact h⟩
       intro h;have:=h.2.2.2;rw [if_neg (by omega)] at this;exact this
     refine ⟨by simp,Ext.refl w6_,?_⟩
     omega
   refine ⟨by simp,Ext.refl w6_,?_⟩
   omega
 rintro uj27 w18_ ⟨hu,hx18_,hop⟩
 simp only [List.map_cons,List.map_nil,List.cons.injEq,and_true] at hu
 clear hu
 refine zbd hV2 (hx2_.trans (hx3_.trans (hx4_.trans (hx5_.trans (hx17_.trans hx18_))))) ?_
 refine (zhh h0 (e0.trans (hx1_.trans (hx2_.trans (hx3_.trans (hx4_.trans (hx5_.trans (hx17_.trans hx18_)))))))).mono ?_
 rintro _ w19_ ⟨hx19_,rfl⟩
 have hx20_:=zan w19_
 refine zaa zbN ?_
 refine zad ty3 (za4 hA5) (hx3_.trans (hx4_.trans (hx5_.trans (hx17_.trans (hx18_.trans (hx19_.trans hx20_)))))) fun hI97=>?_
 refine zaa zaO ?_
 refine zab zbv (zal hA2) (hx2_.trans (hx3_.trans (hx4_.trans (hx5_.trans (hx17_.trans (hx18_.trans (hx19_.trans hx20_))))))) fun v99 h99=>?_
 refine zcD u23 ty3 h99 (by omega) (by omega) fun b101 o101 h101=>?_
 refine zad ty3 h101 (hx2_.trans (hx3_.trans (hx4_.trans (hx5_.trans (hx17_.trans (hx18_.trans (hx19_.trans hx20_))))))) fun hI102=>?_
 refine zbd hV2 (hx2_.trans (hx3_.trans (hx4_.trans (hx5_.trans (hx17_.trans (hx18_.trans (hx19_.trans hx20_))))))) ?_
 refine (zgw h0 (e0.trans (hx1_.trans (hx2_.trans (hx3_.trans (hx4_.trans (hx5_.trans (hx17_.trans (hx18_.trans (hx19_.trans hx20_))))))))) (by omega) (by omega) (by assumption)).mono ?_
 rintro _ w21_ ⟨hx21_,rfl⟩
 refine ⟨hx21_,?_⟩
 refine (l01In_ok ).mono ?_
 rintro _ w22_ ⟨hx22_,rfl⟩
 refine ⟨(hx1_.trans (hx2_.trans (hx3_.trans (hx4_.trans (hx5_.trans (hx17_.trans (hx18_.trans (hx19_.trans (hx20_.trans (hx21_.trans hx22_)))))))))),?_⟩
 congr 1
 rw [decide_eq_decide,zbf]
 constructor
 · exact fun h=>⟨Decidable.not_not.1 c6,by omega,hT,by rw [if_pos hop];omega⟩
 intro h;have:=h.2.2.2;rw [if_pos hop] at this;omega
def CodeR (c:DCode):Prop:=NamesR c∧EntS c∧∀ j,j<c.ins.length→zeE c (zaj c j) (en c (zaC c j).toNat) (zdD c (zaC c j)+1)
instance (c:DCode):Decidable (CodeR c):=by unfold CodeR;infer_instance
theorem EntS.nonneg {c:DCode} (h:EntS c):∀ i,i<c.entry.length→0≤en c i:=zfo h.2.2.1
theorem NamesR.procs8 {c:DCode} (h:NamesR c):c.procs.length≤8∧0<c.procs.length:=by
 have h1:=h.2.2.1
 simp only [Bool.and_eq_true,decide_eq_true_eq] at h1
 have h2:=List.length_pos_of_mem h.2.2.2.2.2.2
 omega
theorem zfp {c:DCode} {a:Int} (h0:en c 0≤a):∀ {n:Nat},0<n→0≤prc c a n
 | 1,_=>by rw [prc,if_pos h0];omega
 | n+2,_=>by
   rw [prc]
   split
   · omega
   exact zfp h0 (by omega)
theorem zh1 {c:DCode} (hn:NamesR c) (h:EntS c) {a:Int} (ha:0≤a):0≤zaC c a:=by
 have h1:=hn.procs8
 have h2:=h.1
 exact zfp (by have:=(h.2.2.1 0 (by omega)).1 rfl;omega) (by omega)
def F35 (a0:Value) (w:World) (R:VW):Prop:=
 oP (Instr.box 32 a0) w fun x1 w=>
 rL 32 x1 w fun x4=>
 cL 70 [x4] w fun x5 w=>
 rD (Op.unary .not x5) w fun x6=>
 BR x6
 (R (Value.bool false) w)
 (LOOPI [3] [(iV 0)] w fun u4 w next4=>
 rF 32 x1 4 w fun x8=>
 rL 30 x8 w fun x9=>
 rN 30 3 x9 w fun x10=>
 rC (u4 3) x10 w fun x11=>
 BR x11
 (rL 32 x1 w fun x14=>
 cL 71 [x14,(u4 3)] w fun x16 w=>
 rD (Op.unary .not x16) w fun x17=>
 BR x17
 (R (Value.bool false) w)
 (rA (u4 3) (iV 1) w fun x13=>
 next4 [x13] w))
 (R (Value.bool true) w))
def cfg35:Cfg:=⟨extL,[],[(4,262028,[3])],[],[],[],[]⟩
theorem F35_call {a0:Value} {w:World} {R:VW} (h:F35 a0 w R):cL 35 [a0] w R:=co (g:=cfg35) Tryz.func35 (by kernel_rfl) (by kernel_rfl) (by kernel_rfl) h
theorem zh2 {w:World} {v0:Value} {W0:World} {c:DCode}  (h0:Is W0 v0 c) (e0:Ext W0 w)  :
   CALL Tryz.prog 35 [v0] w fun r w'=>Ext w w'∧(r=.bool (decide (CodeR c))):=by
 refine F35_call ?_
 unfold F35
 refine zax zdh rfl h0 e0 fun w1_ hx1_ hA1 hV1=>?_
 refine zbd hV1 (Ext.refl w1_) ?_
 refine (zj3 h0 (e0.trans hx1_)).mono ?_
 rintro _ w2_ ⟨hx2_,rfl⟩
 skip
 refine zar ?_
 refine br (fun c1=>?_) (fun c1=>?_)
 · refine ⟨(hx1_.trans hx2_),?_⟩
   have:¬CodeR c:=fun h=>c1 ⟨h.1,h.2.1⟩
   simp only [this,decide_false]
 refine zaq (c.ins.length) (fun k us w'=>us=[.int .i64 (k:Int)]∧Ext w2_ w'∧(∀ j,j<k→zeE c (zaj c j) (en c (zaC c j).toNat) (zdD c (zaC c j)+1))) (0) (by omega) ⟨by simp,Ext.refl w2_,fun i h=>by omega⟩ ?_
 rintro k m4 uu4 w3_ hk4 ⟨hu,hx3_,hinv⟩
 simp only [List.map_cons,List.map_nil,List.cons.injEq,and_true] at hu
 try rw [hu]
 try clear hu
 replace c1:=Decidable.not_not.1 c1
 refine zaa zaK ?_
 refine zab zdn (zak hA1) (hx2_.trans hx3_) fun v9 h9=>?_
 have hln10:=zai h9
 refine zae u30 h9 ?_
 refine zah ?_
 refine br (fun c2=>?_) (fun c2=>?_)
 · refine zbd hV1 (hx2_.trans hx3_) ?_
   refine (zmH h0 (e0.trans (hx1_.trans (hx2_.trans hx3_))) (by omega) c1.2.nonneg (by have:=c1.1.procs8;have:=c1.2.1;omega) (zh1 c1.1 c1.2 (by omega))).mono ?_
   rintro _ w4_ ⟨hx4_,rfl⟩
   refine zar ?_
   refine br (fun c3=>?_) (fun c3=>?_)
   · refine ⟨(hx1_.trans (hx2_.trans (hx3_.trans hx4_))),?_⟩
     have:¬CodeR c:=fun h=>c3 (h.2.2 k (by omega))
     simp only [this,decide_false]
   refine zaf (by omega) ?_
   refine ⟨m4-1,by omega,k+1,by omega,by simp,(hx3_.trans hx4_),?_⟩
   exact ze5 hinv (Decidable.not_not.1 c3)
 refine ⟨(hx1_.trans (hx2_.trans hx3_)),?_⟩
 have:CodeR c:=⟨c1.1,c1.2,fun j hj=>hinv j (by omega)⟩
 simp only [this,decide_true]
def F132 (a0:Value) (w:World) (R:VW):Prop:=
 oP (Instr.box 32 a0) w fun x1 w=>
 rF 32 x1 0 w fun x3=>
 rL 22 x3 w fun x4=>
 cL 181 [x4,(iV 6)] w fun x5 w=>
 rD (Op.unary .not x5) w fun x6=>
 BR x6
 (R (Value.bool false) w)
 (rF 32 x1 1 w fun x8=>
 rL 22 x8 w fun x9=>
 cL 181 [x9,(iV 6)] w fun x10 w=>
 rD (Op.unary .not x10) w fun x11=>
 BR x11
 (R (Value.bool false) w)
 (rF 32 x1 2 w fun x14=>
 rL 22 x14 w fun x15=>
 cL 181 [x15,(iV 8)] w fun x16 w=>
 rD (Op.unary .not x16) w fun x17=>
 BR x17
 (R (Value.bool false) w)
 (rF 32 x1 0 w fun x19=>
 rL 22 x19 w fun x20=>
 cL 182 [x20] w fun x21 w=>
 BR x21
 (R (Value.bool false) w)
 (rF 32 x1 1 w fun x23=>
 rL 22 x23 w fun x24=>
 cL 182 [x24] w fun x25 w=>
 BR x25
 (R (Value.bool false) w)
 (rF 32 x1 2 w fun x28=>
 rL 22 x28 w fun x29=>
 cL 182 [x29] w fun x30 w=>
 BR x30
 (R (Value.bool false) w)
 (rF 32 x1 2 w fun x32=>
 rL 22 x32 w fun x33=>
 cL 169 [x33,(Value.string (ByteArray.mk #[109,97,105,110]))] w fun x34 w=>
 R x34 w))))))
def cfg132:Cfg:=⟨extL,[],[],[],[],[],[]⟩
theorem F132_call {a0:Value} {w:World} {R:VW} (h:F132 a0 w R):cL 132 [a0] w R:=co (g:=cfg132) Tryz.func132 (by kernel_rfl) (by kernel_rfl) (by kernel_rfl) h
theorem zh3 {w:World} {v0:Value} {W0:World} {c:DCode}  (h0:Is W0 v0 c) (e0:Ext W0 w)  :
   CALL Tryz.prog 132 [v0] w fun r w'=>Ext w w'∧(r=.bool (decide (NamesR c))):=by
 refine F132_call ?_
 unfold F132
 refine zax zdh rfl h0 e0 fun w1_ hx1_ hA1 hV1=>?_
 refine zaa zc4 ?_
 refine zab zb1 (za2 hA1) (Ext.refl w1_) fun v4 h4=>?_
 refine (zeA h4 (Ext.refl w1_)).mono ?_
 rintro _ w2_ ⟨hx2_,rfl⟩
 refine zaW ?_
 refine zb8 (fun c1=>?_) (fun c1=>?_)
 · refine ⟨(hx1_.trans hx2_),?_⟩
   have:¬NamesR c:=fun h=>by rw [h.1] at c1;cases c1
   simp only [this,decide_false]
 refine zaa zb2 ?_
 refine zab zb1 (zaB hA1) hx2_ fun v9 h9=>?_
 refine (zeA h9 hx2_).mono ?_
 rintro _ w3_ ⟨hx3_,rfl⟩
 refine zaW ?_
 refine zb8 (fun c2=>?_) (fun c2=>?_)
 · refine ⟨(hx1_.trans (hx2_.trans hx3_)),?_⟩
   have:¬NamesR c:=fun h=>by rw [h.2.1] at c2;cases c2
   simp only [this,decide_false]
 refine zaa zbS ?_
 refine zab zb1 (zaw hA1) (hx2_.trans hx3_) fun v15 h15=>?_
 refine (zeA h15 (hx2_.trans hx3_)).mono ?_
 rintro _ w4_ ⟨hx4_,rfl⟩
 refine zaW ?_
 refine zb8 (fun c3=>?_) (fun c3=>?_)
 · refine ⟨(hx1_.trans (hx2_.trans (hx3_.trans hx4_))),?_⟩
   have:¬NamesR c:=fun h=>by rw [h.2.2.1] at c3;cases c3
   simp only [this,decide_false]
 refine zaa zc4 ?_
 refine zab zb1 (za2 hA1) (hx2_.trans (hx3_.trans hx4_)) fun v20 h20=>?_
 refine (zeC h20 (hx2_.trans (hx3_.trans hx4_))).mono ?_
 rintro _ w5_ ⟨hx5_,rfl⟩
 refine br (fun c4=>?_) (fun c4=>?_)
 · refine ⟨(hx1_.trans (hx2_.trans (hx3_.trans (hx4_.trans hx5_)))),?_⟩
   have:¬NamesR c:=fun h=>c4 h.2.2.2.1
   simp only [this,decide_false]
 refine zaa zb2 ?_
 refine zab zb1 (zaB hA1) (hx2_.trans (hx3_.trans (hx4_.trans hx5_))) fun v24 h24=>?_
 refine (zeC h24 (hx2_.trans (hx3_.trans (hx4_.trans hx5_)))).mono ?_
 rintro _ w6_ ⟨hx6_,rfl⟩
 refine br (fun c5=>?_) (fun c5=>?_)
 · refine ⟨(hx1_.trans (hx2_.trans (hx3_.trans (hx4_.trans (hx5_.trans hx6_))))),?_⟩
   have:¬NamesR c:=fun h=>c5 h.2.2.2.2.1
   simp only [this,decide_false]
 refine zaa zbS ?_
 refine zab zb1 (zaw hA1) (hx2_.trans (hx3_.trans (hx4_.trans (hx5_.trans hx6_)))) fun v29 h29=>?_
 refine (zeC h29 (hx2_.trans (hx3_.trans (hx4_.trans (hx5_.trans hx6_))))).mono ?_
 rintro _ w7_ ⟨hx7_,rfl⟩
 refine br (fun c6=>?_) (fun c6=>?_)
 · refine ⟨(hx1_.trans (hx2_.trans (hx3_.trans (hx4_.trans (hx5_.trans (hx6_.trans hx7_)))))),?_⟩
   have:¬NamesR c:=fun h=>c6 h.2.2.2.2.2.1
   simp only [this,decide_false]
 refine zaa zbS ?_
 refine zab zb1 (zaw hA1) (hx2_.trans (hx3_.trans (hx4_.trans (hx5_.trans (hx6_.trans hx7_))))) fun v33 h33=>?_
 refine (zbT h33 (hx2_.trans (hx3_.trans (hx4_.trans (hx5_.trans (hx6_.trans hx7_)))))).mono ?_
 rintro _ w8_ ⟨hx8_,rfl⟩
 refine ⟨(hx1_.trans (hx2_.trans (hx3_.trans (hx4_.trans (hx5_.trans (hx6_.trans (hx7_.trans hx8_))))))),?_⟩
 congr 1
 rw [decide_eq_decide]
 exact ⟨fun h=>⟨by simpa using c1,by simpa using c2,by simpa using c3,Decidable.not_not.1 c4,Decidable.not_not.1 c5,Decidable.not_not.1 c6,h⟩,fun h=>h.2.2.2.2.2.2⟩
def zh4 (c:DCode):Nat→Nat
 | 0=>0
 | k+1=>zh4 c k+if (zaj c k).op=9 then 1 else 0
theorem zmI (c:DCode):∀ k,zh4 c k≤k
 | 0=>Nat.le_refl _
 | k+1=>by have:=zmI c k;rw [zh4];split<;>omega
def EntI (c:DCode):Prop:=c.ins.length≤1500∧c.entry.length=c.procs.length∧en c 0=0∧zh4 c c.ins.length=c.entry.length ∧
 ∀ i,i<c.entry.length→en c i<zcB c i∧zcB c i≤c.ins.length∧(zaj c (zcB c i-1).toNat).op=9
instance (c:DCode):Decidable (EntI c):=by unfold EntI;infer_instance
theorem zeF {c:DCode} (h0:en c 0=0):∀ {q:Nat},q<c.entry.length→(∀ i,i<q→en c i<zcB c i)→0≤en c q
 | 0,_,_=>by omega
 | q+1,hq,h=>by
   have h1:=zeF h0 (q:=q) (by omega) fun i hi=>h i (by omega)
   have h2:=h q (by omega)
   unfold zcB at h2
   rw [if_pos hq] at h2
   omega
def F133 (a0:Value) (w:World) (R:VW):Prop:=
 oP (Instr.box 32 a0) w fun x1 w=>
 rF 32 x1 4 w fun x9=>
 rL 30 x9 w fun x10=>
 rN 30 3 x10 w fun x11=>
 rB .gtr 3 T0 U0 x11 (iV 1500) w fun x12=>
 BR x12
 (R (Value.bool false) w)
 (rF 32 x1 3 w fun x14=>
 rL 23 x14 w fun x15=>
 rN 23 3 x15 w fun x16=>
 rF 32 x1 2 w fun x17=>
 rL 22 x17 w fun x18=>
 rN 22 3 x18 w fun x19=>
 rB .neq 3 T0 T0 x16 x19 w fun x20=>
 BR x20
 (R (Value.bool false) w)
 (rF 32 x1 3 w fun x23=>
 rL 23 x23 w fun x24=>
 rX 23 x24 (iV 0) w fun x25=>
 rL 3 x25 w fun x26=>
 rB .neq 3 T0 U0 x26 (iV 0) w fun x27=>
 BR x27
 (R (Value.bool false) w)
 (rF 32 x1 4 w fun x29=>
 rL 30 x29 w fun x30=>
 rN 30 3 x30 w fun x31=>
 LOOPI [3,32] [(iV 0),(iV 0)] w fun u5 w next5=>
 rC (u5 32) x31 w fun x33=>
 BR x33
 (rX 30 x30 (u5 32) w fun x34=>
 rL 111 x34 w fun x35=>
 oP (Instr.alloc 111 true (.tuple #[])) w fun x5 w=>
 oS 111 x5 x35 w fun w=>
 rF 111 x5 0 w fun x36=>
 rL 3 x36 w fun x37=>
 rB .eql 3 T0 U0 x37 (iV 9) w fun x38=>
 BR x38
 (rA (u5 3) (iV 1) w fun x40=>
 rA (u5 32) (iV 1) w fun x41=>
 next5 [x40,x41] w)
 (rA (u5 32) (iV 1) w fun x41=>
 next5 [(u5 3),x41] w))
 (rF 32 x1 3 w fun x43=>
 rL 23 x43 w fun x44=>
 rN 23 3 x44 w fun x45=>
 rB .neq 3 T0 T0 (u5 3) x45 w fun x46=>
 BR x46
 (R (Value.bool false) w)
 (rF 32 x1 3 w fun x47=>
 rL 23 x47 w fun x48=>
 rN 23 3 x48 w fun x49=>
 LOOPI [50] [(iV 0)] w fun u13 w next13=>
 rC (u13 50) x49 w fun x51=>
 BR x51
 ((fun w=>rF 32 x1 3 w fun x53=>
 rL 23 x53 w fun x54=>
 rX 23 x54 (u13 50) w fun x56=>
 rL 3 x56 w fun x57=>
 rF 32 x1 4 w fun x58=>
 rL 30 x58 w fun x59=>
 rN 30 3 x59 w fun x60=>
 JOIN [8] (fun J18=>
 rA (u13 50) (iV 1) w fun x62=>
 rF 32 x1 3 w fun x63=>
 rL 23 x63 w fun x64=>
 rN 23 3 x64 w fun x65=>
 rC x62 x65 w fun x66=>
 BR x66
 (rF 32 x1 3 w fun x67=>
 rL 23 x67 w fun x68=>
 rA (u13 50) (iV 1) w fun x70=>
 rX 23 x68 x70 w fun x71=>
 rL 3 x71 w fun x72=>
 J18 [x72] w)
 (J18 [x60] w)) (fun u18 w=>
 rB .leq 3 T0 T0 (u18 8) x57 w fun x75=>
 BR x75
 (R (Value.bool false) w)
 (rF 32 x1 4 w fun x78=>
 rL 30 x78 w fun x79=>
 rN 30 3 x79 w fun x80=>
 rB .gtr 3 T0 T0 (u18 8) x80 w fun x81=>
 BR x81
 (R (Value.bool false) w)
 (rF 32 x1 4 w fun x84=>
 rL 30 x84 w fun x85=>
 rB .sub 3 T0 U0 (u18 8) (iV 1) w fun x87=>
 rX 30 x85 x87 w fun x88=>
 rF 111 x88 0 w fun x89=>
 rL 3 x89 w fun x90=>
 rB .neq 3 T0 U0 x90 (iV 9) w fun x91=>
 BR x91
 (R (Value.bool false) w)
 (rA (u13 50) (iV 1) w fun x93=>
 next13 [x93] w))))) (World.drew1 w))
 (R (Value.bool true) w))))))
def cfg133:Cfg:=⟨extL,[(18,9442427122730076733696,[8])],[(5,4393751543848,[3,32]),(13,19807040628564958498479145412,[50])],[(15,[0,1,2,3,4,5,6,7,8,9],0)],[],[],[]⟩
theorem F133_call {a0:Value} {w:World} {R:VW} (h:F133 a0 w R):cL 133 [a0] w R:=co (g:=cfg133) Tryz.func133 (by kernel_rfl) (by kernel_rfl) (by kernel_rfl) h
theorem zgx {w:World} {v0:Value} {W0:World} {c:DCode}  (h0:Is W0 v0 c) (e0:Ext W0 w) (hp:0<c.procs.length) :
   CALL Tryz.prog 133 [v0] w fun r w'=>Ext w w'∧(r=.bool (decide (EntI c))):=by
 refine F133_call ?_
 unfold F133
 refine zax zdh rfl h0 e0 fun w1_ hx1_ hA1 hV1=>?_
 refine zaa zaK ?_
 refine zab zdn (zak hA1) (Ext.refl w1_) fun v10 h10=>?_
 have hln11:=zai h10
 refine zae u30 h10 ?_
 refine zb9 ?_
 refine br (fun c1=>?_) (fun c1=>?_)
 · refine ⟨hx1_,?_⟩
   have:¬EntI c:=fun h=>by have:=h.1;omega
   simp only [this,decide_false]
 refine zaa zaO ?_
 refine zab zbv (zal hA1) (Ext.refl w1_) fun v15 h15=>?_
 have hln16:=zai h15
 refine zae u23 h15 ?_
 refine zaa zbS ?_
 refine zab zb1 (zaw hA1) (Ext.refl w1_) fun v18 h18=>?_
 have hln19:=zai h18
 refine zae u22 h18 ?_
 refine zaI ?_
 refine br (fun c2=>?_) (fun c2=>?_)
 · refine ⟨hx1_,?_⟩
   have:¬EntI c:=fun h=>by have:=h.2.1;omega
   simp only [this,decide_false]
 refine zaa zaO ?_
 refine zab zbv (zal hA1) (Ext.refl w1_) fun v24 h24=>?_
 refine zcD u23 ty3 h24 (by omega) (by omega) fun b25 o25 h25=>?_
 refine zad ty3 h25 (Ext.refl w1_) fun hI26=>?_
 refine zaI ?_
 refine br (fun c3=>?_) (fun c3=>?_)
 · refine ⟨hx1_,?_⟩
   rw [zbf] at c3
   have:¬EntI c:=fun h=>c3 h.2.2.1
   simp only [this,decide_false]
 refine zaa zaK ?_
 refine zab zdn (zak hA1) (Ext.refl w1_) fun v30 h30=>?_
 have hln31:=zai h30
 refine zae u30 h30 ?_
 refine zaq (c.ins.length) (fun k us w'=>us=[.int .i64 (zh4 c k:Int),.int .i64 (k:Int)]∧Ext w1_ w'∧(True)) (0) (by omega) ⟨rfl,Ext.refl w1_,trivial⟩ ?_
 rintro k m5 uu5 w2_ hk5 ⟨hu,hx2_,hinv⟩
 obtain ⟨hu0,hu1⟩:=zcO hu;clear hu
 try rw [hu0]
 try rw [hu1]
 try clear hu0 hu1
 have hel:=zmI c k
 refine zah ?_
 refine br (fun c4=>?_) (fun c4=>?_)
 · refine zac u30 zaR h30 (by omega) fun b34 o34 h34=>?_
   refine zab zaR h34 hx2_ fun v35 h35=>?_
   rw [zaS] at h35
   refine zct zfD rfl zaR rfl h35 hx2_ fun w3_ hx3_ hA5 hV5=>?_
   refine zaa zaL ?_
   refine zad ty3 (zat hA5) (Ext.refl w3_) fun hI37=>?_
   refine zao ?_
   refine br (fun c5=>?_) (fun c5=>?_)
   · refine zaf (by omega) ?_
     refine zaf (by omega) ?_
     refine ⟨m5-1,by omega,k+1,by omega,by rw [zh4,if_pos c5],(hx2_.trans hx3_),?_⟩
     trivial
   refine zaf (by omega) ?_
   refine ⟨m5-1,by omega,k+1,by omega,by rw [zh4,if_neg c5];rfl,(hx2_.trans hx3_),?_⟩
   trivial
 refine zaa zaO ?_
 refine zab zbv (zal hA1) hx2_ fun v44 h44=>?_
 have hln45:=zai h44
 refine zae u23 h44 ?_
 refine zaI ?_
 refine br (fun c6=>?_) (fun c6=>?_)
 · refine ⟨(hx1_.trans hx2_),?_⟩
   have:¬EntI c:=fun h=>c6 (by rw [show k=c.ins.length by omega,h.2.2.2.1])
   simp only [this,decide_false]
 refine zaa zaO ?_
 refine zab zbv (zal hA1) hx2_ fun v48 h48=>?_
 have hln49:=zai h48
 refine zae u23 h48 ?_
 refine zaq (c.entry.length) (fun q us w'=>us=[.int .i64 (q:Int)]∧Ext w2_ w'∧(∀ i,i<q→en c i<zcB c i∧zcB c i≤c.ins.length∧(zaj c (zcB c i-1).toNat).op=9)) (0) (by omega) ⟨by simp,Ext.refl w2_,fun i h=>by omega⟩ ?_
 rintro q m13 uu13 w4_ hk13 ⟨hu,hx4_,hent⟩
 simp only [List.map_cons,List.map_nil,List.cons.injEq,and_true] at hu
 try rw [hu]
 try clear hu
 refine zah ?_
 refine br (fun c7=>?_) (fun c7=>?_)
 · have hx5_:=zan w4_
   refine zaa zaO ?_
   refine zab zbv (zal hA1) (hx2_.trans (hx4_.trans hx5_)) fun v54 h54=>?_
   refine zac u23 ty3 h54 (by omega) fun b56 o56 h56=>?_
   refine zad ty3 h56 (hx2_.trans (hx4_.trans hx5_)) fun hI57=>?_
   refine zaa zaK ?_
   refine zab zdn (zak hA1) (hx2_.trans (hx4_.trans hx5_)) fun v59 h59=>?_
   have hln60:=zai h59
   refine zae u30 h59 ?_
   refine JOIN.mk (fun us w'=>us=[.int .i64 (zcB c q)]∧Ext (World.drew1 w4_) w'∧(True)) ?_ ?_
   · refine zaf (by omega) ?_
     refine zaa zaO ?_
     refine zab zbv (zal hA1) (hx2_.trans (hx4_.trans hx5_)) fun v64 h64=>?_
     have hln65:=zai h64
     refine zae u23 h64 ?_
     refine zah ?_
     refine br (fun c8=>?_) (fun c8=>?_)
     · refine zaa zaO ?_
       refine zab zbv (zal hA1) (hx2_.trans (hx4_.trans hx5_)) fun v68 h68=>?_
       refine zaf (by omega) ?_
       refine zac u23 ty3 h68 (by omega) fun b71 o71 h71=>?_
       refine zad ty3 h71 (hx2_.trans (hx4_.trans hx5_)) fun hI72=>?_
       refine ⟨by unfold zcB;rw [if_pos (by omega),zbf],Ext.refl (World.drew1 w4_),?_⟩
       trivial
     refine ⟨by unfold zcB;rw [if_neg (by omega)],Ext.refl (World.drew1 w4_),?_⟩
     trivial
   rintro uj18 w6_ ⟨hu,hx6_,hinv⟩
   simp only [List.map_cons,List.map_nil,List.cons.injEq,and_true] at hu
   try rw [hu]
   try clear hu
   refine zdM ?_
   refine br (fun c9=>?_) (fun c9=>?_)
   · refine ⟨(hx1_.trans (hx2_.trans (hx4_.trans (hx5_.trans hx6_)))),?_⟩
     rw [zbf] at c9
     have:¬EntI c:=fun h=>by have:=(h.2.2.2.2 q (by omega)).1;omega
     simp only [this,decide_false]
   refine zaa zaK ?_
   refine zab zdn (zak hA1) (hx2_.trans (hx4_.trans (hx5_.trans hx6_))) fun v79 h79=>?_
   have hln80:=zai h79
   refine zae u30 h79 ?_
   refine zb9 ?_
   refine br (fun c10=>?_) (fun c10=>?_)
   · refine ⟨(hx1_.trans (hx2_.trans (hx4_.trans (hx5_.trans hx6_)))),?_⟩
     have:¬EntI c:=fun h=>by have:=(h.2.2.2.2 q (by omega)).2.1;omega
     simp only [this,decide_false]
   refine zaa zaK ?_
   refine zab zdn (zak hA1) (hx2_.trans (hx4_.trans (hx5_.trans hx6_))) fun v85 h85=>?_
   rw [zbf] at c3 c9
   have hq0:=zeF (Decidable.not_not.1 c3) (q:=q) (by omega) fun i hi=>(hent i hi).1
   refine za9 (by unfold I64;omega) ?_
   refine zcD u30 zaR h85 (by omega) (by omega) fun b88 o88 h88=>?_
   refine zaa zaL ?_
   refine zad ty3 (zat h88) (hx2_.trans (hx4_.trans (hx5_.trans hx6_))) fun hI90=>?_
   refine zaI ?_
   refine br (fun c11=>?_) (fun c11=>?_)
   · refine ⟨(hx1_.trans (hx2_.trans (hx4_.trans (hx5_.trans hx6_)))),?_⟩
     rw [zaS] at c11
     have:¬EntI c:=fun h=>c11 (h.2.2.2.2 q (by omega)).2.2
     simp only [this,decide_false]
   refine zaf (by omega) ?_
   refine ⟨m13-1,by omega,q+1,by omega,by simp,(hx4_.trans (hx5_.trans hx6_)),?_⟩
   rw [zaS] at c11
   exact ze5 hent ⟨by omega,by omega,Decidable.not_not.1 c11⟩
 refine ⟨(hx1_.trans (hx2_.trans hx4_)),?_⟩
 rw [zbf] at c3
 have:EntI c:=⟨by omega,by omega,Decidable.not_not.1 c3,by rw [show c.ins.length=k by omega];omega,fun i hi=>hent i (by omega)⟩
 simp only [this,decide_true]
def F183 (a0 a1:Value) (w:World) (R:VW):Prop:=
 oP (Instr.box 32 a0) w fun x2 w=>
 rB .eql 3 T0 U0 a1 (iV 1) w fun x7=>
 BR x7
 (rF 32 x2 0 w fun x8=>
 rL 22 x8 w fun x9=>
 rN 22 3 x9 w fun x10=>
 R x10 w)
 (rB .eql 3 T0 U0 a1 (iV 4) w fun x12=>
 BR x12
 (rF 32 x2 2 w fun x14=>
 rL 22 x14 w fun x15=>
 rN 22 3 x15 w fun x16=>
 R x16 w)
 (rB .eql 3 T0 U0 a1 (iV 5) w fun x13=>
 BR x13
 (rF 32 x2 2 w fun x14=>
 rL 22 x14 w fun x15=>
 rN 22 3 x15 w fun x16=>
 R x16 w)
 (rB .eql 3 T0 U0 a1 (iV 6) w fun x18=>
 BR x18
 (rF 32 x2 1 w fun x20=>
 rL 22 x20 w fun x21=>
 rN 22 3 x21 w fun x22=>
 R x22 w)
 (rB .eql 3 T0 U0 a1 (iV 7) w fun x19=>
 BR x19
 (rF 32 x2 1 w fun x20=>
 rL 22 x20 w fun x21=>
 rN 22 3 x21 w fun x22=>
 R x22 w)
 (R (iV 1) w)))))
def cfg183:Cfg:=⟨extL,[],[],[],[],[],[]⟩
theorem F183_call {a0 a1:Value} {w:World} {R:VW} (h:F183 a0 a1 w R):cL 183 [a0,a1] w R:=co (g:=cfg183) Tryz.func183 (by kernel_rfl) (by kernel_rfl) (by kernel_rfl) h
theorem zlx {w:World} {v0:Value} {W0:World} {c:DCode} {op:Int}  (h0:Is W0 v0 c) (e0:Ext W0 w)  :
   CALL Tryz.prog 183 [v0,.int .i64 op] w fun r w'=>Ext w w'∧(r=.int .i64 (zbG c op)):=by
 refine F183_call ?_
 unfold F183
 refine zax zdh rfl h0 e0 fun w1_ hx1_ hA2 hV2=>?_
 refine zao ?_
 refine br (fun c1=>?_) (fun c1=>?_)
 · refine zaa zc4 ?_
   refine zab zb1 (za2 hA2) (Ext.refl w1_) fun v9 h9=>?_
   have hln10:=zai h9
   refine zae u22 h9 ?_
   refine ⟨hx1_,?_⟩
   unfold zbG;rw [if_pos c1]
 refine zao ?_
 refine br (fun c2=>?_) (fun c2=>?_)
 · refine zaa zbS ?_
   refine zab zb1 (zaw hA2) (Ext.refl w1_) fun v15 h15=>?_
   have hln16:=zai h15
   refine zae u22 h15 ?_
   refine ⟨hx1_,?_⟩
   unfold zbG;rw [if_neg (by omega),if_pos (by omega)]
 refine zao ?_
 refine br (fun c3=>?_) (fun c3=>?_)
 · refine zaa zbS ?_
   refine zab zb1 (zaw hA2) (Ext.refl w1_) fun v15 h15=>?_
   have hln16:=zai h15
   refine zae u22 h15 ?_
   refine ⟨hx1_,?_⟩
   unfold zbG;rw [if_neg (by omega),if_pos (by omega)]
 refine zao ?_
 refine br (fun c4=>?_) (fun c4=>?_)
 · refine zaa zb2 ?_
   refine zab zb1 (zaB hA2) (Ext.refl w1_) fun v21 h21=>?_
   have hln22:=zai h21
   refine zae u22 h21 ?_
   refine ⟨hx1_,?_⟩
   unfold zbG;rw [if_neg (by omega),if_neg (by omega),if_pos (by omega)]
 refine zao ?_
 refine br (fun c5=>?_) (fun c5=>?_)
 · refine zaa zb2 ?_
   refine zab zb1 (zaB hA2) (Ext.refl w1_) fun v21 h21=>?_
   have hln22:=zai h21
   refine zae u22 h21 ?_
   refine ⟨hx1_,?_⟩
   unfold zbG;rw [if_neg (by omega),if_neg (by omega),if_pos (by omega)]
 refine ⟨hx1_,?_⟩
 unfold zbG;rw [if_neg (by omega),if_neg (by omega),if_neg (by omega)]
def F135 (a0 a1 a2 a3:Value) (w:World) (R:VW):Prop:=
 oP (Instr.box 32 a0) w fun x4 w=>
 oP (Instr.box 111 a1) w fun x5 w=>
 (fun w=>rF 111 x5 0 w fun x11=>
 rL 3 x11 w fun x12=>
 rB .lss 3 T0 U0 x12 (iV 1) w fun x13=>
 BR x13
 (R (Value.bool false) w)
 (rF 111 x5 0 w fun x15=>
 rL 3 x15 w fun x16=>
 rB .gtr 3 T0 U0 x16 (iV 9) w fun x17=>
 BR x17
 (R (Value.bool false) w)
 (rF 111 x5 1 w fun x20=>
 rL 3 x20 w fun x21=>
 rB .lss 3 T0 U0 x21 (iV 0) w fun x22=>
 BR x22
 (R (Value.bool false) w)
 (rF 111 x5 1 w fun x25=>
 rL 3 x25 w fun x26=>
 rL 32 x4 w fun x27=>
 rF 111 x5 0 w fun x28=>
 rL 3 x28 w fun x29=>
 (fun w_=>cL 183 [x27,x29] w_ fun x30 w=>
 Ext w_ w ∧
 rB .geq 3 T0 T0 x26 x30 w fun x31=>
 BR x31
 (R (Value.bool false) w)
 (JOIN [] (fun J14=>
 rF 111 x5 0 w fun x33=>
 rL 3 x33 w fun x34=>
 rB .eql 3 T0 U0 x34 (iV 1) w fun x35=>
 BR x35
 (rF 111 x5 2 w fun x41=>
 rL 109 x41 w fun x42=>
 cL 184 [x42] w fun x43 w=>
 rD (Op.unary .not x43) w fun x44=>
 BR x44
 (R (Value.bool false) w)
 (rF 111 x5 2 w fun x45=>
 rL 109 x45 w fun x46=>
 cL 168 [x46] w fun x47 w=>
 rN 22 3 x47 w fun x48=>
 LOOPI [49] [(iV 0)] w fun u7 w next7=>
 rC (u7 49) x48 w fun x50=>
 BR x50
 (rX 22 x47 (u7 49) w fun x51=>
 rL 9 x51 w fun x52=>
 rF 32 x4 0 w fun x53=>
 rL 22 x53 w fun x54=>
 cL 169 [x54,x52] w fun x56 w=>
 rD (Op.unary .not x56) w fun x57=>
 BR x57
 (R (Value.bool false) w)
 (rA (u7 49) (iV 1) w fun x58=>
 next7 [x58] w))
 (J14 [] w)))
 (rF 111 x5 0 w fun x37=>
 rL 3 x37 w fun x38=>
 rB .eql 3 T0 U0 x38 (iV 2) w fun x39=>
 BR x39
 (rF 111 x5 2 w fun x41=>
 rL 109 x41 w fun x42=>
 cL 184 [x42] w fun x43 w=>
 rD (Op.unary .not x43) w fun x44=>
 BR x44
 (R (Value.bool false) w)
 (rF 111 x5 2 w fun x45=>
 rL 109 x45 w fun x46=>
 cL 168 [x46] w fun x47 w=>
 rN 22 3 x47 w fun x48=>
 LOOPI [49] [(iV 0)] w fun u7 w next7=>
 rC (u7 49) x48 w fun x50=>
 BR x50
 (rX 22 x47 (u7 49) w fun x51=>
 rL 9 x51 w fun x52=>
 rF 32 x4 0 w fun x53=>
 rL 22 x53 w fun x54=>
 cL 169 [x54,x52] w fun x56 w=>
 rD (Op.unary .not x56) w fun x57=>
 BR x57
 (R (Value.bool false) w)
 (rA (u7 49) (iV 1) w fun x58=>
 next7 [x58] w))
 (J14 [] w)))
 (rF 111 x5 2 w fun x59=>
 rL 109 x59 w fun x60=>
 cL 185 [x60] w fun x61 w=>
 rD (Op.unary .not x61) w fun x62=>
 BR x62
 (R (Value.bool false) w)
 (J14 [] w)))) (fun u14 w=>
 rF 111 x5 0 w fun x63=>
 rL 3 x63 w fun x64=>
 rB .eql 3 T0 U0 x64 (iV 2) w fun x65=>
 BR x65
 (rF 111 x5 3 w fun x71=>
 rL 3 x71 w fun x72=>
 rB .geq 3 T0 T0 x72 a2 w fun x74=>
 BR x74
 (rF 111 x5 3 w fun x76=>
 rL 3 x76 w fun x77=>
 rC x77 a3 w fun x79=>
 R x79 w)
 (R (Value.bool false) w))
 (rF 111 x5 0 w fun x67=>
 rL 3 x67 w fun x68=>
 rB .eql 3 T0 U0 x68 (iV 3) w fun x69=>
 BR x69
 (rF 111 x5 3 w fun x71=>
 rL 3 x71 w fun x72=>
 rB .geq 3 T0 T0 x72 a2 w fun x74=>
 BR x74
 (rF 111 x5 3 w fun x76=>
 rL 3 x76 w fun x77=>
 rC x77 a3 w fun x79=>
 R x79 w)
 (R (Value.bool false) w))
 (rF 111 x5 3 w fun x81=>
 rL 3 x81 w fun x82=>
 rB .eql 3 T0 U0 x82 (iV 0) w fun x83=>
 R x83 w))))) w)))) (World.drew1 w)
def cfg135:Cfg:=⟨extL,[(14,9223372028264842496,[])],[(7,575897802350003456,[49])],[(1,[0,1,2,3,4,5,6,7,8,9,10,11,12,13,14,15,16,17,18,19,20,21],524288)],[],[],[]⟩
theorem F135_call {a0 a1 a2 a3:Value} {w:World} {R:VW} (h:F135 a0 a1 a2 a3 w R):cL 135 [a0,a1,a2,a3] w R:=co (g:=cfg135) Tryz.func135 (by kernel_rfl) (by kernel_rfl) (by kernel_rfl) h
theorem zj4 {w:World} {v0:Value} {W0:World} {c:DCode} {v1:Value} {W1:World} {a:DIns} {b:Int} {e:Int}  (h0:Is W0 v0 c) (e0:Ext W0 w) (h1:Is W1 v1 a) (e1:Ext W1 w)  :
   CALL Tryz.prog 135 [v0,v1,.int .i64 b,.int .i64 e] w fun r w'=>Ext w w'∧(r=.bool (decide (zeE c a b e))):=by
 refine F135_call ?_
 unfold F135
 refine zax zdh rfl h0 e0 fun w1_ hx1_ hA4 hV4=>?_
 refine zax zaR rfl h1 (e1.trans hx1_) fun w2_ hx2_ hA5 hV5=>?_
 have hx3_:=zan w2_
 refine zaa zaL ?_
 refine zad ty3 (zat hA5) hx3_ fun hI12=>?_
 refine zah ?_
 refine br (fun c1=>?_) (fun c1=>?_)
 · refine ⟨(hx1_.trans (hx2_.trans hx3_)),?_⟩
   have:¬zeE c a b e:=fun h=>by have:=h.1;omega
   simp only [this,decide_false]
 refine zaa zaL ?_
 refine zad ty3 (zat hA5) hx3_ fun hI16=>?_
 refine zb9 ?_
 refine br (fun c2=>?_) (fun c2=>?_)
 · refine ⟨(hx1_.trans (hx2_.trans hx3_)),?_⟩
   have:¬zeE c a b e:=fun h=>by have:=h.1;omega
   simp only [this,decide_false]
 refine zaa zbi ?_
 refine zad ty3 (zaJ hA5) hx3_ fun hI21=>?_
 refine zah ?_
 refine br (fun c3=>?_) (fun c3=>?_)
 · refine ⟨(hx1_.trans (hx2_.trans hx3_)),?_⟩
   have:¬zeE c a b e:=fun h=>by have:=h.2.1;omega
   simp only [this,decide_false]
 refine zaa zbi ?_
 refine zad ty3 (zaJ hA5) hx3_ fun hI26=>?_
 refine zbd hV4 (hx2_.trans hx3_) ?_
 refine zaa zaL ?_
 refine zad ty3 (zat hA5) hx3_ fun hI29=>?_
 refine (zlx h0 (e0.trans (hx1_.trans (hx2_.trans hx3_)))).mono ?_
 rintro _ w4_ ⟨hx4_,rfl⟩
 refine ⟨hx4_,?_⟩
 refine zbY ?_
 refine br (fun c4=>?_) (fun c4=>?_)
 · refine ⟨(hx1_.trans (hx2_.trans (hx3_.trans hx4_))),?_⟩
   have:¬zeE c a b e:=fun h=>by have:=h.2.1;omega
   simp only [this,decide_false]
 refine JOIN.mk (fun us w'=>us=[]∧Ext w4_ w'∧(if a.op=1∨a.op=2 then zbe 6 a.term=true∧(∀ s∈zbQ a.term,s∈c.globals) else a.term=term0)) ?_ ?_
 · refine zaa zaL ?_
   refine zad ty3 (zat hA5) (hx3_.trans hx4_) fun hI34=>?_
   refine zao ?_
   refine br (fun c5=>?_) (fun c5=>?_)
   · refine zaa zbM ?_
     refine zab za3 (zbm hA5) (hx3_.trans hx4_) fun v42 h42=>?_
     refine (zdB h42 (hx3_.trans hx4_)).mono ?_
     rintro _ w6_ ⟨hx6_,rfl⟩
     refine zaW ?_
     refine zb8 (fun c6=>?_) (fun c6=>?_)
     · refine ⟨(hx1_.trans (hx2_.trans (hx3_.trans (hx4_.trans hx6_)))),?_⟩
       have:¬zeE c a b e:=fun h=>by have:=h.2.2.1;rw [if_pos (.inl c5)] at this;rw [this.1] at c6;cases c6
       simp only [this,decide_false]
     refine zaa zbM ?_
     refine zab za3 (zbm hA5) (hx3_.trans (hx4_.trans hx6_)) fun v46 h46=>?_
     refine (zer h46 (hx3_.trans (hx4_.trans hx6_))).mono ?_
     rintro r47 w7_ ⟨hx7_,h47⟩
     have hln48:=zai h47
     refine zae u22 h47 ?_
     refine zaq ((zbQ a.term).length) (fun k us w'=>us=[.int .i64 (k:Int)]∧Ext w7_ w'∧(∀ s∈(zbQ a.term).take k,s∈c.globals)) (0) (by omega) ⟨by simp,Ext.refl w7_,by simp⟩ ?_
     rintro k m7 uu7 w8_ hk7 ⟨hu,hx8_,hinv⟩
     simp only [List.map_cons,List.map_nil,List.cons.injEq,and_true] at hu
     try rw [hu]
     try clear hu
     refine zah ?_
     refine br (fun c7=>?_) (fun c7=>?_)
     · refine zac u22 ty9 h47 (by omega) fun b51 o51 h51=>?_
       refine zav ty9 h51 hx8_ fun hS52=>?_
       refine zaa zc4 ?_
       refine zab zb1 (za2 hA4) (hx2_.trans (hx3_.trans (hx4_.trans (hx6_.trans (hx7_.trans hx8_))))) fun v54 h54=>?_
       refine (zbT h54 (hx2_.trans (hx3_.trans (hx4_.trans (hx6_.trans (hx7_.trans hx8_)))))).mono ?_
       rintro _ w9_ ⟨hx9_,rfl⟩
       refine zar ?_
       refine br (fun c8=>?_) (fun c8=>?_)
       · refine ⟨(hx1_.trans (hx2_.trans (hx3_.trans (hx4_.trans (hx6_.trans (hx7_.trans (hx8_.trans hx9_))))))),?_⟩
         have:¬zeE c a b e:=fun h=>by
           have:=h.2.2.1;rw [if_pos (.inl c5)] at this
           exact c8 (this.2 _ (List.getElem_mem (n:=k) (by omega)))
         simp only [this,decide_false]
       refine zaf (by omega) ?_
       refine ⟨m7-1,by omega,k+1,by omega,by simp,(hx8_.trans hx9_),?_⟩
       intro s hs
       rw [List.take_succ_eq_append_getElem (by omega)] at hs
       rcases List.mem_append.1 hs with hs | hs
       · exact hinv s hs
       simp only [List.mem_cons,List.not_mem_nil,or_false] at hs
       subst hs
       exact Decidable.not_not.1 c8
     refine ⟨by simp,(hx6_.trans (hx7_.trans hx8_)),?_⟩
     rw [if_pos (.inl c5)]
     rw [List.take_of_length_le (by omega)] at hinv
     exact ⟨by simpa using c6,hinv⟩
   refine zaa zaL ?_
   refine zad ty3 (zat hA5) (hx3_.trans hx4_) fun hI38=>?_
   refine zao ?_
   refine br (fun c9=>?_) (fun c9=>?_)
   · refine zaa zbM ?_
     refine zab za3 (zbm hA5) (hx3_.trans hx4_) fun v42 h42=>?_
     refine (zdB h42 (hx3_.trans hx4_)).mono ?_
     rintro _ w10_ ⟨hx10_,rfl⟩
     refine zaW ?_
     refine zb8 (fun c10=>?_) (fun c10=>?_)
     · refine ⟨(hx1_.trans (hx2_.trans (hx3_.trans (hx4_.trans hx10_)))),?_⟩
       have:¬zeE c a b e:=fun h=>by have:=h.2.2.1;rw [if_pos (.inr c9)] at this;rw [this.1] at c10;cases c10
       simp only [this,decide_false]
     refine zaa zbM ?_
     refine zab za3 (zbm hA5) (hx3_.trans (hx4_.trans hx10_)) fun v46 h46=>?_
     refine (zer h46 (hx3_.trans (hx4_.trans hx10_))).mono ?_
     rintro r47 w11_ ⟨hx11_,h47⟩
     have hln48:=zai h47
     refine zae u22 h47 ?_
     refine zaq ((zbQ a.term).length) (fun k us w'=>us=[.int .i64 (k:Int)]∧Ext w11_ w'∧(∀ s∈(zbQ a.term).take k,s∈c.globals)) (0) (by omega) ⟨by simp,Ext.refl w11_,by simp⟩ ?_
     rintro k m7 uu7 w12_ hk7 ⟨hu,hx12_,hinv⟩
     simp only [List.map_cons,List.map_nil,List.cons.injEq,and_true] at hu
     try rw [hu]
     try clear hu
     refine zah ?_
     refine br (fun c11=>?_) (fun c11=>?_)
     · refine zac u22 ty9 h47 (by omega) fun b51 o51 h51=>?_
       refine zav ty9 h51 hx12_ fun hS52=>?_
       refine zaa zc4 ?_
       refine zab zb1 (za2 hA4) (hx2_.trans (hx3_.trans (hx4_.trans (hx10_.trans (hx11_.trans hx12_))))) fun v54 h54=>?_
       refine (zbT h54 (hx2_.trans (hx3_.trans (hx4_.trans (hx10_.trans (hx11_.trans hx12_)))))).mono ?_
       rintro _ w13_ ⟨hx13_,rfl⟩
       refine zar ?_
       refine br (fun c12=>?_) (fun c12=>?_)
       · refine ⟨(hx1_.trans (hx2_.trans (hx3_.trans (hx4_.trans (hx10_.trans (hx11_.trans (hx12_.trans hx13_))))))),?_⟩
         have:¬zeE c a b e:=fun h=>by
           have:=h.2.2.1;rw [if_pos (.inr c9)] at this
           exact c12 (this.2 _ (List.getElem_mem (n:=k) (by omega)))
         simp only [this,decide_false]
       refine zaf (by omega) ?_
       refine ⟨m7-1,by omega,k+1,by omega,by simp,(hx12_.trans hx13_),?_⟩
       intro s hs
       rw [List.take_succ_eq_append_getElem (by omega)] at hs
       rcases List.mem_append.1 hs with hs | hs
       · exact hinv s hs
       simp only [List.mem_cons,List.not_mem_nil,or_false] at hs
       subst hs
       exact Decidable.not_not.1 c12
     refine ⟨by simp,(hx10_.trans (hx11_.trans hx12_)),?_⟩
     rw [if_pos (.inr c9)]
     rw [List.take_of_length_le (by omega)] at hinv
     exact ⟨by simpa using c10,hinv⟩
   refine zaa zbM ?_
   refine zab za3 (zbm hA5) (hx3_.trans hx4_) fun v60 h60=>?_
   refine (zhV h60 (hx3_.trans hx4_)).mono ?_
   rintro _ w14_ ⟨hx14_,rfl⟩
   refine zar ?_
   refine br (fun c13=>?_) (fun c13=>?_)
   · refine ⟨(hx1_.trans (hx2_.trans (hx3_.trans (hx4_.trans hx14_)))),?_⟩
     have:¬zeE c a b e:=fun h=>by have:=h.2.2.1;rw [if_neg (by omega)] at this;exact c13 this
     simp only [this,decide_false]
   refine ⟨by simp,hx14_,?_⟩
   rw [if_neg (by omega)]
   exact Decidable.not_not.1 c13
 rintro uj14 w5_ ⟨hu,hx14_,hT⟩
 simp only [List.map_cons,List.map_nil,List.cons.injEq,and_true] at hu
 clear hu
 refine zaa zaL ?_
 refine zad ty3 (zat hA5) (hx3_.trans (hx4_.trans hx14_)) fun hI64=>?_
 refine zao ?_
 refine br (fun c14=>?_) (fun c14=>?_)
 · refine zaa zbN ?_
   refine zad ty3 (za4 hA5) (hx3_.trans (hx4_.trans hx14_)) fun hI72=>?_
   refine zbY ?_
   refine br (fun c15=>?_) (fun c15=>?_)
   · refine zaa zbN ?_
     refine zad ty3 (za4 hA5) (hx3_.trans (hx4_.trans hx14_)) fun hI77=>?_
     refine zah ?_
     refine ⟨(hx1_.trans (hx2_.trans (hx3_.trans (hx4_.trans hx14_)))),?_⟩
     first
       | (have no:¬zeE c a b e:=fun h=>by
           have h4:=h.2.2.2;rw [if_pos (by omega)] at h4;omega
          simp only [no,decide_false]
          done)
       | (congr 1
          rw [decide_eq_decide]
          constructor
          · exact fun h=>⟨by omega,by omega,hT,by first | (rw [if_pos (by omega)];omega) | (rw [if_neg (by omega)];omega)⟩
          intro h
          have h4:=h.2.2.2
          first | (rw [if_pos (by omega)] at h4;omega) | (rw [if_neg (by omega)] at h4;omega))
   refine ⟨(hx1_.trans (hx2_.trans (hx3_.trans (hx4_.trans hx14_)))),?_⟩
   first
     | (have no:¬zeE c a b e:=fun h=>by
         have h4:=h.2.2.2;rw [if_pos (by omega)] at h4;omega
        simp only [no,decide_false]
        done)
     | (congr 1
        rw [decide_eq_decide]
        constructor
        · exact fun h=>⟨by omega,by omega,hT,by first | (rw [if_pos (by omega)];omega) | (rw [if_neg (by omega)];omega)⟩
        intro h
        have h4:=h.2.2.2
        first | (rw [if_pos (by omega)] at h4;omega) | (rw [if_neg (by omega)] at h4;omega))
 refine zaa zaL ?_
 refine zad ty3 (zat hA5) (hx3_.trans (hx4_.trans hx14_)) fun hI68=>?_
 refine zao ?_
 refine br (fun c16=>?_) (fun c16=>?_)
 · refine zaa zbN ?_
   refine zad ty3 (za4 hA5) (hx3_.trans (hx4_.trans hx14_)) fun hI72=>?_
   refine zbY ?_
   refine br (fun c17=>?_) (fun c17=>?_)
   · refine zaa zbN ?_
     refine zad ty3 (za4 hA5) (hx3_.trans (hx4_.trans hx14_)) fun hI77=>?_
     refine zah ?_
     refine ⟨(hx1_.trans (hx2_.trans (hx3_.trans (hx4_.trans hx14_)))),?_⟩
     first
       | (have no:¬zeE c a b e:=fun h=>by
           have h4:=h.2.2.2;rw [if_pos (by omega)] at h4;omega
          simp only [no,decide_false]
          done)
       | (congr 1
          rw [decide_eq_decide]
          constructor
          · exact fun h=>⟨by omega,by omega,hT,by first | (rw [if_pos (by omega)];omega) | (rw [if_neg (by omega)];omega)⟩
          intro h
          have h4:=h.2.2.2
          first | (rw [if_pos (by omega)] at h4;omega) | (rw [if_neg (by omega)] at h4;omega))
   refine ⟨(hx1_.trans (hx2_.trans (hx3_.trans (hx4_.trans hx14_)))),?_⟩
   first
     | (have no:¬zeE c a b e:=fun h=>by
         have h4:=h.2.2.2;rw [if_pos (by omega)] at h4;omega
        simp only [no,decide_false]
        done)
     | (congr 1
        rw [decide_eq_decide]
        constructor
        · exact fun h=>⟨by omega,by omega,hT,by first | (rw [if_pos (by omega)];omega) | (rw [if_neg (by omega)];omega)⟩
        intro h
        have h4:=h.2.2.2
        first | (rw [if_pos (by omega)] at h4;omega) | (rw [if_neg (by omega)] at h4;omega))
 refine zaa zbN ?_
 refine zad ty3 (za4 hA5) (hx3_.trans (hx4_.trans hx14_)) fun hI82=>?_
 refine zao ?_
 refine ⟨(hx1_.trans (hx2_.trans (hx3_.trans (hx4_.trans hx14_)))),?_⟩
 first
   | (have no:¬zeE c a b e:=fun h=>by
       have h4:=h.2.2.2;rw [if_pos (by omega)] at h4;omega
      simp only [no,decide_false]
      done)
   | (congr 1
      rw [decide_eq_decide]
      constructor
      · exact fun h=>⟨by omega,by omega,hT,by first | (rw [if_pos (by omega)];omega) | (rw [if_neg (by omega)];omega)⟩
      intro h
      have h4:=h.2.2.2
      first | (rw [if_pos (by omega)] at h4;omega) | (rw [if_neg (by omega)] at h4;omega))
def F134 (a0 a1:Value) (w:World) (R:VW):Prop:=
 oP (Instr.box 32 a0) w fun x2 w=>
 rA a1 (iV 1) w fun x6=>
 rF 32 x2 3 w fun x7=>
 rL 23 x7 w fun x8=>
 rN 23 3 x8 w fun x9=>
 rC x6 x9 w fun x10=>
 BR x10
 (rF 32 x2 3 w fun x11=>
 rL 23 x11 w fun x12=>
 rA a1 (iV 1) w fun x14=>
 rX 23 x12 x14 w fun x15=>
 rL 3 x15 w fun x16=>
 R x16 w)
 (rF 32 x2 4 w fun x17=>
 rL 30 x17 w fun x18=>
 rN 30 3 x18 w fun x19=>
 R x19 w)
def cfg134:Cfg:=⟨extL,[],[],[],[],[],[]⟩
theorem F134_call {a0 a1:Value} {w:World} {R:VW} (h:F134 a0 a1 w R):cL 134 [a0,a1] w R:=co (g:=cfg134) Tryz.func134 (by kernel_rfl) (by kernel_rfl) (by kernel_rfl) h
theorem zc7 {w:World} {v0:Value} {W0:World} {c:DCode} {i:Nat}  (h0:Is W0 v0 c) (e0:Ext W0 w) (hi:i<1000000000000) :
   CALL Tryz.prog 134 [v0,.int .i64 (i:Int)] w fun r w'=>Ext w w'∧(r=.int .i64 (zcB c i)):=by
 refine F134_call ?_
 unfold F134
 refine zax zdh rfl h0 e0 fun w1_ hx1_ hA2 hV2=>?_
 refine zaf (by omega) ?_
 refine zaa zaO ?_
 refine zab zbv (zal hA2) (Ext.refl w1_) fun v8 h8=>?_
 have hln9:=zai h8
 refine zae u23 h8 ?_
 refine zah ?_
 refine br (fun c1=>?_) (fun c1=>?_)
 · refine zaa zaO ?_
   refine zab zbv (zal hA2) (Ext.refl w1_) fun v12 h12=>?_
   refine zaf (by omega) ?_
   refine zac u23 ty3 h12 (by omega) fun b15 o15 h15=>?_
   refine zad ty3 h15 (Ext.refl w1_) fun hI16=>?_
   refine ⟨hx1_,?_⟩
   unfold zcB;rw [if_pos (by omega),zbf]
 refine zaa zaK ?_
 refine zab zdn (zak hA2) (Ext.refl w1_) fun v18 h18=>?_
 have hln19:=zai h18
 refine zae u30 h18 ?_
 refine ⟨hx1_,?_⟩
 unfold zcB;rw [if_neg (by omega)]
structure EntF (c:DCode):Prop where
 len:c.entry.length=c.procs.length
 ins:c.ins.length≤1500
 zero:en c 0=0
 lt:∀ i,i<c.entry.length→en c i<zcB c i∧zcB c i≤c.ins.length
theorem EntF.nonneg {c:DCode} (h:EntF c) {i:Nat} (hi:i<c.entry.length):0≤en c i:=zeF h.zero hi fun j hj=>(h.lt j (by omega)).1
theorem EntF.step {c:DCode} (h:EntF c) {i:Nat} (hi:i+1<c.entry.length):zcB c i=en c (i+1):=by unfold zcB;rw [if_pos hi]
theorem EntF.last {c:DCode} (h:EntF c) {i:Nat} (hi:i+1=c.entry.length):zcB c i=c.ins.length:=by unfold zcB;rw [if_neg (by omega)]
theorem EntF.mono {c:DCode} (h:EntF c):∀ {i j:Nat},i<j→j<c.entry.length→zcB c i≤en c j
 | i,j+1,hij,hj=>by
   by_cases e:i=j
   · subst e;rw [h.step hj];exact Int.le_refl _
   have h1:=h.mono (i:=i) (j:=j) (by omega) (by omega)
   have h2:=(h.lt j (by omega)).1
   rw [h.step hj] at h2
   omega
theorem EntF.proc {c:DCode} (h:EntF c) {i:Nat} {a:Int} (hi:i<c.entry.length) (h1:en c i≤a) (h2:a<zcB c i):zaC c a=i:=by
 unfold zaC
 rw [zfM (m:=i+1) (by omega) fun j hj1 hj2=>by have:=h.mono (i:=i) (j:=j) (by omega) hj2;omega]
 rw [prc,if_pos h1]
theorem EntF.find {c:DCode} (h:EntF c) (hp:0<c.procs.length) {a:Int} (h0:0≤a) (h1:a<c.ins.length):∃ i,i<c.entry.length∧en c i≤a∧a<zcB c i∧zaC c a=i:=by
 have hlen:=h.len
 have h2:0≤zaC c a:=zfp (by rw [h.zero];exact h0) (by omega)
 have h3:=(ze4 (c:=c) (a:=a)).2
 have key:∀ n,n≤c.entry.length→(∀ j,n≤j→j<c.entry.length→a<en c j)→0<n→∃ i,i<n∧en c i≤a∧a<zcB c i:=by
   intro n
   induction n with
   | zero=>intro _ _ h;omega
   | succ n ih=>
     intro hn hj _
     by_cases hle:en c n≤a
     · refine ⟨n,by omega,hle,?_⟩
       by_cases hl:n+1<c.entry.length
       · rw [h.step hl];exact hj (n+1) (by omega) hl
       rw [h.last (by omega)];exact h1
     by_cases h0n:n=0
     · subst h0n;rw [h.zero] at hle;omega
     obtain ⟨i,hi,hx⟩:=ih (by omega) (fun j hj1 hj2=>by
       by_cases e:j=n
       · subst e;omega
       exact hj j (by omega) hj2) (by omega)
     exact ⟨i,by omega,hx⟩
 obtain ⟨i,hi,hx,hy⟩:=key c.entry.length (Nat.le_refl _) (fun j hj1 hj2=>by omega) (by omega)
 exact ⟨i,hi,hx,hy,h.proc hi hx hy⟩
theorem EntS.f {c:DCode} (h:EntS c) (hp:0<c.procs.length):EntF c:=by
 obtain ⟨h1,h2,h3,h4⟩:=h
 refine ⟨h1,h2,(h3 0 (by omega)).1 rfl,fun i hi=>?_⟩
 unfold zcB
 split
 · rename_i hl
   have:=h3 (i+1) hl
   have h5:=this.2.1 (by omega)
   simp only [Nat.add_sub_cancel] at h5
   exact ⟨h5,by omega⟩
 exact ⟨(h3 i hi).2.2,Int.le_refl _⟩
theorem EntI.f {c:DCode} (h:EntI c):EntF c:=⟨h.2.1,h.1,h.2.2.1,fun i hi=>⟨(h.2.2.2.2 i hi).1,(h.2.2.2.2 i hi).2.1⟩⟩
theorem zmJ (c:DCode) (a:Nat):∀ (d:Nat),zh4 c a≤zh4 c (a+d)∧(zh4 c (a+d)=zh4 c a↔∀ j,a≤j→j<a+d→¬(zaj c j).op=9)
 | 0=>⟨Nat.le_refl _,⟨fun _ j h1 h2=>by omega,fun _=>rfl⟩⟩
 | d+1=>by
   obtain ⟨h1,h2⟩:=zmJ c a d
   rw [←Nat.add_assoc,zh4]
   refine ⟨by omega,?_⟩
   split
   · rename_i h9
     exact ⟨fun h=>by omega,fun h=>absurd h9 (h (a+d) (by omega) (by omega))⟩
   rename_i h9
   rw [Nat.add_zero,h2]
   constructor
   · intro h j hj1 hj2
     by_cases e:j=a+d
     · subst e;exact h9
     exact h j hj1 (by omega)
   exact fun h j hj1 hj2=>h j hj1 (by omega)
def eb (c:DCode) (n:Nat):Nat:=if n=0 then 0 else (zcB c (n-1)).toNat
theorem EntF.eb_en {c:DCode} (h:EntF c) {n:Nat} (hn:n<c.entry.length):(eb c n:Int)=en c n:=by
 unfold eb
 split
 · rename_i h0;subst h0;rw [h.zero];rfl
 have h1:=h.nonneg hn
 have h2:zcB c (n-1)=en c n:=by
   have:=h.step (i:=n-1) (by omega)
   rwa [show n-1+1=n by omega] at this
 rw [h2];omega
theorem EntF.eb_succ {c:DCode} (h:EntF c) {n:Nat} (hn:n<c.entry.length):(eb c (n+1):Int)=zcB c n:=by
 unfold eb
 rw [if_neg (by omega),Nat.add_sub_cancel]
 have:=(h.lt n hn).1
 have:=h.nonneg hn
 omega
theorem zfq {c:DCode} (h:EntF c) (he:∀ i,i<c.entry.length→(zaj c (zcB c i-1).toNat).op=9):∀ n,n≤c.entry.length →
   n≤zh4 c (eb c n)∧(zh4 c (eb c n)=n↔∀ j:Nat,j<eb c n→(zaj c j).op=9→∃ i,i<n∧zcB c i=j+1)
 | 0,_=>⟨Nat.zero_le _,⟨fun _ j hj=>by simp [eb] at hj,fun _=>rfl⟩⟩
 | n+1,hn=>by
   obtain ⟨h1,h2⟩:=zfq h he n (by omega)
   have ha:=h.eb_en (n:=n) (by omega)
   have hb:=h.eb_succ (n:=n) (by omega)
   have hlt:=(h.lt n (by omega)).1
   have h9:=he n (by omega)
   have e9:(zcB c n-1).toNat=eb c (n+1)-1:=by omega
   rw [e9] at h9
   obtain ⟨d,hd⟩:∃ d,eb c (n+1)=eb c n+d+1:=⟨eb c (n+1)-eb c n-1,by omega⟩
   have hd':eb c (n+1)-1=eb c n+d:=by omega
   rw [hd'] at h9
   obtain ⟨h3,h4⟩:=zmJ c (eb c n) d
   rw [hd,zh4,if_pos h9]
   refine ⟨by omega,?_⟩
   have hsplit:zh4 c (eb c n+d)+1=n+1↔(zh4 c (eb c n)=n∧zh4 c (eb c n+d)=zh4 c (eb c n)):=by omega
   rw [hsplit,h2,h4]
   constructor
   · rintro ⟨p1,p2⟩ j hj hj9
     by_cases hja:j<eb c n
     · obtain ⟨i,hi,hx⟩:=p1 j hja hj9
       exact ⟨i,by omega,hx⟩
     by_cases hje:j=eb c n+d
     · exact ⟨n,by omega,by omega⟩
     exact absurd hj9 (p2 j (by omega) (by omega))
   intro p
   constructor
   · intro j hj hj9
     obtain ⟨i,hi,hx⟩:=p j (by omega) hj9
     by_cases hin:i=n
     · subst hin;omega
     exact ⟨i,by omega,hx⟩
   intro j hj1 hj2 hj9
   obtain ⟨i,hi,hx⟩:=p j (by omega) hj9
   by_cases hin:i=n
   · subst hin;omega
   have:=h.mono (i:=i) (j:=n) (by omega) (by omega)
   omega
theorem zmK {c:DCode} (hp:0<c.procs.length):EntI c↔EntS c:=by
 constructor
 · intro h
   have hf:=h.f
   obtain ⟨_,_,_,hc,hall⟩:=h
   have hlen:=hf.len
   have he:∀ i,i<c.entry.length→(zaj c (zcB c i-1).toNat).op=9:=fun i hi=>(hall i hi).2.2
   obtain ⟨_,h2⟩:=zfq hf he c.entry.length (Nat.le_refl _)
   have hb:eb c c.entry.length=c.ins.length:=by
     have:=hf.eb_succ (n:=c.entry.length-1) (by omega)
     rw [hf.last (by omega),show c.entry.length-1+1=c.entry.length by omega] at this
     omega
   rw [hb] at h2
   have h3:=h2.1 hc
   refine ⟨hf.len,hf.ins,fun i hi=>⟨fun _=>hf.zero,fun h0=>?_,?_⟩,fun j hj=>?_⟩
   · have h4:=(hf.lt (i-1) (by omega)).1
     have h5:=hf.step (i:=i-1) (by omega)
     rw [show i-1+1=i by omega] at h5
     omega
   · have:=hf.lt i hi;omega
   obtain ⟨i,hi,hx,hy,hpr⟩:=hf.find hp (a:=j) (by omega) (by omega)
   rw [hpr,zc6]
   constructor
   · intro h9
     obtain ⟨i',hi',hx'⟩:=h3 j hj h9
     have:=hf.lt i' hi'
     have hpr':=hf.proc (a:=j) hi' (by omega) (by omega)
     have:i'=i:=by omega
     subst this
     omega
   intro h9
   have:=he i hi
   rwa [show (zcB c i-1).toNat=j by omega] at this
 intro h
 have hf:=h.f hp
 have hlen:=hf.len
 have h4:=h.2.2.2
 have he:∀ i,i<c.entry.length→(zaj c (zcB c i-1).toNat).op=9:=fun i hi=>by
   have h1:=hf.lt i hi
   have h0:=hf.nonneg hi
   have:=(h4 (zcB c i-1).toNat (by omega)).2
   refine this ?_
   rw [hf.proc (i:=i) hi (by omega) (by omega),zc6]
   omega
 obtain ⟨_,h2⟩:=zfq hf he c.entry.length (Nat.le_refl _)
 have hb:eb c c.entry.length=c.ins.length:=by
   have:=hf.eb_succ (n:=c.entry.length-1) (by omega)
   rw [hf.last (by omega),show c.entry.length-1+1=c.entry.length by omega] at this
   omega
 rw [hb] at h2
 refine ⟨hf.ins,hf.len,hf.zero,h2.2 fun j hj h9=>?_,fun i hi=>⟨(hf.lt i hi).1,(hf.lt i hi).2,he i hi⟩⟩
 obtain ⟨i,hi,hx,hy,hpr⟩:=hf.find hp (a:=j) (by omega) (by omega)
 have:=(h4 j hj).1 h9
 rw [hpr,zc6] at this
 exact ⟨i,hi,by omega⟩
theorem zi2 {c:DCode} (hn:NamesR c) (he:EntI c):CodeR c↔∀ i,i<c.entry.length→∀ j:Nat,en c i≤j→(j:Int)<zcB c i→zeE c (zaj c j) (en c i) (zcB c i):=by
 have hf:=he.f
 have hp:=hn.procs8.2
 constructor
 · intro h i hi j h1 h2
   have h3:=hf.lt i hi
   have:=h.2.2 j (by omega)
   rw [hf.proc hi h1 h2,zc6,Int.toNat_natCast] at this
   rwa [Int.sub_add_cancel] at this
 intro h
 refine ⟨hn,(zmK hp).1 he,fun j hj=>?_⟩
 obtain ⟨i,hi,hx,hy,hpr⟩:=hf.find hp (a:=j) (by omega) (by omega)
 rw [hpr,zc6,Int.toNat_natCast,Int.sub_add_cancel]
 exact h i hi j hx hy
def F77 (a0:Value) (w:World) (R:VW):Prop:=
 oP (Instr.box 32 a0) w fun x1 w=>
 rL 32 x1 w fun x8=>
 cL 132 [x8] w fun x9 w=>
 rD (Op.unary .not x9) w fun x10=>
 BR x10
 (R (Value.bool false) w)
 (rL 32 x1 w fun x12=>
 cL 133 [x12] w fun x13 w=>
 rD (Op.unary .not x13) w fun x14=>
 BR x14
 (R (Value.bool false) w)
 (rF 32 x1 3 w fun x16=>
 rL 23 x16 w fun x17=>
 rN 23 3 x17 w fun x18=>
 LOOPI [19] [(iV 0)] w fun u4 w next4=>
 rC (u4 19) x18 w fun x20=>
 BR x20
 (rX 23 x17 (u4 19) w fun x22=>
 rL 3 x22 w fun x23=>
 rL 32 x1 w fun x24=>
 cL 134 [x24,(u4 19)] w fun x26 w=>
 rF 32 x1 4 w fun x27=>
 rL 30 x27 w fun x28=>
 rD (Instr.sliceAt 30 x28 (some x23) (some x26) none) w fun x31=>
 rN 30 3 x31 w fun x32=>
 LOOPI [33] [(iV 0)] w fun u8 w next8=>
 rC (u8 33) x32 w fun x34=>
 BR x34
 (rX 30 x31 (u8 33) w fun x35=>
 rL 111 x35 w fun x36=>
 oP (Instr.alloc 111 true (.tuple #[])) w fun x7 w=>
 oS 111 x7 x36 w fun w=>
 rL 32 x1 w fun x37=>
 rL 111 x7 w fun x38=>
 cL 135 [x37,x38,x23,x26] w fun x41 w=>
 rD (Op.unary .not x41) w fun x42=>
 BR x42
 (R (Value.bool false) w)
 (rA (u8 33) (iV 1) w fun x43=>
 next8 [x43] w))
 (rA (u4 19) (iV 1) w fun x44=>
 next4 [x44] w))
 (R (Value.bool true) w)))
def cfg77:Cfg:=⟨extL,[],[(4,35184371564732,[19]),(8,17583596109956,[33])],[],[],[],[]⟩
theorem F77_call {a0:Value} {w:World} {R:VW} (h:F77 a0 w R):cL 77 [a0] w R:=co (g:=cfg77) Tryz.func77 (by kernel_rfl) (by kernel_rfl) (by kernel_rfl) h
theorem zh5 {w:World} {v0:Value} {W0:World} {c:DCode}  (h0:Is W0 v0 c) (e0:Ext W0 w)  :
   CALL Tryz.prog 77 [v0] w fun r w'=>Ext w w'∧(r=.bool (decide (CodeR c))):=by
 refine F77_call ?_
 unfold F77
 refine zax zdh rfl h0 e0 fun w1_ hx1_ hA1 hV1=>?_
 refine zbd hV1 (Ext.refl w1_) ?_
 refine (zh3 h0 (e0.trans hx1_)).mono ?_
 rintro _ w2_ ⟨hx2_,rfl⟩
 refine zar ?_
 refine br (fun c1=>?_) (fun c1=>?_)
 · refine ⟨(hx1_.trans hx2_),?_⟩
   have:¬CodeR c:=fun h=>c1 h.1
   simp only [this,decide_false]
 refine zbd hV1 hx2_ ?_
 refine (zgx h0 (e0.trans (hx1_.trans hx2_)) (Decidable.not_not.1 c1).procs8.2).mono ?_
 rintro _ w3_ ⟨hx3_,rfl⟩
 refine zar ?_
 refine br (fun c2=>?_) (fun c2=>?_)
 · refine ⟨(hx1_.trans (hx2_.trans hx3_)),?_⟩
   have:¬CodeR c:=fun h=>c2 ((zmK h.1.procs8.2).2 h.2.1)
   simp only [this,decide_false]
 refine zaa zaO ?_
 refine zab zbv (zal hA1) (hx2_.trans hx3_) fun v17 h17=>?_
 have hln18:=zai h17
 refine zae u23 h17 ?_
 refine zaq (c.entry.length) (fun q us w'=>us=[.int .i64 (q:Int)]∧Ext w3_ w'∧(∀ i,i<q→∀ j:Nat,en c i≤j→(j:Int)<zcB c i→zeE c (zaj c j) (en c i) (zcB c i))) (0) (by omega) ⟨by simp,Ext.refl w3_,fun i h=>by omega⟩ ?_
 rintro q m4 uu4 w4_ hk4 ⟨hu,hx4_,hent⟩
 simp only [List.map_cons,List.map_nil,List.cons.injEq,and_true] at hu
 try rw [hu]
 try clear hu
 replace c1:=Decidable.not_not.1 c1;replace c2:=Decidable.not_not.1 c2;have hln4:=zai h17
 refine zah ?_
 refine br (fun c3=>?_) (fun c3=>?_)
 · refine zac u23 ty3 h17 (by omega) fun b22 o22 h22=>?_
   refine zad ty3 h22 (hx2_.trans (hx3_.trans hx4_)) fun hI23=>?_
   rw [zbf]
   have h8:=c1.procs8
   have hlq:=c2.f.lt q (by omega)
   have hnq:=c2.f.nonneg (i:=q) (by omega)
   have hlen:=c2.f.len
   refine zbd hV1 (hx2_.trans (hx3_.trans hx4_)) ?_
   refine (zc7 h0 (e0.trans (hx1_.trans (hx2_.trans (hx3_.trans hx4_)))) (by omega)).mono ?_
   rintro _ w5_ ⟨hx5_,rfl⟩
   refine zaa zaK ?_
   refine zab zdn (zak hA1) (hx2_.trans (hx3_.trans (hx4_.trans hx5_))) fun v28 h28=>?_
   refine zhK u30 zaR h28 (by omega) (by omega) (by omega) fun v31 h31=>?_
   have hln32:=zai h31
   refine zae u30 h31 ?_
   refine zaq ((zcB c q).toNat-(en c q).toNat) (fun k us w'=>us=[.int .i64 (k:Int)]∧Ext w5_ w'∧(∀ j:Nat,en c q≤j→(j:Int)<en c q+k→zeE c (zaj c j) (en c q) (zcB c q))) (0) (by omega) ⟨by simp,Ext.refl w5_,fun j h1 h2=>by omega⟩ ?_
   rintro k m8 uu8 w6_ hk8 ⟨hu,hx6_,hinv⟩
   simp only [List.map_cons,List.map_nil,List.cons.injEq,and_true] at hu
   try rw [hu]
   try clear hu
   have hl31:((c.ins.take (zcB c q).toNat).drop (en c q).toNat).length=(zcB c q).toNat-(en c q).toNat:=by rw [List.length_drop,List.length_take];omega
   refine zah ?_
   refine br (fun c4=>?_) (fun c4=>?_)
   · refine zac u30 zaR h31 (by omega) fun b35 o35 h35=>?_
     refine zab zaR h35 (hx2_.trans (hx3_.trans (hx4_.trans (hx5_.trans hx6_)))) fun v36 h36=>?_
     rw [List.getElem_drop,List.getElem_take,zaS] at h36
     refine zct zfD rfl zaR rfl h36 (hx2_.trans (hx3_.trans (hx4_.trans (hx5_.trans hx6_)))) fun w7_ hx7_ hA7 hV7=>?_
     refine zbd hV1 (hx2_.trans (hx3_.trans (hx4_.trans (hx5_.trans (hx6_.trans hx7_))))) ?_
     refine zbd hV7 (Ext.refl w7_) ?_
     refine (zj4 h0 (e0.trans (hx1_.trans (hx2_.trans (hx3_.trans (hx4_.trans (hx5_.trans (hx6_.trans hx7_))))))) h36 (hx2_.trans (hx3_.trans (hx4_.trans (hx5_.trans (hx6_.trans hx7_)))))).mono ?_
     rintro _ w8_ ⟨hx8_,rfl⟩
     refine zar ?_
     refine br (fun c5=>?_) (fun c5=>?_)
     · refine ⟨(hx1_.trans (hx2_.trans (hx3_.trans (hx4_.trans (hx5_.trans (hx6_.trans (hx7_.trans hx8_))))))),?_⟩
       have:¬CodeR c:=fun h=>c5 ((zi2 c1 c2).1 h q (by omega) _ (by omega) (by omega))
       simp only [this,decide_false]
     refine zaf (by omega) ?_
     refine ⟨m8-1,by omega,k+1,by omega,by simp,(hx6_.trans (hx7_.trans hx8_)),?_⟩
     intro j h1 h2
     by_cases hj:j=(en c q).toNat+k
     · subst hj;exact Decidable.not_not.1 c5
     exact hinv j h1 (by omega)
   refine zaf (by omega) ?_
   refine ⟨m4-1,by omega,q+1,by omega,by simp,(hx4_.trans (hx5_.trans hx6_)),?_⟩
   intro i hi j h1 h2
   by_cases hiq:i=q
   · subst hiq;exact hinv j h1 (by omega)
   exact hent i (by omega) j h1 h2
 refine ⟨(hx1_.trans (hx2_.trans (hx3_.trans hx4_))),?_⟩
 have:CodeR c:=(zi2 c1 c2).2 fun i hi=>hent i (by omega)
 simp only [this,decide_true]
theorem CodeR.f {c:DCode} (h:CodeR c):EntF c:=h.2.1.f h.1.procs8.2
def st (l:List Int) (i:Nat):Int:=l.getD i 0
def zmL (c:DCode) (l:List Int):Prop:=l.length≤8∧(∀ i,i<l.length→0≤st l i∧st l i<c.ins.length) ∧
 ∀ i,i<l.length-1→(zaj c (st l i).toNat).op=4∧zaC c (st l (i+1))=(zaj c (st l i).toNat).arg
instance (c:DCode) (l:List Int):Decidable (zmL c l):=by unfold zmL;infer_instance
def zmM (c:DCode) (s:DState):Prop:=s.vars.length=c.globals.length∧s.owner.length=c.locks.length∧(1≤s.stacks.length∧s.stacks.length≤6)∧(∀ v∈s.vars,0≤v∧v≤999) ∧
 (∀ o∈s.owner,-1≤o∧o<s.stacks.length)∧∀ l∈s.stacks,zmL c l
instance (c:DCode) (s:DState):Decidable (zmM c s):=by unfold zmM;infer_instance
def zoW (s:DState):Prop:=∀ x∈s.stacks,x=[]
instance (s:DState):Decidable (zoW s):=inferInstanceAs (Decidable (∀ x∈s.stacks,x=[]))
def ow (s:DState) (i:Int):Int:=s.owner.getD i.toNat 0
def stk (s:DState) (t:Int):List Int:=s.stacks.getD t.toNat []
def atI (c:DCode) (s:DState) (t:Int):DIns:=zaj c (zqW s t).toNat
theorem ze6 {c:DCode} (hc:CodeR c) {j:Nat} (hj:j<c.ins.length):zeE c (zaj c j) (en c (zaC c j).toNat) (zdD c (zaC c j)+1):=hc.2.2 j hj
theorem zoa {c:DCode} (hc:CodeR c) {j:Nat} (hj:j<c.ins.length) (h:(zaj c j).op=6∨(zaj c j).op=7):0≤(zaj c j).arg∧(zaj c j).arg<c.locks.length:=by
 have:=(ze6 hc hj).2.1
 unfold zbG at this
 rwa [if_neg (by omega),if_neg (by omega),if_pos h] at this
theorem NamesR.locks6 {c:DCode} (h:NamesR c):c.locks.length≤6:=by
 have h1:=h.2.1
 simp only [Bool.and_eq_true,decide_eq_true_eq] at h1
 omega
def GoR (c:DCode) (s:DState) (t:Int):Prop:=0≤zqW s t∧((atI c s t).op=6→ow s (atI c s t).arg=-1)∧((atI c s t).op=4→((stk s t).length:Int)<8)
instance (c:DCode) (s:DState) (t:Int):Decidable (GoR c s t):=by unfold GoR;infer_instance
def zj5 (c:DCode) (s:DState):Nat→List Int
 | 0=>[]
 | k+1=>if GoR c s k then zj5 c s k++[(k:Int)] else zj5 c s k
def zql (c:DCode) (s:DState):List Int:=zj5 c s s.stacks.length
def zi3 (c:DCode) (s:DState):Prop:=(CodeR c∧zmM c s)∧¬zoW s∧zql c s=[]
instance (c:DCode) (s:DState):Decidable (zi3 c s):=by unfold zi3;infer_instance
end Go.Proofs.YtifonhplnmpgaaaGreat
namespace Go.Sh
open Rep (rep)
abbrev RInts:=RV Int 3
abbrev RIntss:=RV RInts 23
structure DStV where
 vars:List Int
 owner:List Int
 stacks:RIntss
theorem DStV.ext_iff {x y:DStV}:x=y↔(x.vars=y.vars∧x.owner=y.owner∧x.stacks=y.stacks):=⟨fun h=>by rw [h];exact ⟨rfl,rfl,rfl⟩,fun h=>by obtain ⟨h0,h1,h2⟩:=h;cases x;cases y;simp only at h0 h1 h2;simp only [h0,h1,h2]⟩
instance:Rep DStV:=Rep.via fun x=>(x.vars,x.owner,x.stacks)
instance:RepZ DStV:=⟨⟨(RepZ.zv:List Int),(RepZ.zv:List Int),(RepZ.zv:RIntss)⟩,RepZ.zc ((List Int)×(List Int)×RIntss),fun w=>RepZ.zr (α:=(List Int)×(List Int)×RIntss) w⟩
section
variable {w:World}
end
end Go.Sh
namespace Go.Proofs.YtifonhplnmpgaaaGreat
open Go Go.Sh Go.Proofs
open Rep (rep)
theorem zpv {c:DCode} (hc:CodeR c):0≤plc zg0 c.procs∧(plc zg0 c.procs).toNat<c.entry.length:=by
 have h1:=zdW.2 hc.1.2.2.2.2.2.2
 have h2:=zqj (s:=zg0) (l:=c.procs)
 have h3:=hc.2.1.1
 omega
def F211 (a0:Value) (w:World) (R:VW):Prop:=
 oP (Instr.box 32 a0) w fun x1 w=>
 rF 32 x1 2 w fun x3=>
 rL 22 x3 w fun x4=>
 cL 123 [x4,(Value.string (ByteArray.mk #[109,97,105,110]))] w fun x5 w=>
 R x5 w
def cfg211:Cfg:=⟨extL,[],[],[],[],[],[]⟩
theorem F211_call {a0:Value} {w:World} {R:VW} (h:F211 a0 w R):cL 211 [a0] w R:=co (g:=cfg211) Tryz.func211 (by kernel_rfl) (by kernel_rfl) (by kernel_rfl) h
theorem zhi {w:World} {v0:Value} {W0:World} {c:DCode}  (h0:Is W0 v0 c) (e0:Ext W0 w)  :
   CALL Tryz.prog 211 [v0] w fun r w'=>Ext w w'∧(r=.int .i64 (plc zg0 c.procs)):=by
 refine F211_call ?_
 unfold F211
 refine zax zdh rfl h0 e0 fun w1_ hx1_ hA1 hV1=>?_
 refine zaa zbS ?_
 refine zab zb1 (zaw hA1) (Ext.refl w1_) fun v4 h4=>?_
 refine (zcq h4 (Ext.refl w1_)).mono ?_
 rintro _ w2_ ⟨hx2_,rfl⟩
 refine ⟨(hx1_.trans hx2_),?_⟩
 rfl
theorem zmN {α:Type} {l:List α} {i:Nat} {x y:α} (h:y∈l.set i x):y=x∨y∈l:=by
 rcases List.mem_or_eq_of_mem_set h with h | h
 · exact .inr h
 exact .inl h
theorem zmO {c:DCode} (hc:CodeR c) {a:Int} (h0:0≤a) (h1:a<c.ins.length) (ho:(zaj c a.toNat).op≠9):a+1<c.ins.length∧zaC c (a+1)=zaC c a:=by
 obtain ⟨i,hi,h2,h3,h4⟩:=hc.f.find hc.1.procs8.2 h0 h1
 have h5:=(hc.2.1.2.2.2 a.toNat (by omega))
 rw [Int.toNat_of_nonneg h0,h4,zc6] at h5
 have h6:zcB c i-1≠a:=fun e=>ho (h5.2 e)
 have h7:=(hc.f.lt i hi).2
 exact ⟨by omega,by rw [h4];exact hc.f.proc hi (by omega) (by omega)⟩
theorem zj6 {c:DCode} (hc:CodeR c) {a:Int} (h0:0≤a) (h1:a<c.ins.length) (ho:(zaj c a.toNat).op=2∨(zaj c a.toNat).op=3) :
   0≤(zaj c a.toNat).to∧(zaj c a.toNat).to<c.ins.length∧zaC c (zaj c a.toNat).to=zaC c a:=by
 obtain ⟨i,hi,h2,h3,h4⟩:=hc.f.find hc.1.procs8.2 h0 h1
 have h5:=(ze6 hc (j:=a.toNat) (by omega)).2.2.2
 rw [if_pos ho,Int.toNat_of_nonneg h0,h4,zc6,Int.toNat_natCast] at h5
 have h6:=hc.f.nonneg hi
 have h7:=(hc.f.lt i hi).2
 exact ⟨by omega,by omega,by rw [h4];exact hc.f.proc hi h5.1 (by omega)⟩
theorem zmP {c:DCode} (hc:CodeR c) {i:Nat} (hi:i<c.entry.length):0≤en c i∧en c i<c.ins.length∧zaC c (en c i)=i:=by
 have h6:=hc.f.nonneg hi
 have h7:=hc.f.lt i hi
 exact ⟨h6,by omega,hc.f.proc hi (Int.le_refl _) h7.1⟩
def F136 (a0 a1:Value) (w:World) (R:VW):Prop:=
 NIL a0 <|
 rF 114 a0 0 w fun x8=>
 rF 32 x8 4 w fun x9=>
 rL 30 x9 w fun x10=>
 rX 30 x10 a1 w fun x12=>
 rL 111 x12 w fun x13=>
 oP (Instr.alloc 111 true (.tuple #[])) w fun x5 w=>
 oS 111 x5 x13 w fun w=>
 rF 111 x5 0 w fun x14=>
 rL 3 x14 w fun x15=>
 rB .eql 3 T0 U0 x15 (iV 9) w fun x17=>
 BR x17
 (R (Value.slice none 0 0) w)
 (rB .eql 3 T0 U0 x15 (iV 3) w fun x19=>
 BR x19
 (rF 111 x5 3 w fun x20=>
 rL 3 x20 w fun x21=>
 oP (Instr.buildSlice 23 1 #[(0,x21)]) w fun x22 w=>
 R x22 w)
 (rB .eql 3 T0 U0 x15 (iV 2) w fun x24=>
 BR x24
 (rF 111 x5 3 w fun x25=>
 rL 3 x25 w fun x26=>
 rA a1 (iV 1) w fun x28=>
 rB .neq 3 T0 T0 x26 x28 w fun x29=>
 BR x29
 (rA a1 (iV 1) w fun x31=>
 rF 111 x5 3 w fun x32=>
 rL 3 x32 w fun x33=>
 oP (Instr.buildSlice 23 2 #[(0,x31),(1,x33)]) w fun x34 w=>
 R x34 w)
 (rA a1 (iV 1) w fun x36=>
 oP (Instr.buildSlice 23 1 #[(0,x36)]) w fun x37 w=>
 R x37 w))
 (rA a1 (iV 1) w fun x36=>
 oP (Instr.buildSlice 23 1 #[(0,x36)]) w fun x37 w=>
 R x37 w)))
def cfg136:Cfg:=⟨extL,[],[],[],[],[],[]⟩
theorem F136_call {a0 a1:Value} {w:World} {R:VW} (h:F136 a0 a1 w R):cL 136 [a0,a1] w R:=co (g:=cfg136) Tryz.func136 (by kernel_rfl) (by kernel_rfl) (by kernel_rfl) h
def F179 (a0 a1:Value) (w:World) (R:VW):Prop:=
 oP (Instr.box 32 a0) w fun x2 w=>
 rF 32 x2 4 w fun x6=>
 rL 30 x6 w fun x7=>
 rX 30 x7 a1 w fun x9=>
 rL 111 x9 w fun x10=>
 oP (Instr.alloc 111 true (.tuple #[])) w fun x5 w=>
 oS 111 x5 x10 w fun w=>
 rF 111 x5 0 w fun x11=>
 rL 3 x11 w fun x12=>
 rB .eql 3 T0 U0 x12 (iV 2) w fun x14=>
 BR x14
 (rF 111 x5 3 w fun x15=>
 rL 3 x15 w fun x16=>
 rA a1 (iV 1) w fun x18=>
 rB .eql 3 T0 T0 x16 x18 w fun x19=>
 BR x19
 (rA a1 (iV 1) w fun x21=>
 oP (Instr.buildSlice 23 1 #[(0,x21)]) w fun x22 w=>
 R x22 w)
 (rA a1 (iV 1) w fun x24=>
 rF 111 x5 3 w fun x25=>
 rL 3 x25 w fun x26=>
 oP (Instr.buildSlice 23 2 #[(0,x24),(1,x26)]) w fun x27 w=>
 R x27 w))
 (rB .eql 3 T0 U0 x12 (iV 3) w fun x29=>
 BR x29
 (rF 111 x5 3 w fun x30=>
 rL 3 x30 w fun x31=>
 oP (Instr.buildSlice 23 1 #[(0,x31)]) w fun x32 w=>
 R x32 w)
 (rB .eql 3 T0 U0 x12 (iV 9) w fun x34=>
 BR x34
 (oP (Instr.buildSlice 23 0 #[]) w fun x35 w=>
 R x35 w)
 (rA a1 (iV 1) w fun x37=>
 oP (Instr.buildSlice 23 1 #[(0,x37)]) w fun x38 w=>
 R x38 w)))
def cfg179:Cfg:=⟨extL,[],[],[],[],[],[]⟩
theorem F179_call {a0 a1:Value} {w:World} {R:VW} (h:F179 a0 a1 w R):cL 179 [a0,a1] w R:=co (g:=cfg179) Tryz.func179 (by kernel_rfl) (by kernel_rfl) (by kernel_rfl) h
def zaz (c:DCode) (i:Nat):List Nat:=
 if (zaj c i).op=9 then [] else if (zaj c i).op=3 then [(zaj c i).to.toNat] else if (zaj c i).op=2∧(zaj c i).to≠(i:Int)+1 then [i+1,(zaj c i).to.toNat] else [i+1]
theorem zcF {c:DCode} (hc:CodeR c) {i j:Nat} (hi:i<c.ins.length) (h:j∈zaz c i):j<c.ins.length∧zaC c j=zaC c i:=by
 have h9:=zmO hc (a:=(i:Int)) (by omega) (by omega)
 have hto:=zj6 hc (a:=(i:Int)) (by omega) (by omega)
 simp only [Int.toNat_natCast] at h9 hto
 unfold zaz at h
 split at h
 · cases h
 rename_i ho
 have h1:=h9 ho
 have e1:((i+1:Nat):Int)=(i:Int)+1:=by omega
 split at h
 · rename_i h3
   simp only [List.mem_cons,List.not_mem_nil,or_false] at h
   subst h
   have h2:=hto (.inr h3)
   rw [Int.toNat_of_nonneg h2.1]
   exact ⟨by omega,h2.2.2⟩
 split at h
 · rename_i h2
   simp only [List.mem_cons,List.not_mem_nil,or_false] at h
   rcases h with rfl | rfl
   · exact ⟨by omega,by rw [e1];exact h1.2⟩
   have h2:=hto (.inl h2.1)
   rw [Int.toNat_of_nonneg h2.1]
   exact ⟨by omega,h2.2.2⟩
 simp only [List.mem_cons,List.not_mem_nil,or_false] at h
 subst h
 exact ⟨by omega,by rw [e1];exact h1.2⟩
theorem zd0 (c:DCode) (i:Nat):(zaz c i).length≤2:=by
 unfold zaz
 split
 · simp
 split
 · simp
 split<;>simp
section
variable {P:Program} {w:World} {K:Value→World→Prop}
def vsI (l:List Int):List Value:=l.map fun x=>.int .i64 x
theorem zi4 {w:World}:∀ {l:List Int},(∀ x∈l,I64 x)→Cells [] w (vsI l) l
 | [],_=>⟨rfl,rfl⟩
 | x :: l,h=>⟨[],[],[.int .i64 x],vsI l,rfl,rfl,⟨rfl,rfl,h x (by simp)⟩,zi4 fun y hy=>h y (by simp [hy])⟩
theorem zpw {l:List Int} {e:Nat} (hl:∀ x∈l,I64 x) (hm:l.length≤maxLen):Own w.heap.size (w.alloc (.cells (vsI l).toArray e)) (.slice (some ⟨w.heap.size,0,none⟩) l.length l.length) l:=by
 have hB:Blk w.heap.size e (w.alloc (.cells (vsI l).toArray e)) (vsI l):=heap_alloc_new w _
 refine ⟨[w.heap.size],⟨⟨_,⟨some ⟨w.heap.size,0,none⟩,l.length,[],vsI l,rfl,Nat.le_refl _,hm,zi4 hl,.inr ⟨_,_,rfl,rfl,hB.range,?_⟩⟩,rfl⟩,by simp,fun i hi=>?_⟩,by simp⟩
 · exact (Array.getElem?_eq_some_iff.1 hB).1
 simp only [List.mem_cons,List.not_mem_nil,or_false] at hi
 subst hi
 exact ⟨_,_,hB⟩
theorem zhj {t e:TypeId} {by_:Nat} {x y:Int} (ht:P.underlying t=some (.slice e)) (he:tyI P e=some (1,by_,false)) (hz:zcj P e=some [.int .i64 0]) (hx:I64 x) (hy:I64 y)
   (k:∀ v w',Ext w w'→Own w.heap.size w' v [x,y]→K v w'):OP P (Instr.buildSlice t 2 #[(0,.int .i64 x),(1,.int .i64 y)]) w K:=by
 unfold zcj at hz
 cases hi:P.info? e with
 | none=>simp [hi] at hz
 | some i=>
   simp only [hi] at hz
   obtain ⟨v,hv,hvc⟩:=Option.map_eq_some_iff.1 hz
   refine ⟨_,w.alloc (.cells (vsI [x,y]).toArray e),?_,k _ _ (zay w _) (zpw (l:=[x,y]) (e:=e) (by simp [hx,hy]) (by simp [maxLen]))⟩
   have hvc':v.cells=#[.int .i64 0]:=Array.ext' (by simpa using hvc)
   have e1:∀ n:Int,(Value.int .i64 n).cells=#[.int .i64 n]:=fun _=>rfl
   simp only [Instr.buildSlice,Sem.run_bind,run_underlying ht,Result.andThen_ok,zaN he]
   have e2:Array.range 2=#[0,1]:=by decide
   simp [zeroValue,typeInfo,hi,hv,newRow,Instr.fill,hvc',vsI,e1,e2]
end
theorem zqL:zcj Tryz.prog 3=some [.int .i64 0]:=by kernel_rfl
theorem zgy {w W0:World} {b:Nat} {c:DCode} {i:Nat} (hA:At W0 b 0 c) (e0:Ext W0 w) (hc:CodeR c) (hi:i<c.ins.length) :
   CALL Tryz.prog 136 [.pointer (some ⟨b,0,none⟩),.int .i64 (i:Int)] w fun r w'=>Ext w w'∧Own w.heap.size w' r (zaF (zaz c i)):=by
 refine F136_call ?_
 unfold F136
 have hil:=hc.f.ins
 have hto:=zj6 hc (a:=(i:Int)) (by omega) (by omega)
 simp only [Int.toNat_natCast] at hto
 refine NIL.mk rfl ?_
 refine zaa zbO ?_
 refine zaa zaK ?_
 refine zab zdn (zak hA) e0 fun v10 h10=>?_
 refine zac u30 zaR h10 hi fun b12 o12 h12=>?_
 rw [zaS] at h12
 have hnx:zaz c i=if (zaj c i).op=9 then [] else if (zaj c i).op=3 then [(zaj c i).to.toNat] else if (zaj c i).op=2∧(zaj c i).to≠(i:Int)+1 then [i+1,(zaj c i).to.toNat] else [i+1]:=rfl
 generalize zaj c i=I at *
 refine zab zaR h12 e0 fun v13 h13=>?_
 refine zct zfD rfl zaR rfl h13 e0 fun w1 hx1 hA5 hV5=>?_
 refine zaa zaL ?_
 refine zad ty3 (zat hA5) (Ext.refl _) fun _=>?_
 refine zao ?_
 refine br (fun c9=>?_) (fun c9=>?_)
 · rw [hnx,if_pos c9]
   exact ⟨hx1,zjJ rfl⟩
 rw [if_neg c9] at hnx
 refine zao ?_
 refine br (fun c3=>?_) (fun c3=>?_)
 · rw [if_pos c3] at hnx
   have ht:=hto (.inr c3)
   refine zaa zbN ?_
   refine zad ty3 (za4 hA5) (Ext.refl _) fun hI=>?_
   refine zbB (x:=I.to) u23 ty3 z3 (by decide) (za6 hI) fun v w2 hx2 hr=>?_
   refine ⟨hx1.trans hx2,?_⟩
   rw [hnx]
   have e:zaF [I.to.toNat]=[I.to]:=by simp [zaF,Int.toNat_of_nonneg ht.1]
   rw [e]
   have:=hx1.size
   exact hr.own.own.mono (by omega)
 rw [if_neg c3] at hnx
 have e1:zaF [i+1]=[((i+1:Nat):Int)]:=by simp [zaF]
 refine zao ?_
 refine br (fun c2=>?_) (fun c2=>?_)
 · have ht:=hto (.inl c2)
   refine zaa zbN ?_
   refine zad ty3 (za4 hA5) (Ext.refl _) fun hI=>?_
   refine zaf (by omega) ?_
   refine zaI ?_
   refine br (fun cn=>?_) (fun cn=>?_)
   · rw [if_pos ⟨c2,by omega⟩] at hnx
     refine zaf (by omega) ?_
     refine zaa zbN ?_
     refine zad ty3 (za4 hA5) (Ext.refl _) fun _=>?_
     refine zhj u23 ty3 zqL (by unfold I64;omega) hI fun v w2 hx2 hr=>?_
     refine ⟨hx1.trans hx2,?_⟩
     have e:zaF [i+1,I.to.toNat]=[((i+1:Nat):Int),I.to]:=by simp [zaF,Int.toNat_of_nonneg ht.1]
     rw [hnx,e]
     have:=hx1.size
     exact hr.mono (by omega)
   rw [if_neg (fun h=>cn (by have:=h.2;omega))] at hnx
   refine zaf (by omega) ?_
   refine zbB (x:=((i+1:Nat):Int)) u23 ty3 z3 (by decide) (za6 (by unfold I64;omega)) fun v w2 hx2 hr=>?_
   refine ⟨hx1.trans hx2,?_⟩
   rw [hnx,e1]
   have:=hx1.size
   exact hr.own.own.mono (by omega)
 rw [if_neg (fun h=>c2 h.1)] at hnx
 refine zaf (by omega) ?_
 refine zbB (x:=((i+1:Nat):Int)) u23 ty3 z3 (by decide) (za6 (by unfold I64;omega)) fun v w2 hx2 hr=>?_
 refine ⟨hx1.trans hx2,?_⟩
 rw [hnx,e1]
 have:=hx1.size
 exact hr.own.own.mono (by omega)
theorem zhk {w W0:World} {v0:Value} {c:DCode} {i:Nat} (h0:Is W0 v0 c) (e0:Ext W0 w) (hc:CodeR c) (hi:i<c.ins.length) :
   CALL Tryz.prog 179 [v0,.int .i64 (i:Int)] w fun r w'=>Ext w w'∧Own w.heap.size w' r (zaF (zaz c i)):=by
 refine F179_call ?_
 unfold F179
 have hil:=hc.f.ins
 have hto:=zj6 hc (a:=(i:Int)) (by omega) (by omega)
 simp only [Int.toNat_natCast] at hto
 refine zdm h0 e0 fun w0 hx0 hA=>?_
 refine zaa zaK ?_
 refine zab zdn (zak hA) (Ext.refl _) fun v10 h10=>?_
 refine zac u30 zaR h10 hi fun b12 o12 h12=>?_
 rw [zaS] at h12
 have hnx:zaz c i=if (zaj c i).op=9 then [] else if (zaj c i).op=3 then [(zaj c i).to.toNat] else if (zaj c i).op=2∧(zaj c i).to≠(i:Int)+1 then [i+1,(zaj c i).to.toNat] else [i+1]:=rfl
 generalize zaj c i=I at *
 refine zab zaR h12 (Ext.refl _) fun v13 h13=>?_
 refine zct zfD rfl zaR rfl h13 (Ext.refl _) fun w1 hx1 hA5 hV5=>?_
 have hs0:=hx0.size
 have hs1:=hx1.size
 have hx01:=hx0.trans hx1
 have e1:zaF [i+1]=[((i+1:Nat):Int)]:=by simp [zaF]
 refine zaa zaL ?_
 refine zad ty3 (zat hA5) (Ext.refl _) fun _=>?_
 refine zao ?_
 refine br (fun c2=>?_) (fun c2=>?_)
 · have ht:=hto (.inl c2)
   rw [if_neg (by omega),if_neg (by omega)] at hnx
   refine zaa zbN ?_
   refine zad ty3 (za4 hA5) (Ext.refl _) fun hI=>?_
   refine zaf (by omega) ?_
   refine zao ?_
   refine br (fun cn=>?_) (fun cn=>?_)
   · rw [if_neg (fun h=>h.2 (by omega))] at hnx
     refine zaf (by omega) ?_
     refine zbB (x:=((i+1:Nat):Int)) u23 ty3 z3 (by decide) (za6 (by unfold I64;omega)) fun v w2 hx2 hr=>?_
     refine ⟨hx01.trans hx2,?_⟩
     rw [hnx,e1]
     exact hr.own.own.mono (by omega)
   rw [if_pos ⟨c2,by omega⟩] at hnx
   refine zaf (by omega) ?_
   refine zaa zbN ?_
   refine zad ty3 (za4 hA5) (Ext.refl _) fun _=>?_
   refine zhj u23 ty3 zqL (by unfold I64;omega) hI fun v w2 hx2 hr=>?_
   refine ⟨hx01.trans hx2,?_⟩
   have e:zaF [i+1,I.to.toNat]=[((i+1:Nat):Int),I.to]:=by simp [zaF,Int.toNat_of_nonneg ht.1]
   rw [hnx,e]
   exact hr.mono (by omega)
 refine zao ?_
 refine br (fun c3=>?_) (fun c3=>?_)
 · rw [if_neg (by omega),if_pos c3] at hnx
   have ht:=hto (.inr c3)
   refine zaa zbN ?_
   refine zad ty3 (za4 hA5) (Ext.refl _) fun hI=>?_
   refine zbB (x:=I.to) u23 ty3 z3 (by decide) (za6 hI) fun v w2 hx2 hr=>?_
   refine ⟨hx01.trans hx2,?_⟩
   rw [hnx]
   have e:zaF [I.to.toNat]=[I.to]:=by simp [zaF,Int.toNat_of_nonneg ht.1]
   rw [e]
   exact hr.own.own.mono (by omega)
 refine zao ?_
 refine br (fun c9=>?_) (fun c9=>?_)
 · rw [if_pos c9] at hnx
   rw [hnx]
   refine zbA (α:=Int) u23 ty3 fun a w2 hx2 hr=>?_
   have hs2:=hx2.size
   exact ⟨hx01.trans hx2,hr.own.own.mono (by omega)⟩
 rw [if_neg c9,if_neg c3,if_neg (fun h=>c2 h.1)] at hnx
 refine zaf (by omega) ?_
 refine zbB (x:=((i+1:Nat):Int)) u23 ty3 z3 (by decide) (za6 (by unfold I64;omega)) fun v w2 hx2 hr=>?_
 refine ⟨hx01.trans hx2,?_⟩
 rw [hnx,e1]
 exact hr.own.own.mono (by omega)
end Go.Proofs.YtifonhplnmpgaaaGreat
namespace Go.Sh
open Rep (rep)
section
variable {P:Program} {w w0 w':World} {α:Type} [Rep α] {lo hi e:Nat} {v:Value} {l:List α}
theorem RowG.flat [Flat α] {F:List Nat} (h:RowG F e w v l):F=[]∨∃ b,F=[b]:=by
 rcases h with ⟨_,_,_,rfl⟩ | ⟨xs,Fi,_,hc,rfl,_⟩
 · exact .inl rfl
 have:=Cells.flat (xs:=xs) hc
 subst this
 rcases hv:v.ownBlock with _ | b
 · exact .inl (by simp)
 exact .inr ⟨b,by simp⟩
theorem Chg.ofI {F:List Nat} (h:Chg F w w') (hF:∀ b∈F,lo≤b∧b<hi):ChgI lo hi w w':=
 ⟨h.os,h.tape,h.output,h.size,fun b hb hx=>h.block b hb fun hm=>by have:=hF b hm;omega⟩
theorem ChgI.ext_left {w1:World} (hx:Ext w w1) (h:ChgI lo hi w1 w'):ChgI lo hi w w':=
 ⟨h.os.trans hx.os,h.tape.trans hx.tape,h.output.trans hx.output,Nat.le_trans hx.size h.size,fun b hb ho=>by rw [h.block b (Nat.lt_of_lt_of_le hb hx.size) ho,hx.block b hb]⟩
theorem zdr [Flat α] {t ty:TypeId} {by_:Nat} {u:Value} {x:α} {lo2 hi2:Nat} {K:Value→World→Prop} (ht:P.underlying t=some (.slice e)) (he:tyI P e=some (Rep.size α,by_,Rep.agg α)) (hz:zbq P e=true)
   (hzc:(P.info? e).map (fun i=>(i.zero.map (·.cells.size)))=some (some (Rep.size α))) (hsz:Rep.size α≤1000) (hv:RowI lo hi e w v l) (hx:OwnI lo2 hi2 w u x) (hm:l.length+1≤maxLen) (hb:(l.length+1)*by_≤140737488355328)
   (k:∀ v' w' lo' hi',ChgI lo hi w w'→RowI lo' hi' e w' v' (l++[x])→(lo'=lo∧hi'=hi∨lo'=w.heap.size∧hi'=w'.heap.size)→K v' w'):OP P (Instr.buildSlice t 1 #[(0,u)]) w fun s w1=>OP P (Builtin.append_ #[t,t] ty [v,s].toArray) w1 K:=by
 obtain ⟨F,h1,h2,h3⟩:=zfJ.1 hv
 obtain ⟨G,hmx,hG⟩:=hx
 have hGn:G=[]:=by obtain ⟨cs,hr,_⟩:=hmx.own;exact Flat.flat hr
 subst hGn
 refine zkL (K:=fun _=>K) ht he hz hzc hsz h1 h2 hmx (by simp) hm hb (fun w1 v' w' G' hx1 hc hR hN hs=>?_) fun _ _ _ h=>h
 have hcI:=ChgI.ext_left hx1 (hc.ofI h3)
 have hlt:=hR.lt
 rcases hR.flat with rfl | ⟨b,rfl⟩
 · exact k v' w' lo hi hcI (zfJ.2 ⟨[],hR,hN,by simp⟩) (.inl ⟨rfl,rfl⟩)
 rcases hs b (by simp) with h | h | h
 · exact k v' w' lo hi hcI (zfJ.2 ⟨[b],hR,hN,fun c hc=>by simp at hc;subst hc;exact h3 _ h⟩) (.inl ⟨rfl,rfl⟩)
 · cases h
 exact k v' w' w.heap.size w'.heap.size hcI (zfJ.2 ⟨[b],hR,hN,fun c hc=>by simp at hc;subst hc;exact ⟨h,hlt _ (by simp)⟩⟩) (.inr ⟨rfl,rfl⟩)
end
end Go.Sh
namespace Go.Proofs.YtifonhplnmpgaaaGreat
open Go Go.Sh Go.Proofs
open Rep (rep)
def F214 (a0 a1:Value) (w:World) (R:VW):Prop:=
 oP (Instr.box 32 a0) w fun x2 w=>
 rF 32 x2 4 w fun x10=>
 rL 30 x10 w fun x11=>
 rN 30 3 x11 w fun x12=>
 oP (Instr.makeSlice 101 x12 x12) w fun x13 w=>
 oP (Instr.buildSlice 23 1 #[(0,a1)]) w fun x15 w=>
 LOOPI [6,7] [x15,(iV 0)] w fun u4 w next4=>
 rN 23 3 (u4 6) w fun x18=>
 rC (u4 7) x18 w fun x19=>
 BR x19
 ((fun w=>rL 32 x2 w fun x22=>
 rX 23 (u4 6) (u4 7) w fun x25=>
 rL 3 x25 w fun x26=>
 cL 179 [x22,x26] w fun x27 w=>
 LOOPI [6,9] [(u4 6),(iV 0)] w fun u8 w next8=>
 rN 23 3 x27 w fun x30=>
 rC (u8 9) x30 w fun x31=>
 BR x31
 (rX 23 x27 (u8 9) w fun x37=>
 rL 3 x37 w fun x38=>
 rX 101 x13 x38 w fun x39=>
 rL 4 x39 w fun x40=>
 rD (Op.unary .not x40) w fun x41=>
 BR x41
 (rX 23 x27 (u8 9) w fun x45=>
 rL 3 x45 w fun x46=>
 rX 101 x13 x46 w fun x47=>
 oS 4 x47 (Value.bool true) w fun w=>
 rX 23 x27 (u8 9) w fun x51=>
 rL 3 x51 w fun x52=>
 oP (Instr.buildSlice 23 1 #[(0,x52)]) w fun x53 w=>
 oP (Builtin.append_ #[23,23] 23 [(u8 6),x53].toArray) w fun x54 w=>
 rA (u8 9) (iV 1) w fun x33=>
 next8 [x54,x33] w)
 (rA (u8 9) (iV 1) w fun x33=>
 next8 [(u8 6),x33] w))
 (rA (u4 7) (iV 1) w fun x21=>
 next4 [(u8 6),x21] w)) (World.drew1 w))
 (R x13 w)
def cfg214:Cfg:=⟨extL,[],[(4,36028797018899392,[6,7]),(8,36028796750529088,[6,9])],[(6,[0,1,2,3,4,5,6],0)],[],[],[]⟩
theorem F214_call {a0 a1:Value} {w:World} {R:VW} (h:F214 a0 a1 w R):cL 214 [a0,a1] w R:=co (g:=cfg214) Tryz.func214 (by kernel_rfl) (by kernel_rfl) (by kernel_rfl) h
def F78 (a0 a1 a2:Value) (w:World) (R:VW):Prop:=
 oP (Instr.buildSlice 23 1 #[(0,a2)]) w fun x11 w=>
 LOOPI [6] [x11] w fun u1 w next1=>
 rN 23 3 (u1 6) w fun x13=>
 rB .gtr 3 T0 U0 x13 (iV 0) w fun x14=>
 BR x14
 (rN 23 3 (u1 6) w fun x17=>
 rB .sub 3 T0 U0 x17 (iV 1) w fun x18=>
 rX 23 (u1 6) x18 w fun x19=>
 rL 3 x19 w fun x20=>
 rN 23 3 (u1 6) w fun x23=>
 rB .sub 3 T0 U0 x23 (iV 1) w fun x24=>
 rD (Instr.sliceAt 23 (u1 6) none (some x24) none) w fun x25=>
 cL 136 [a0,x20] w fun x28 w=>
 rN 23 3 x28 w fun x29=>
 LOOPI [6,30] [x25,(iV 0)] w fun u5 w next5=>
 rC (u5 30) x29 w fun x31=>
 BR x31
 (rX 23 x28 (u5 30) w fun x32=>
 rL 3 x32 w fun x33=>
 rX 101 a1 x33 w fun x36=>
 rL 4 x36 w fun x37=>
 rD (Op.unary .not x37) w fun x38=>
 BR x38
 (rX 101 a1 x33 w fun x41=>
 oS 4 x41 (Value.bool true) w fun w=>
 oP (Instr.buildSlice 23 1 #[(0,x33)]) w fun x44 w=>
 oP (Builtin.append_ #[23,23] 23 [(u5 6),x44].toArray) w fun x45 w=>
 rA (u5 30) (iV 1) w fun x46=>
 next5 [x45,x46] w)
 (rA (u5 30) (iV 1) w fun x46=>
 next5 [(u5 6),x46] w))
 (next1 [(u5 6)] w))
 (R (Value.tuple #[]) w)
def cfg78:Cfg:=⟨extL,[],[(1,140737488351936,[6]),(5,140736414614080,[6,30])],[],[],[],[]⟩
theorem F78_call {a0 a1 a2:Value} {w:World} {R:VW} (h:F78 a0 a1 a2 w R):cL 78 [a0,a1,a2] w R:=co (g:=cfg78) Tryz.func78 (by kernel_rfl) (by kernel_rfl) (by kernel_rfl) h
section
variable {P:Program} {w w':World}
theorem zfN {α:Type} [Rep α] [Flat α] {F:List Nat} {v:Value} {l:List α} (hm:Mine F w v l) (hl:l≠[]):∃ b o cap,v=.slice (some ⟨b,o,none⟩) l.length cap∧F=[b]:=by
 obtain ⟨⟨cs,⟨a,cap,Fi,xs,rfl,h1,h2,hc,h4⟩,rfl⟩,hn,hw⟩:=hm
 rcases h4 with ⟨h4,_⟩ | ⟨b,o,rfl,rfl,hr,hb⟩
 · exact absurd h4 hl
 have hFi:=Cells.flat (xs:=xs) hc
 subst hFi
 exact ⟨b,o,cap,rfl,rfl⟩
theorem zbx {α:Type} [Rep α] [Flat α] (h1:Rep.size α=1) {t by_ m n i:Nat} {l:List α} {y:α} {u:Value} {K:World→Prop} (ht:tyI P t=some (1,by_,Rep.agg α)) (hm:Mine [m] w (.slice (some ⟨m,0,none⟩) n n) l) (hl:l.length=n) (hi:i<n) (hu:Mine [] w u y)
   (k:∀ w',Chg [m] w w'→Mine [m] w' (.slice (some ⟨m,0,none⟩) n n) (l.set i y)→K w'):OPU P (Instr.storeAt t (.pointer (some ⟨m,i*1,none⟩)) u) w K:=by
 obtain ⟨b,a,cap,G,hv,hL⟩:=zqa hm (k:=i) (by omega)
 simp only [Value.slice.injEq,Option.some.injEq,Addr.mk.injEq,and_true] at hv
 obtain ⟨⟨rfl,rfl⟩,_⟩:=hv
 rw [h1,Nat.zero_add] at hL
 refine zcu (y':=y) (by rw [h1];exact ht) hL hu fun w8 F' hc8 hm8 hF8=>?_
 have hF9:F'=[m]:=by
   obtain ⟨b,o,cap,hv,hF2⟩:=zfN hm8 (by intro e;have h:=congrArg List.length e;rw [List.length_set,hl] at h;simp only [List.length_nil] at h;omega)
   subst hF2
   have:=hF8 b (by simp)
   simpa using this
 subst hF9
 exact k w8 hc8 hm8
theorem zch {α:Type} [Rep α] {t e by_ m n i:Nat} {K:Value→Prop} (h1:Rep.size α=1) (ht:P.underlying t=some (.slice e)) (he:tyI P e=some (1,by_,Rep.agg α)) (hi:i<n) (kk:K (.pointer (some ⟨m,i*1,none⟩))) :
   RD P (Instr.indexAt t (.slice (some ⟨m,0,none⟩) n n) (.int .i64 (i:Int))) w K:=zcL ht he hi kk
end
structure WI (w1 w:World) (m n lo hi:Nat) (tv:Value) (L:List Nat) (ms:List Bool):Prop where
 chg:ChgI m (m+1) w1 w
 row:RowI lo hi 3 w tv (zaF L)
 mks:Mine [m] w (.slice (some ⟨m,0,none⟩) n n) ms
 l0:w1.heap.size≤lo
 m1:m<lo
 h2:lo≤hi
 h3:hi≤w.heap.size
section
variable {w1 w w':World} {m n lo hi:Nat} {tv:Value} {L:List Nat} {ms:List Bool}
theorem WI.step (h:WI w1 w m n lo hi tv L ms) (hx:Ext w w'):WI w1 w' m n lo hi tv L ms:=
 ⟨h.chg.trans hx.toI,h.row.ext hx,h.mks.ext hx,h.l0,h.m1,h.h2,Nat.le_trans h.h3 hx.size⟩
theorem WI.push {tv':Value} {x:Nat} {lo' hi':Nat} (h:WI w1 w m n lo hi tv L ms) (hc:ChgI lo hi w w') (hr:RowI lo' hi' 3 w' tv' (zaF L++[(x:Int)])) (hd:lo'=lo∧hi'=hi∨lo'=w.heap.size∧hi'=w'.heap.size) :
   WI w1 w' m n lo' hi' tv' (L++[x]) ms:=by
 have hs:=hc.size
 have h1:=h.l0
 have h2:=h.h2
 have h3:=h.h3
 have h4:=h.chg.size
 have h5:=h.m1
 have hml:=h.mks.lt m (by simp)
 refine ⟨⟨hc.os.trans h.chg.os,hc.tape.trans h.chg.tape,hc.output.trans h.chg.output,Nat.le_trans h4 hs,fun b hb ho=>(hc.block b (Nat.lt_of_lt_of_le hb h4) (by omega)).trans (h.chg.block b hb ho)⟩,by rw [zbK];exact hr,h.mks.keep fun b hb=>?_,by omega,by omega,by omega,by omega⟩
 simp only [List.mem_cons,List.not_mem_nil,or_false] at hb
 subst hb
 exact hc.block b hml (by omega)
theorem WI.mark {ms':List Bool} (h:WI w1 w m n lo hi tv L ms) (hc:Chg [m] w w') (hm:Mine [m] w' (.slice (some ⟨m,0,none⟩) n n) ms'):WI w1 w' m n lo hi tv L ms':=by
 have hc':ChgI m (m+1) w w':=hc.toI fun b hb=>by simp only [List.mem_cons,List.not_mem_nil,or_false] at hb;omega
 have h5:=h.m1
 exact ⟨h.chg.trans hc',h.row.chg hc' (by omega),hm,h.l0,h5,h.h2,Nat.le_trans h.h3 hc'.size⟩
end
theorem zp0:zcj Tryz.prog 4=some [.bool false]:=by kernel_rfl
theorem ownI_int {w:World} {x:Int} (lo hi:Nat) (h:I64 x):OwnI lo hi w (.int .i64 x) x:=⟨[],za6 h,by simp⟩
theorem za8 {w:World} {b:Bool}:Mine [] w (.bool b) b:=⟨⟨[.bool b],⟨rfl,rfl⟩,rfl⟩,List.nodup_nil,Wr.nil w⟩
theorem zi5 {w W0:World} {v0:Value} {c:DCode} {a:Nat} (h0:Is W0 v0 c) (e0:Ext W0 w) (hc:CodeR c) (ha:a<c.ins.length) :
   CALL Tryz.prog 214 [v0,.int .i64 (a:Int)] w fun r w'=>Ext w w'∧∃ m,r=.slice (some ⟨m,0,none⟩) c.ins.length c.ins.length∧w.heap.size≤m∧Mine [m] w' (.slice (some ⟨m,0,none⟩) c.ins.length c.ins.length) (zb0 c.ins.length (RP (zaz c) a)):=by
 refine F214_call ?_
 unfold F214
 have hil:=hc.f.ins
 have hnl:=fun {i j:Nat}=>zcF hc (i:=i) (j:=j)
 refine zdm h0 e0 fun w1 hx1 hA=>?_
 refine zaa zaK ?_
 refine zab zdn (zak hA) (Ext.refl _) fun v11 h11=>?_
 refine zae u30 h11 ?_
 generalize hn:c.ins.length=n at *
 refine zeb (α:=Bool) zdi ty4 rfl rfl zp0 (by omega) (by omega) fun w2 hx2 hr2=>?_
 have hs1:=hx1.size
 have hs2:=hx2.size
 have hM2:Mine [w1.heap.size] w2 (.slice (some ⟨w1.heap.size,0,none⟩) n n) (List.replicate n (RepZ.zv:Bool)):=by
   obtain ⟨F,hM,hF⟩:=hr2.own
   obtain ⟨b,o,cap,hv,hF2⟩:=zfN hM (by intro e;have:=congrArg List.length e;simp at this;omega)
   simp only [Value.slice.injEq,Option.some.injEq,Addr.mk.injEq,List.cons.injEq,and_true] at hv
   obtain ⟨⟨hb,ho⟩,_⟩:=hv
   rw [←hb] at hF2
   rwa [hF2] at hM
 have hzz:(List.replicate n (RepZ.zv:Bool))=List.replicate n false:=rfl
 rw [hzz] at hM2
 refine zbB (x:=(a:Int)) u23 ty3 z3 (by decide) (za6 (by unfold I64;omega)) fun v15 w3 hx3 hr3=>?_
 have hs3:=hx3.size
 generalize hm:w1.heap.size=m at *
 have hW3:WI w1 w3 m n w2.heap.size w3.heap.size v15 [a] (List.replicate n false):=⟨(hx2.trans hx3).toI,hr3,hM2.ext hx3,by omega,by have:=hM2.lt m (by simp);omega,hs3,Nat.le_refl _⟩
 refine zaq (1+n) (fun h us w'=>∃ (tv:Value) (lo hi:Nat) (L:List Nat) (ms:List Bool),us=[tv,.int .i64 (h:Int)]∧h≤L.length∧WI w1 w' m n lo hi tv L ms∧SInv (zaz c) n a (List.replicate n false) ms (L.drop h) h) 0 (Nat.zero_le _) ⟨v15,_,_,[a],_,rfl,by simp,hW3,SInv.start (by simp) ha⟩ ?_
 rintro h mk u w4 hkm ⟨tv,lo,hi,L,ms,hu,hhL,hW4,hS4⟩
 obtain ⟨hu1,hu2⟩:=zcO hu
 rw [hu1,hu2]
 have hb4:=hS4.bound
 rw [List.length_drop] at hb4
 refine zae u23 hW4.row.is ?_
 rw [zag]
 refine zah ?_
 refine br (fun hlt=>?_) (fun hge=>?_)
 case refine_2=>
   have hhe:h=L.length:=by omega
   rw [hhe,List.drop_length] at hS4
   have hfin:=hS4.fin fun i hi=>absurd hi zbk
   have hms:ms=zb0 n (RP (zaz c) a):=zbr hS4.len fun i hi=>by
     rw [hfin i]
     exact ⟨fun h=>h.resolve_left zbk,.inr⟩
   rw [←hms]
   have hx4:Ext w1 w4:=(Ext.refl w1).chgI hW4.chg (by omega)
   exact ⟨hx1.trans hx4,m,rfl,by omega,hW4.mks⟩
 have hh:h<L.length:=by omega
 have hx5:=zan w4
 have hW5:=hW4.step hx5
 generalize World.drew1 w4=w5 at *
 have hxa:∀ {w:World} {lo hi tv L ms},WI w1 w m n lo hi tv L ms→Ext w1 w:=fun h=>(Ext.refl w1).chgI h.chg (by omega)
 refine zab zdh hA (hxa hW5) fun v22 h22=>?_
 refine zac u23 ty3 (i:=h) hW5.row.is (by rw [zag];exact hh) fun b1 o1 hA1=>?_
 rw [zaY] at hA1
 refine zad ty3 hA1 (Ext.refl _) fun _=>?_
 generalize hx:L[h]=x at *
 have hdr:L.drop h=x :: L.drop (h+1):=by rw [List.drop_eq_getElem_cons hh,hx]
 have hxn:x<n:=(hS4.tdo x (by rw [hdr];simp)).2
 refine (zhk h22 (hxa hW5) hc (by rw [hn];exact hxn)).mono ?_
 rintro v27 w6 ⟨hx6,ho6⟩
 have hW6:=hW5.step hx6
 have hI6:=hW5.h3
 have hm6:=hW5.mks.lt m (by simp)
 have hS6:SIn2 (zaz c) n a (List.replicate n false) ms (L.drop (h+1)) h x 0:=hS4.pop (fun i=>by rw [hdr];simp [or_comm]) (by rw [hdr];simp)
 have hl2:=zd0 c x
 refine zaq (zaz c x).length (fun q us w'=>∃ (tv:Value) (lo hi:Nat) (L:List Nat) (ms:List Bool),us=[tv,.int .i64 (q:Int)]∧q≤(zaz c x).length∧h<L.length∧WI w1 w' m n lo hi tv L ms∧SIn2 (zaz c) n a (List.replicate n false) ms (L.drop (h+1)) h x q∧OwnI w5.heap.size w6.heap.size w' v27 (zaF (zaz c x))∧(hi≤w5.heap.size∨w6.heap.size≤lo)∧w6.heap.size≤w'.heap.size) 0 (Nat.zero_le _) ⟨tv,lo,hi,L,ms,rfl,Nat.zero_le _,hh,hW6,hS6,ho6.toI,.inl hI6,Nat.le_refl _⟩ ?_
 rintro q mk8 u8 w7 hkm8 ⟨tv7,lo7,hi7,L7,ms7,hu8,hql,hh7,hW7,hS7,ho7,hd7,hz7⟩
 obtain ⟨hu81,hu82⟩:=zcO hu8
 rw [hu81,hu82]
 refine zae u23 ho7.is ?_
 rw [zag]
 refine zah ?_
 refine br (fun hlt8=>?_) (fun hge8=>?_)
 case refine_2=>
   refine zaf (by omega) ?_
   exact ⟨mk-1,by omega,h+1,by omega,tv7,lo7,hi7,L7,ms7,rfl,by omega,hW7,hS7.done (by omega)⟩
 have hq:q<(zaz c x).length:=by omega
 have hrd:∀ {w:World} {K:Value→Prop} (ho:OwnI w5.heap.size w6.heap.size w v27 (zaF (zaz c x))) (k:K (.int .i64 (((zaz c x)[q]:Nat):Int))),RD Tryz.prog (Instr.indexAt 23 v27 (.int .i64 (q:Int))) w fun x37=>RD Tryz.prog (Instr.loadAt 3 x37) w K:=fun ho k=>by
   refine zac u23 ty3 (i:=q) ho.is (by rw [zag];exact hq) fun b1 o1 hA1=>?_
   rw [zaY] at hA1
   exact zad ty3 hA1 (Ext.refl _) fun _=>k
 have hy:=hnl hxn (List.getElem_mem hq)
 refine hrd ho7 ?_
 have hlen7:=hS7.len
 refine zac zdi ty4 hW7.mks.is (by rw [hlen7];exact hy.1) fun b2 o2 hA2=>?_
 refine zaX ty4 hA2 (Ext.refl _) ?_
 refine zaW ?_
 have hmk7:=za5 (ms:=ms7) (i:=(zaz c x)[q]) (by rw [hlen7];exact hy.1)
 refine zb8 (fun hf=>?_) (fun hf=>?_)
 · have hnm:¬mkd ms7 (zaz c x)[q]:=by rw [hmk7];simpa using hf
   refine hrd ho7 ?_
   refine zch (α:=Bool) rfl zdi ty4 hy.1 ?_
   refine zbx (α:=Bool) rfl ty4 hW7.mks hlen7 hy.1 za8 fun w8 hc8 hm8=>?_
   have hW8:=hW7.mark hc8 hm8
   have hc8':ChgI m (m+1) w7 w8:=hc8.toI fun b hb=>by simp only [List.mem_cons,List.not_mem_nil,or_false] at hb;omega
   have ho8:=ho7.chg hc8' (by omega)
   refine hrd ho8 ?_
   have hS8:=hS7.push hq hy.1 hnm
   generalize (zaz c x)[q]=y at *
   have hLb:L7.length≤2+n:=by
     have h1:=hS7.cnt
     have h2:=zdP ms7
     rw [List.length_drop] at h1
     omega
   refine zdr (x:=(y:Int)) u23 ty3 z3 zc3 (by decide) hW8.row (ownI_int 0 0 (by unfold I64;omega)) (by rw [zam,zag];omega) (by rw [zag];omega) fun v54 w9 lo9 hi9 hc9 hr9 hd9=>?_
   have hW9:=hW8.push hc9 hr9 hd9
   have hsz8:=hc8'.size
   have hsz7:=ho7.is
   refine zaf (by omega) ?_
   refine ⟨mk8-1,by omega,q+1,by omega,v54,lo9,hi9,L7++[y],_,rfl,by omega,by simp;omega,hW9,?_,ho8.chg hc9 (by omega),by omega,by have:=hc9.size;omega⟩
   rw [List.drop_append_of_le_length (by omega)]
   exact hS8
 have hnm:mkd ms7 (zaz c x)[q]:=by rw [hmk7];simpa using hf
 refine zaf (by omega) ?_
 exact ⟨mk8-1,by omega,q+1,by omega,tv7,lo7,hi7,L7,ms7,rfl,by omega,hh7,hW7,hS7.skip hq hnm,ho7,hd7,hz7⟩
section
variable {P:Program} {w:World} {α:Type} [Rep α] [Flat α] {lo hi e:Nat} {v:Value} {l:List α}
theorem zpx {t e b o n cap k by_:Nat} {K:Value→Prop} (ht:P.underlying t=some (.slice e)) (he:tyI P e=some (Rep.size α,by_,Rep.agg α)) (hk:k≤n) (hn:n≤cap) (kk:K (.slice (some ⟨b,o,none⟩) k cap)) :
   RD P (Instr.sliceAt t (.slice (some ⟨b,o,none⟩) n cap) none (some (.int .i64 (k:Int))) none) w K:=by
 refine zaQ (fun w' _=>?_) kk
 have hbd:(Instr.sliceBounds true n cap none (some (.int .i64 (k:Int))) none).run P w'=.ok (0,k,cap) w':=by
   have h5:(k:Int)≤(cap:Int):=by omega
   simp [Instr.sliceBounds,Instr.sliceBound,asIntOf,h5]
   intro h6
   omega
 simp only [Instr.sliceAt,Instr.slice,Sem.run_bind,run_underlying ht,Result.andThen_ok,hbd,zaN he]
 simp [Addr.add_mid]
theorem zob (h:RowI lo hi e w v l) (hl:l≠[]) {k:Nat} (hk:k≤l.length):∃ g cap,v=.slice (some ⟨g,0,none⟩) l.length cap∧l.length≤cap∧RowI lo hi e w (.slice (some ⟨g,0,none⟩) k cap) (l.take k):=by
 rcases h with ⟨a,_,h⟩ | ⟨F,⟨xs,Fi,⟨hlen,ho⟩,hc,hF,hw⟩,hn,hb⟩
 · exact absurd h hl
 rcases ho with ⟨_,h0⟩ | ⟨g,cap,cur,rfl,_,hg,h1,h2,h3,h4⟩
 · exact absurd (List.eq_nil_of_length_eq_zero h0) hl
 refine ⟨g,cap,rfl,h1,.inr ⟨F,⟨xs.take (k*Rep.size α),[],⟨?_,.inr ⟨g,cap,cur,?_,Nat.zero_le _,hg,by rw [List.length_take];omega,h2,h3,?_⟩⟩,?_,?_,Wr.nil w⟩,hn,hb⟩⟩
 · rw [List.length_take,List.length_take,hlen,Nat.min_eq_left hk]
   exact Nat.min_eq_left (Nat.mul_le_mul_right _ hk)
 · rw [List.length_take,Nat.min_eq_left hk]
 · rw [List.length_take,Nat.min_eq_left hk,←h4,List.take_take,Nat.min_eq_left (Nat.mul_le_mul_right _ hk)]
 · have e1:l=l.take k++l.drop k:=by simp
   have hFi:=Cells.flat (xs:=xs) hc
   subst hFi
   rw [e1] at hc
   obtain ⟨F1,F2,x1,x2,hF12,hx12,c1,c2⟩:=Cells.split hc
   have hF1:=Cells.flat (xs:=x1) c1
   subst hF1
   have hl1:=Cells.len c1
   rw [List.length_take,Nat.min_eq_left hk] at hl1
   rw [hx12,List.take_left' hl1]
   exact c1
 have hFi:=Cells.flat (xs:=xs) hc
 subst hFi
 rw [hF];rfl
end
def KAt (W0 w:World) (b:Nat) (c:DCode):Prop:=∃ F cs,Rep.rep F W0 cs c∧w.rangeAt b 0 cs∧b<w.heap.size
theorem KAt.at {W0 w:World} {b:Nat} {c:DCode} (h:KAt W0 w b c) (hx:Ext W0 w):At w b 0 c:=by
 obtain ⟨F,cs,hr,hc,_⟩:=h
 exact ⟨F,cs,zbC hr hx,hc⟩
theorem KAt.keep {W0 w w':World} {b:Nat} {c:DCode} (h:KAt W0 w b c) (hb:w'.heap[b]?=w.heap[b]?) (hs:w.heap.size≤w'.heap.size):KAt W0 w' b c:=by
 obtain ⟨F,cs,hr,hc,hl⟩:=h
 exact ⟨F,cs,hr,zbX hc hb,by omega⟩
theorem KAt.lt {W0 w:World} {b:Nat} {c:DCode} (h:KAt W0 w b c):b<w.heap.size:=by obtain ⟨_,_,_,_,h⟩:=h;exact h
theorem zmQ {w W0:World} {b m n a:Nat} {c:DCode} {ms0:List Bool} (hk:KAt W0 w b c) (e0:Ext W0 w) (hc:CodeR c) (hn:c.ins.length=n) (ha:a<n) (hM:Mine [m] w (.slice (some ⟨m,0,none⟩) n n) ms0) (hl:ms0.length=n) (h0:W0.heap.size≤m) (hb:b≠m)
   (hclo:∀ i,mkd ms0 i→i≠a→∀ j∈zaz c i,mkd ms0 j) :
   CALL Tryz.prog 78 [.pointer (some ⟨b,0,none⟩),.slice (some ⟨m,0,none⟩) n n,.int .i64 (a:Int)] w fun r w'=>r=.tuple #[]∧ChgI m (m+1) w w'∧Mine [m] w' (.slice (some ⟨m,0,none⟩) n n) (zb0 n fun i=>mkd ms0 i∨RP (zaz c) a i):=by
 refine F78_call ?_
 unfold F78
 have hil:=hc.f.ins
 have hnl:=fun {i j:Nat}=>zcF hc (i:=i) (j:=j)
 rw [hn] at hnl hil
 refine zbB (x:=(a:Int)) u23 ty3 z3 (by decide) (za6 (by unfold I64;omega)) fun v11 w1 hx1 hr1=>?_
 have hW1:WI w w1 m n w.heap.size w1.heap.size v11 [a] ms0:=⟨hx1.toI,hr1,hM.ext hx1,Nat.le_refl _,hM.lt m (by simp),hx1.size,Nat.le_refl _⟩
 have hKA:∀ {w':World} {lo hi tv L ms},WI w w' m n lo hi tv L ms→At w' b 0 c:=fun h=>(hk.keep (h.chg.block b hk.lt (by omega)) h.chg.size).at (e0.chgI h.chg h0)
 refine zaq (1+n) (fun h us w'=>∃ (tv:Value) (lo hi:Nat) (L:List Nat) (ms:List Bool),us=[tv]∧WI w w' m n lo hi tv L ms∧SInv (zaz c) n a ms0 ms L h) 0 (Nat.zero_le _) ⟨v11,_,_,[a],_,rfl,hW1,SInv.start hl ha⟩ ?_
 rintro h mk u w4 hkm ⟨tv,lo,hi,L,ms,hu,hW4,hS4⟩
 simp only [List.map_cons,List.map_nil,List.cons.injEq,and_true] at hu
 rw [hu]
 have hb4:=hS4.bound
 refine zae u23 hW4.row.is ?_
 rw [zag]
 refine zb9 ?_
 refine br (fun hlt=>?_) (fun hge=>?_)
 case refine_2=>
   have hL0:L=[]:=List.eq_nil_of_length_eq_zero (by omega)
   rw [hL0] at hS4
   have hfin:=hS4.fin hclo
   have hms:ms=zb0 n (fun i=>mkd ms0 i∨RP (zaz c) a i):=zbr hS4.len fun i hi=>hfin i
   rw [←hms]
   exact ⟨rfl,hW4.chg,hW4.mks⟩
 obtain ⟨z,hz⟩:∃ z,L.length=z+1:=⟨L.length-1,by omega⟩
 have hzl:z<L.length:=by omega
 have hne:zaF L≠[]:=fun e=>by have:=congrArg List.length e;rw [zag,hz] at this;cases this
 refine zae u23 hW4.row.is ?_
 rw [zag]
 refine za9 (by unfold I64;omega) ?_
 have ez:(L.length:Int)-1=(z:Int):=by omega
 rw [ez]
 refine zac u23 ty3 (i:=z) hW4.row.is (by rw [zag];exact hzl) fun b1 o1 hA1=>?_
 rw [zaY] at hA1
 refine zad ty3 hA1 (Ext.refl _) fun _=>?_
 generalize hx:L[z]=x at *
 refine zae u23 hW4.row.is ?_
 rw [zag]
 refine za9 (by unfold I64;omega) ?_
 rw [ez]
 obtain ⟨g,cap,hv4,hcap,hr4⟩:=zob hW4.row hne (k:=z) (by rw [zag];omega)
 rw [zag] at hv4 hcap
 rw [hv4]
 refine zpx (α:=Int) u23 ty3 (by omega) hcap ?_
 have hLz:L=L.take z++[x]:=by
   have:=List.take_succ_eq_append_getElem hzl
   rw [←hz,List.take_length,hx] at this
   exact this
 rw [←zl1] at hr4
 have hW5:WI w w4 m n lo hi (.slice (some ⟨g,0,none⟩) z cap) (L.take z) ms:=⟨hW4.chg,hr4,hW4.mks,hW4.l0,hW4.m1,hW4.h2,hW4.h3⟩
 have hxn:x<n:=(hS4.tdo x (by rw [hLz];simp)).2
 refine (zgy (hKA hW5) (Ext.refl _) hc (by rw [hn];exact hxn)).mono ?_
 rintro v27 w6 ⟨hx6,ho6⟩
 have hW6:=hW5.step hx6
 have hI6:=hW5.h3
 have hm6:=hW5.mks.lt m (by simp)
 have hLm:∀ i,i∈L↔i∈L.take z∨i=x:=fun i=>by
   have:i∈L↔i∈L.take z++[x]:=by rw [←hLz]
   rw [this];simp
 have hS6:SIn2 (zaz c) n a ms0 ms (L.take z) h x 0:=hS4.pop hLm (by rw [List.length_take];omega)
 have hl2:=zd0 c x
 refine zae u23 ho6.is ?_
 rw [zag]
 refine zaq (zaz c x).length (fun q us w'=>∃ (tv:Value) (lo hi:Nat) (L:List Nat) (ms:List Bool),us=[tv,.int .i64 (q:Int)]∧q≤(zaz c x).length∧WI w w' m n lo hi tv L ms∧SIn2 (zaz c) n a ms0 ms L h x q∧OwnI w4.heap.size w6.heap.size w' v27 (zaF (zaz c x))∧(hi≤w4.heap.size∨w6.heap.size≤lo)∧w6.heap.size≤w'.heap.size) 0 (Nat.zero_le _) ⟨_,lo,hi,_,ms,rfl,Nat.zero_le _,hW6,hS6,ho6.toI,.inl hI6,Nat.le_refl _⟩ ?_
 rintro q mk8 u8 w7 hkm8 ⟨tv7,lo7,hi7,L7,ms7,hu8,hql,hW7,hS7,ho7,hd7,hz7⟩
 obtain ⟨hu81,hu82⟩:=zcO hu8
 rw [hu81,hu82]
 refine zah ?_
 refine br (fun hlt8=>?_) (fun hge8=>?_)
 case refine_2=>
   exact ⟨mk-1,by omega,h+1,by omega,tv7,lo7,hi7,L7,ms7,rfl,hW7,hS7.done (by omega)⟩
 have hq:q<(zaz c x).length:=by omega
 have hy:=hnl hxn (List.getElem_mem hq)
 refine zac u23 ty3 (i:=q) ho7.is (by rw [zag];exact hq) fun b3 o3 hA3=>?_
 rw [zaY] at hA3
 refine zad ty3 hA3 (Ext.refl _) fun _=>?_
 have hlen7:=hS7.len
 refine zac zdi ty4 hW7.mks.is (by rw [hlen7];exact hy.1) fun b2 o2 hA2=>?_
 refine zaX ty4 hA2 (Ext.refl _) ?_
 refine zaW ?_
 have hmk7:=za5 (ms:=ms7) (i:=(zaz c x)[q]) (by rw [hlen7];exact hy.1)
 refine zb8 (fun hf=>?_) (fun hf=>?_)
 · have hnm:¬mkd ms7 (zaz c x)[q]:=by rw [hmk7];simpa using hf
   refine zch (α:=Bool) rfl zdi ty4 hy.1 ?_
   refine zbx (α:=Bool) rfl ty4 hW7.mks hlen7 hy.1 za8 fun w8 hc8 hm8=>?_
   have hW8:=hW7.mark hc8 hm8
   have hc8':ChgI m (m+1) w7 w8:=hc8.toI fun b hb=>by simp only [List.mem_cons,List.not_mem_nil,or_false] at hb;omega
   have ho8:=ho7.chg hc8' (by omega)
   have hS8:=hS7.push hq hy.1 hnm
   generalize (zaz c x)[q]=y at *
   have hLb:L7.length≤2+n:=by
     have h1:=hS7.cnt
     have h2:=zdP ms7
     omega
   refine zdr (x:=(y:Int)) u23 ty3 z3 zc3 (by decide) hW8.row (ownI_int 0 0 (by unfold I64;omega)) (by rw [zam,zag];omega) (by rw [zag];omega) fun v54 w9 lo9 hi9 hc9 hr9 hd9=>?_
   have hW9:=hW8.push hc9 hr9 hd9
   have hsz8:=hc8'.size
   refine zaf (by omega) ?_
   exact ⟨mk8-1,by omega,q+1,by omega,v54,lo9,hi9,L7++[y],_,rfl,by omega,hW9,hS8,ho8.chg hc9 (by omega),by omega,by have:=hc9.size;omega⟩
 have hnm:mkd ms7 (zaz c x)[q]:=by rw [hmk7];simpa using hf
 refine zaf (by omega) ?_
 exact ⟨mk8-1,by omega,q+1,by omega,tv7,lo7,hi7,L7,ms7,rfl,by omega,hW7,hS7.skip hq hnm,ho7,hd7,hz7⟩
def F176 (a0:Value) (w:World) (R:VW):Prop:=
 oP (Instr.buildSlice 23 0 #[]) w fun x5 w=>
 LOOPI [3,4] [x5,(iV 0)] w fun u3 w next3=>
 rN 101 3 a0 w fun x8=>
 rC (u3 4) x8 w fun x9=>
 BR x9
 (rX 101 a0 (u3 4) w fun x14=>
 rL 4 x14 w fun x15=>
 BR x15
 (oP (Instr.buildSlice 23 1 #[(0,(u3 4))]) w fun x18 w=>
 oP (Builtin.append_ #[23,23] 23 [(u3 3),x18].toArray) w fun x19 w=>
 rA (u3 4) (iV 1) w fun x11=>
 next3 [x19,x11] w)
 (rA (u3 4) (iV 1) w fun x11=>
 next3 [(u3 3),x11] w))
 (R (u3 3) w)
def cfg176:Cfg:=⟨extL,[],[(3,1048536,[3,4])],[],[],[],[]⟩
theorem F176_call {a0:Value} {w:World} {R:VW} (h:F176 a0 w R):cL 176 [a0] w R:=co (g:=cfg176) Tryz.func176 (by kernel_rfl) (by kernel_rfl) (by kernel_rfl) h
def F234 (a0 a1:Value) (w:World) (R:VW):Prop:=
 oP (Instr.box 32 a0) w fun x2 w=>
 (fun w=>rL 32 x2 w fun x6=>
 rF 32 x2 3 w fun x7=>
 rL 23 x7 w fun x8=>
 rX 23 x8 a1 w fun x10=>
 rL 3 x10 w fun x11=>
 cL 214 [x6,x11] w fun x12 w=>
 rF 32 x2 3 w fun x14=>
 rL 23 x14 w fun x15=>
 rX 23 x15 a1 w fun x17=>
 rL 3 x17 w fun x18=>
 rX 101 x12 x18 w fun x19=>
 oS 4 x19 (Value.bool true) w fun w=>
 R x12 w) (World.drew1 w)
def cfg234:Cfg:=⟨extL,[],[],[(1,[0,1,2,3,4,5,6,7],0)],[],[],[]⟩
theorem F234_call {a0 a1:Value} {w:World} {R:VW} (h:F234 a0 a1 w R):cL 234 [a0,a1] w R:=co (g:=cfg234) Tryz.func234 (by kernel_rfl) (by kernel_rfl) (by kernel_rfl) h
def F212 (a0 a1 a2:Value) (w:World) (R:VW):Prop:=
 oP (Instr.box 32 a0) w fun x3 w=>
 rL 32 x3 w fun x10=>
 cL 234 [x10,a1] w fun x12 w=>
 rF 32 x3 2 w fun x13=>
 rL 22 x13 w fun x14=>
 rN 22 3 x14 w fun x15=>
 oP (Instr.makeSlice 101 x15 x15) w fun x16 w=>
 LOOPI [9] [(iV 0)] w fun u4 w next4=>
 rF 32 x3 4 w fun x18=>
 rL 30 x18 w fun x19=>
 rN 30 3 x19 w fun x20=>
 rC (u4 9) x20 w fun x21=>
 BR x21
 (rX 101 x12 (u4 9) w fun x26=>
 rL 4 x26 w fun x27=>
 BR x27
 (rF 32 x3 4 w fun x29=>
 rL 30 x29 w fun x30=>
 rX 30 x30 (u4 9) w fun x32=>
 rF 111 x32 0 w fun x33=>
 rL 3 x33 w fun x34=>
 rB .eql 3 T0 T0 x34 a2 w fun x36=>
 BR x36
 (rF 32 x3 4 w fun x39=>
 rL 30 x39 w fun x40=>
 rX 30 x40 (u4 9) w fun x42=>
 rF 111 x42 1 w fun x43=>
 rL 3 x43 w fun x44=>
 rX 101 x16 x44 w fun x45=>
 oS 4 x45 (Value.bool true) w fun w=>
 rA (u4 9) (iV 1) w fun x23=>
 next4 [x23] w)
 (rA (u4 9) (iV 1) w fun x23=>
 next4 [x23] w))
 (rA (u4 9) (iV 1) w fun x23=>
 next4 [x23] w))
 (cL 176 [x16] w fun x47 w=>
 R x47 w)
def cfg212:Cfg:=⟨extL,[],[(4,70368744047104,[9])],[],[],[],[]⟩
theorem F212_call {a0 a1 a2:Value} {w:World} {R:VW} (h:F212 a0 a1 a2 w R):cL 212 [a0,a1,a2] w R:=co (g:=cfg212) Tryz.func212 (by kernel_rfl) (by kernel_rfl) (by kernel_rfl) h
def zpy (ms:List Bool) (n:Nat):List Nat:=(List.range n).filter fun i=>ms.getD i false
theorem zi6 (ms:List Bool) (n:Nat):zpy ms (n+1)=zpy ms n++(if ms.getD n false then [n] else []):=by
 simp only [zpy,List.range_succ,List.filter_append,List.filter_cons,List.filter_nil]
theorem zoc (ms:List Bool) (n:Nat):(zpy ms n).length≤n:=Nat.le_trans (List.length_filter_le _ _) (by simp)
theorem zgz (n:Nat) (p:Nat→Prop):zpy (zb0 n p) n=zbw n p:=by
 refine List.filter_congr fun i hi=>?_
 have hi':=List.mem_range.1 hi
 have:=zbl (n:=n) (p:=p) (i:=i)
 unfold mkd at this
 by_cases h:p i
 · rw [this.2 ⟨hi',h⟩];simp [h]
 have h2:(zb0 n p).getD i false≠true:=fun e=>h (this.1 e).2
 simp only [h,decide_false]
 cases hh:(zb0 n p).getD i false
 · rfl
 exact absurd hh h2
theorem zd1 {w W0:World} {v0:Value} {ms:List Bool} (h0:Is W0 v0 ms) (e0:Ext W0 w) (hn:ms.length≤1000000) :
   CALL Tryz.prog 176 [v0] w fun r w'=>Ext w w'∧Own w.heap.size w' r (zaF (zpy ms ms.length)):=by
 refine F176_call ?_
 unfold F176
 refine zbA (α:=Int) u23 ty3 fun a w1 hx1 hr1=>?_
 have hs1:=hx1.size
 refine zaq ms.length (fun k us w'=>∃ (v:Value),us=[v,.int .i64 (k:Int)]∧k≤ms.length∧Ext w w'∧RowI w.heap.size w'.heap.size 3 w' v (zaF (zpy ms k))) 0 (Nat.zero_le _) ⟨_,rfl,Nat.zero_le _,hx1,hr1.mono hs1 (Nat.le_refl _)⟩ ?_
 rintro k mk u w2 hkm ⟨v,hu,hkl,hx2,hr2⟩
 obtain ⟨hu1,hu2⟩:=zcO hu
 rw [hu1,hu2]
 refine zae zdi h0 ?_
 refine zah ?_
 refine br (fun hlt=>?_) (fun hge=>?_)
 case refine_2=>
   have:k=ms.length:=by omega
   rw [this] at hr2
   exact ⟨hx2,hr2.own.own⟩
 have hk:k<ms.length:=by omega
 have hs2:=hx2.size
 have hg:ms.getD k false=ms[k]:=by rw [List.getD_eq_getElem?_getD,List.getElem?_eq_getElem hk];rfl
 have hil:=zoc ms k
 refine zac zdi ty4 h0 hk fun b2 o2 hA2=>?_
 refine zaX ty4 hA2 (e0.trans hx2) ?_
 refine zb8 (fun hf=>?_) (fun hf=>?_)
 · refine zcP (lo2:=w2.heap.size) (hi2:=w2.heap.size) (x:=(k:Int)) u23 ty3 z3 zc3 (by decide) hr2 hs2 (ownI_int _ _ (by unfold I64;omega)) (Nat.le_refl _) hs2 (by rw [zam,zag];omega) (by rw [zag];omega) fun v54 w9 hc9 hr9=>?_
   refine zaf (by omega) ?_
   refine ⟨mk-1,by omega,k+1,by omega,v54,rfl,by omega,hx2.chgI hc9 (Nat.le_refl _),?_⟩
   rw [zi6,hg,hf,if_pos rfl,zbK]
   exact hr9
 refine zaf (by omega) ?_
 refine ⟨mk-1,by omega,k+1,by omega,v,rfl,by omega,hx2,?_⟩
 rw [zi6,hg,hf]
 simpa using hr2
def zbJ (c:DCode) (p:Nat) (i:Nat):Prop:=i=(en c p).toNat∨RP (zaz c) (en c p).toNat i
theorem zly {w W0:World} {v0:Value} {c:DCode} {p:Nat} (h0:Is W0 v0 c) (e0:Ext W0 w) (hc:CodeR c) (hp:p<c.entry.length) :
   CALL Tryz.prog 234 [v0,.int .i64 (p:Int)] w fun r w'=>Ext w w'∧Own w.heap.size w' r (zb0 c.ins.length (zbJ c p)):=by
 refine F234_call ?_
 unfold F234
 have hen:=zmP hc hp
 refine zdm h0 e0 fun w1 hx1 hA=>?_
 have hx2:=zan w1
 generalize World.drew1 w1=w2 at *
 have hs1:=hx1.size
 have hs2:=hx2.size
 obtain ⟨a,hae⟩:∃ a:Nat,en c p=(a:Int):=⟨(en c p).toNat,by omega⟩
 have hla:zbJ c p=fun i=>i=a∨RP (zaz c) a i:=by
   funext i;unfold zbJ;rw [hae];rfl
 have ha:a<c.ins.length:=by omega
 rw [hla]
 refine zab zdh hA hx2 fun v6 h6=>?_
 refine zaa zaO ?_
 refine zab zbv (zal hA) hx2 fun v8 h8=>?_
 refine zac u23 ty3 h8 hp fun b1 o1 hA1=>?_
 rw [zbf hp,hae] at hA1
 refine zad ty3 hA1 hx2 fun _=>?_
 refine (zi5 h6 hx2 hc ha).mono ?_
 rintro _ w3 ⟨hx3,m,rfl,hm,hM⟩
 have hs3:=hx3.size
 refine zaa zaO ?_
 refine zab zbv (zal hA) (hx2.trans hx3) fun v15 h15=>?_
 refine zac u23 ty3 h15 hp fun b2 o2 hA2=>?_
 rw [zbf hp,hae] at hA2
 refine zad ty3 hA2 (hx2.trans hx3) fun _=>?_
 refine zch (α:=Bool) rfl zdi ty4 ha ?_
 refine zbx (α:=Bool) rfl ty4 hM zas ha za8 fun w4 hc4 hm4=>?_
 have hset:(zb0 c.ins.length (RP (zaz c) a)).set a true=zb0 c.ins.length (fun i=>i=a∨RP (zaz c) a i):=zbr (by rw [List.length_set,zas]) fun i hi=>by
   rw [zbE (by rw [zas];exact ha),zbl]
   constructor
   · rintro (⟨_,h⟩ | h)
     · exact .inr h
     exact .inl h
   rintro (h | h)
   · exact .inr h
   exact .inl ⟨hi,h⟩
 rw [hset] at hm4
 have hc4':ChgI m (m+1) w3 w4:=hc4.toI fun b hb=>by simp only [List.mem_cons,List.not_mem_nil,or_false] at hb;omega
 exact ⟨((hx1.trans hx2).trans hx3).chgI hc4' (by omega),[m],hm4,fun b hb=>by simp only [List.mem_cons,List.not_mem_nil,or_false] at hb;omega⟩
theorem zeg {w:World} {n:Nat} {K:Value→World→Prop} (h0:0<n) (hn:n≤1000000)
   (k:∀ w',Ext w w'→Mine [w.heap.size] w' (.slice (some ⟨w.heap.size,0,none⟩) n n) (List.replicate n false)→K (.slice (some ⟨w.heap.size,0,none⟩) n n) w'):OP Tryz.prog (Instr.makeSlice 101 (.int .i64 (n:Int)) (.int .i64 (n:Int))) w K:=
 zeb (α:=Bool) zdi ty4 rfl rfl zp0 (by omega) (by omega) fun w2 hx2 hr2=>by
   refine k w2 hx2 ?_
   obtain ⟨F,hM,hF⟩:=hr2.own
   obtain ⟨b,o,cap,hv,hF2⟩:=zfN hM (by intro e;have:=congrArg List.length e;simp at this;omega)
   simp only [Value.slice.injEq,Option.some.injEq,Addr.mk.injEq,List.cons.injEq,and_true] at hv
   obtain ⟨⟨hb,ho⟩,_⟩:=hv
   rw [←hb] at hF2
   rw [hF2] at hM
   exact hM
theorem zdf (n:Nat) {p:Nat→Prop} (h:∀ i,¬p i):List.replicate n false=zb0 n p:=
 zbr (by simp) fun i _=>⟨fun h=>absurd h zbk,fun hp=>absurd hp (h i)⟩
theorem zod {n q:Nat} {p p':Nat→Prop} (hq:q<n) (h:∀ i,p' i↔p i∨i=q):(zb0 n p).set q true=zb0 n p':=
 zbr (by rw [List.length_set,zas]) fun i hi=>by
   rw [zbE (by rw [zas];exact hq),zbl,h]
   exact ⟨fun h=>h.imp (·.2) id,fun h=>h.imp (fun h=>⟨hi,h⟩) id⟩
def zjz (c:DCode) (p:Nat) (op:Int) (q:Nat):Prop:=∃ i,i<c.ins.length∧zbJ c p i∧(zaj c i).op=op∧(zaj c i).arg=(q:Int)
theorem zi7 {w W0:World} {v0:Value} {c:DCode} {p:Nat} {op:Int} (h0:Is W0 v0 c) (e0:Ext W0 w) (hc:CodeR c) (hp:p<c.entry.length) (hop:op=4∨op=5) :
   CALL Tryz.prog 212 [v0,.int .i64 (p:Int),.int .i64 op] w fun r w'=>Ext w w'∧Own w.heap.size w' r (zaF (zbw c.procs.length (zjz c p op))):=by
 refine F212_call ?_
 unfold F212
 have hil:=hc.f.ins
 have h8:=hc.1.procs8
 refine zdm h0 e0 fun w1 hx1 hA=>?_
 refine zab zdh hA (Ext.refl _) fun v10 h10=>?_
 refine (zly h10 (Ext.refl _) hc hp).mono ?_
 rintro v12 w2 ⟨hx2,ho2⟩
 refine zaa zbS ?_
 refine zab zb1 (zaw hA) hx2 fun v14 h14=>?_
 refine zae u22 h14 ?_
 have hs1:=hx1.size
 have hs2:=hx2.size
 refine zeg h8.2 (by omega) fun w3 hx3 hM3=>?_
 have hs3:=hx3.size
 have ho3:=ho2.toI.ext hx3
 have hm3:=hM3.lt _ (List.mem_singleton.2 rfl)
 have hx13:=hx2.trans hx3
 generalize hm:w2.heap.size=m at *
 rw [zdf c.procs.length (p:=fun q=>∃ i,i<0∧zbJ c p i∧(zaj c i).op=op∧(zaj c i).arg=(q:Int)) (fun i ⟨j,h,_⟩=>by omega)] at hM3
 refine zaq c.ins.length (fun k us w'=>us=[.int .i64 (k:Int)]∧k≤c.ins.length∧ChgI m (m+1) w3 w'∧Mine [m] w' (.slice (some ⟨m,0,none⟩) c.procs.length c.procs.length) (zb0 c.procs.length fun q=>∃ i,i<k∧zbJ c p i∧(zaj c i).op=op∧(zaj c i).arg=(q:Int))) 0 (Nat.zero_le _) ⟨rfl,Nat.zero_le _,ChgI.refl _,hM3⟩ ?_
 rintro k mk u w4 hkm ⟨hu,hkl,hc4,hM4⟩
 simp only [List.map_cons,List.map_nil,List.cons.injEq,and_true] at hu
 rw [hu]
 have hx4:Ext w1 w4:=hx13.chgI hc4 (by omega)
 have ho4:=ho3.chg hc4 (by omega)
 refine zaa zaK ?_
 refine zab zdn (zak hA) hx4 fun v19 h19=>?_
 refine zae u30 h19 ?_
 refine zah ?_
 refine br (fun hlt=>?_) (fun hge=>?_)
 case refine_2=>
   have hke:k=c.ins.length:=by omega
   rw [hke] at hM4
   refine (zd1 hM4.is (Ext.refl _) (by rw [zas];omega)).mono ?_
   rintro r w5 ⟨hx5,ho5⟩
   rw [zas,zgz] at ho5
   have hsz:=hx4.size
   exact ⟨(hx1.trans hx4).trans hx5,ho5.mono (by omega)⟩
 have hk:k<c.ins.length:=by omega
 have hno:¬(zbJ c p k∧(zaj c k).op=op)→(zb0 c.procs.length fun q=>∃ i,i<k∧zbJ c p i∧(zaj c i).op=op∧(zaj c i).arg=(q:Int))=zb0 c.procs.length fun q=>∃ i,i<k+1∧zbJ c p i∧(zaj c i).op=op∧(zaj c i).arg=(q:Int):=fun hn=>zaT fun q _=>by
   constructor
   · rintro ⟨i,h1,h2⟩
     exact ⟨i,by omega,h2⟩
   rintro ⟨i,h1,h2,h3,h4⟩
   by_cases h:i=k
   · subst h;exact absurd ⟨h2,h3⟩ hn
   exact ⟨i,by omega,h2,h3,h4⟩
 refine zac zdi ty4 (i:=k) ho4.is (by rw [zas];exact hk) fun b2 o2 hA2=>?_
 refine zaX ty4 hA2 (Ext.refl _) ?_
 have hmk:=zbl (n:=c.ins.length) (p:=zbJ c p) (i:=k)
 rw [za5 (by rw [zas];exact hk)] at hmk
 refine zb8 (fun hf=>?_) (fun hf=>?_)
 case refine_2=>
   refine zaf (by omega) ?_
   refine ⟨mk-1,by omega,k+1,by omega,rfl,by omega,hc4,?_⟩
   rw [←hno fun h=>by rw [hmk.2 ⟨hk,h.1⟩] at hf;cases hf]
   exact hM4
 have hlive:=(hmk.1 hf).2
 refine zaa zaK ?_
 refine zab zdn (zak hA) hx4 fun v30 h30=>?_
 refine zac u30 zaR h30 hk fun b3 o3 hA3=>?_
 rw [zaS] at hA3
 refine zaa zaL ?_
 refine zad ty3 (zat hA3) hx4 fun _=>?_
 refine zao ?_
 refine br (fun ho=>?_) (fun ho=>?_)
 case refine_2=>
   refine zaf (by omega) ?_
   refine ⟨mk-1,by omega,k+1,by omega,rfl,by omega,hc4,?_⟩
   rw [←hno fun h=>ho h.2]
   exact hM4
 have harg:=(ze6 hc hk).2.1
 unfold zbG at harg
 rw [if_neg (by omega),if_pos (by omega)] at harg
 obtain ⟨q,hq⟩:∃ q:Nat,(zaj c k).arg=(q:Int):=⟨(zaj c k).arg.toNat,by omega⟩
 have hql:q<c.procs.length:=by omega
 refine zaa zaK ?_
 refine zab zdn (zak hA) hx4 fun v40 h40=>?_
 refine zac u30 zaR h40 hk fun b5 o5 hA5=>?_
 rw [zaS] at hA5
 refine zaa zbi ?_
 refine zad ty3 (zaJ hA5) hx4 fun _=>?_
 rw [hq]
 refine zch (α:=Bool) rfl zdi ty4 hql ?_
 refine zbx (α:=Bool) rfl ty4 hM4 zas hql za8 fun w5 hc5 hm5=>?_
 have hc5':ChgI m (m+1) w4 w5:=hc5.toI fun b hb=>by simp only [List.mem_cons,List.not_mem_nil,or_false] at hb;omega
 refine zaf (by omega) ?_
 refine ⟨mk-1,by omega,k+1,by omega,rfl,by omega,hc4.trans hc5',?_⟩
 rw [←zod (p:=fun q=>∃ i,i<k∧zbJ c p i∧(zaj c i).op=op∧(zaj c i).arg=(q:Int)) hql fun r=>?_]
 · exact hm5
 constructor
 · rintro ⟨i,h1,h2,h3,h4⟩
   by_cases h:i=k
   · subst h;right;omega
   exact .inl ⟨i,by omega,h2,h3,h4⟩
 rintro (⟨i,h1,h2⟩ | rfl)
 · exact ⟨i,by omega,h2⟩
 exact ⟨k,by omega,hlive,ho,hq⟩
def F73 (a0 a1:Value) (w:World) (R:VW):Prop:=
 cL 125 [a0,(iV 0),(iV 60)] w fun x7 w=>
 rD (Op.unary .not x7) w fun x8=>
 BR x8
 (R (Value.bool false) w)
 (rN 62 3 a1 w fun x11=>
 rB .gtr 3 T0 U0 x11 (iV 2000) w fun x12=>
 BR x12
 (R (Value.bool false) w)
 (LOOPI [5] [(iV 0)] w fun u4 w next4=>
 rN 62 3 a1 w fun x16=>
 rC (u4 5) x16 w fun x17=>
 BR x17
 (rX 62 a1 (u4 5) w fun x22=>
 rF 106 x22 0 w fun x23=>
 rL 3 x23 w fun x24=>
 rB .sub 3 T0 U0 a0 (iV 1) w fun x26=>
 cL 125 [x24,(iV 0),x26] w fun x27 w=>
 rD (Op.unary .not x27) w fun x28=>
 BR x28
 (R (Value.bool false) w)
 (rX 62 a1 (u4 5) w fun x32=>
 rF 106 x32 1 w fun x33=>
 rL 3 x33 w fun x34=>
 rB .sub 3 T0 U0 a0 (iV 1) w fun x36=>
 cL 125 [x34,(iV 0),x36] w fun x37 w=>
 rD (Op.unary .not x37) w fun x38=>
 BR x38
 (R (Value.bool false) w)
 (rA (u4 5) (iV 1) w fun x19=>
 next4 [x19] w)))
 (R (Value.bool true) w)))
def cfg73:Cfg:=⟨extL,[],[(4,1099511611440,[5])],[],[],[],[]⟩
theorem F73_call {a0 a1:Value} {w:World} {R:VW} (h:F73 a0 a1 w R):cL 73 [a0,a1] w R:=co (g:=cfg73) Tryz.func73 (by kernel_rfl) (by kernel_rfl) (by kernel_rfl) h
def F37 (a0 a1:Value) (w:World) (R:VW):Prop:=
 oP (Instr.buildSlice 39 0 #[]) w fun x14 w=>
 cL 73 [a0,a1] w fun x17 w=>
 rD (Op.unary .not x17) w fun x18=>
 BR x18
 (R x14 w)
 (cL 74 [a0,a1] w fun x22 w=>
 oP (Instr.makeSlice 101 a0 a0) w fun x24 w=>
 LOOPI [5,8] [x14,a0] w fun u7 w next7=>
 rB .gtr 3 T0 U0 (u7 8) (iV 0) w fun x27=>
 BR x27
 (LOOPI [5,8,9] [(u7 5),(u7 8),(iV 0)] w fun u9 w next9=>
 rC (u9 9) a0 w fun x30=>
 BR x30
 (rX 101 x24 (u9 9) w fun x35=>
 rL 4 x35 w fun x36=>
 rD (Op.unary .not x36) w fun x37=>
 JOIN [10] (fun J16=>
 LOOPI [10,11] [x37,(iV 0)] w fun u13 w next13=>
 rC (u13 11) a0 w fun x40=>
 BR x40
 (BR (u13 10)
 (rX 99 x22 (u9 9) w fun x48=>
 rL 101 x48 w fun x49=>
 rX 101 x49 (u13 11) w fun x51=>
 rL 4 x51 w fun x52=>
 rD (Op.unary .not x52) w fun x53=>
 BR x53
 (rA (u13 11) (iV 1) w fun x45=>
 next13 [(Value.bool true),x45] w)
 (rX 99 x22 (u13 11) w fun x57=>
 rL 101 x57 w fun x58=>
 rX 101 x58 (u9 9) w fun x60=>
 rL 4 x60 w fun x61=>
 BR x61
 (rA (u13 11) (iV 1) w fun x45=>
 next13 [(Value.bool true),x45] w)
 (rX 101 x24 (u13 11) w fun x66=>
 rL 4 x66 w fun x67=>
 rA (u13 11) (iV 1) w fun x45=>
 next13 [x67,x45] w)))
 (J16 [(u13 10)] w))
 (J16 [(u13 10)] w)) (fun u16 w=>
 rD (Op.unary .not (u16 10)) w fun x70=>
 BR x70
 (rA (u9 9) (iV 1) w fun x32=>
 next9 [(u9 5),(u9 8),x32] w)
 (oP (Instr.buildSlice 23 0 #[]) w fun x71 w=>
 LOOPI [12,13] [x71,(iV 0)] w fun u19 w next19=>
 rC (u19 13) a0 w fun x74=>
 BR x74
 (rB .eql 3 T0 T0 (u19 13) (u9 9) w fun x79=>
 BR x79
 (oP (Instr.buildSlice 23 1 #[(0,(u19 13))]) w fun x100 w=>
 oP (Builtin.append_ #[23,23] 23 [(u19 12),x100].toArray) w fun x101 w=>
 rX 101 x24 (u19 13) w fun x104=>
 oS 4 x104 (Value.bool true) w fun w=>
 rA (u19 13) (iV 1) w fun x76=>
 next19 [x101,x76] w)
 (rX 99 x22 (u9 9) w fun x83=>
 rL 101 x83 w fun x84=>
 rX 101 x84 (u19 13) w fun x86=>
 rL 4 x86 w fun x87=>
 GBR x87
 (rX 99 x22 (u19 13) w fun x91=>
 rL 101 x91 w fun x92=>
 rX 101 x92 (u9 9) w fun x94=>
 rL 4 x94 w fun x95=>
 BR x95
 (oP (Instr.buildSlice 23 1 #[(0,(u19 13))]) w fun x100 w=>
 oP (Builtin.append_ #[23,23] 23 [(u19 12),x100].toArray) w fun x101 w=>
 rX 101 x24 (u19 13) w fun x104=>
 oS 4 x104 (Value.bool true) w fun w=>
 rA (u19 13) (iV 1) w fun x76=>
 next19 [x101,x76] w)
 (rA (u19 13) (iV 1) w fun x76=>
 next19 [(u19 12),x76] w))
 (rA (u19 13) (iV 1) w fun x76=>
 next19 [(u19 12),x76] w)
 (BR undef
 (BR undef
 (oP (Instr.buildSlice 23 1 #[(0,(u19 13))]) w fun x100 w=>
 oP (Builtin.append_ #[23,23] 23 [(u19 12),x100].toArray) w fun x101 w=>
 rX 101 x24 (u19 13) w fun x104=>
 oS 4 x104 (Value.bool true) w fun w=>
 rA (u19 13) (iV 1) w fun x76=>
 next19 [x101,x76] w)
 (rA (u19 13) (iV 1) w fun x76=>
 next19 [(u19 12),x76] w))
 (rA (u19 13) (iV 1) w fun x76=>
 next19 [(u19 12),x76] w))))
 (rN 23 3 (u19 12) w fun x107=>
 rB .sub 3 T0 T0 (u9 8) x107 w fun x108=>
 oP (Instr.buildSlice 39 1 #[(0,(u19 12))]) w fun x111 w=>
 oP (Builtin.append_ #[39,39] 39 [(u9 5),x111].toArray) w fun x112 w=>
 next7 [x112,x108] w))))
 (next7 [(u9 5),(u9 8)] w))
 (R (u7 5) w))
def cfg37:Cfg:=⟨extL,[(16,590295810083827747840,[10])],[(7,10384593717069655257060992591347488,[5,8]),(9,10384593717069655257060992390020896,[5,8,9]),(13,590295810083827747840,[10,11]),(19,40564819202580974365024857370624,[12,13])],[],[],[],[]⟩
theorem F37_call {a0 a1:Value} {w:World} {R:VW} (h:F37 a0 a1 w R):cL 37 [a0,a1] w R:=co (g:=cfg37) Tryz.func37 (by kernel_rfl) (by kernel_rfl) (by kernel_rfl) h
open Rep (rep)
theorem zet {w W1:World} {v1:Value} {n:Nat} {A:List DArc} (h1:Is W1 v1 A) (e1:Ext W1 w) (hn:n≤60) (hA:∀ a∈A,(0≤a.fr∧a.fr<n)∧0≤a.to∧a.to<n) (hl:A.length≤2000) :
   CALL Tryz.prog 73 [.int .i64 (n:Int),v1] w fun r w'=>Ext w w'∧r=.bool true:=by
 refine F73_call ?_
 unfold F73
 refine l01In_ok.mono ?_
 rintro _ w1 ⟨hx1,rfl⟩
 refine zar ?_
 refine br (fun h=>absurd ⟨by omega,by omega⟩ h) (fun _=>?_)
 refine zae u62 h1 ?_
 refine zb9 ?_
 refine br (fun h=>by omega) (fun _=>?_)
 refine zaq A.length (fun k us w'=>us=[.int .i64 (k:Int)]∧k≤A.length∧Ext w w') 0 (Nat.zero_le _) ⟨rfl,Nat.zero_le _,hx1⟩ ?_
 rintro k mk q w3 hkm ⟨hq,hkl,hx3⟩
 simp only [List.map_cons,List.map_nil,List.cons.injEq,and_true] at hq
 rw [hq]
 refine zae u62 h1 ?_
 refine zah ?_
 refine br (fun hlt=>?_) (fun hge=>?_)
 case refine_2=>exact ⟨hx3,rfl⟩
 have hk:k<A.length:=by omega
 obtain ⟨⟨hf0,hf1⟩,ht0,ht1⟩:=hA _ (List.getElem_mem hk)
 refine zac u62 zcx h1 hk fun b3 o3 hA3=>?_
 refine zaa zf6 ?_
 refine zad ty3 (zdQ hA3) (e1.trans hx3) fun _=>?_
 refine za9 (by unfold I64;omega) ?_
 refine l01In_ok.mono ?_
 rintro _ w4 ⟨hx4,rfl⟩
 refine zar ?_
 refine br (fun h=>absurd ⟨by omega,by omega⟩ h) (fun _=>?_)
 refine zac u62 zcx h1 hk fun b5 o5 hA5=>?_
 refine zaa zf7 ?_
 refine zad ty3 (zdR hA5) ((e1.trans hx3).trans hx4) fun _=>?_
 refine za9 (by unfold I64;omega) ?_
 refine l01In_ok.mono ?_
 rintro _ w6 ⟨hx6,rfl⟩
 refine zar ?_
 refine br (fun h=>absurd ⟨by omega,by omega⟩ h) (fun _=>?_)
 refine zaf (by omega) ?_
 exact ⟨mk-1,by omega,k+1,by omega,rfl,by omega,(hx3.trans hx4).trans hx6⟩
structure CI (w1 wT w4 w:World) (tv out lv:Value) (T:List Bool) (lo hi:Nat) (L:List (List Int)) (P:List Int):Prop where
 ext:Ext w1 w
 told:OwnI w1.heap.size wT.heap.size w tv T
 s1:w1.heap.size≤wT.heap.size
 s2:wT.heap.size≤lo
 s3:hi≤w4.heap.size
 s4:w4.heap.size≤w.heap.size
 s5:wT.heap.size≤w4.heap.size
 out:RowI lo hi 23 w out L
 row:RowI w4.heap.size w.heap.size 3 w lv P
theorem CI.push {w1 wT w4 w:World} {tv out lv:Value} {T:List Bool} {lo hi j:Nat} {L:List (List Int)} {P:List Int} {K:Value→World→Prop} (h:CI w1 wT w4 w tv out lv T lo hi L P) (hj:j<T.length) (hj60:j≤60) (hP:P.length≤60)
   (k:∀ v' w',CI w1 wT w4 w' tv out v' (T.set j true) lo hi L (P++[(j:Int)])→K v' w') :
   OP Tryz.prog (Instr.buildSlice 23 1 #[(0,.int .i64 (j:Int))]) w fun s w=>OP Tryz.prog (Builtin.append_ #[23,23] 23 [lv,s].toArray) w fun x w=>RD Tryz.prog (Instr.indexAt 101 tv (.int .i64 (j:Int))) w fun a=>OPU Tryz.prog (Instr.storeAt 4 a (.bool true)) w fun w=>K x w:=by
 have hs1:=h.s1
 have hs2:=h.s2
 have hs3:=h.s3
 have hs4:=h.s4
 have hs5:=h.s5
 refine zcP (lo2:=w.heap.size) (hi2:=w.heap.size) (x:=(j:Int)) u23 ty3 z3 zc3 (by decide) h.row hs4 (ownI_int _ _ (by unfold I64;omega)) (Nat.le_refl _) hs4 (by rw [zam];omega) (by omega) fun v5 w5 hc5 hr5=>?_
 have hsz5:=hc5.size
 obtain ⟨F,hM,hF⟩:=h.told.chg hc5 (by omega)
 refine zcd zdi ty4 hM hj fun b o G hL=>?_
 refine zcu (upd:=fun y=>T.set j y) (y':=true) ty4 hL zga fun w6 F6 hc6 hm6 hF6=>?_
 have hcI:=hc6.toI hF
 have hsz6:=hcI.size
 refine k v5 w6 ⟨(h.ext.chgI hc5 (by omega)).chgI hcI (Nat.le_refl _),⟨F6,hm6,fun b hb=>hF b (hF6 b hb)⟩,hs1,hs2,hs3,by omega,hs5,(h.out.chg hc5 (by omega)).chg hcI (by omega),(hr5.chg hcI (by omega)).mono (Nat.le_refl _) hsz6⟩
theorem zoe {way:Nat→Nat→Prop} {told:Nat→Prop} {i j m:Nat} (h:OkK way told i m) (hj:j≤m):OkK way told i j:=⟨h.1,fun x hx=>h.2 x (by omega)⟩
theorem zhl {w W1:World} {v1:Value} {n:Nat} {A:List DArc} (h1:Is W1 v1 A) (e1:Ext W1 w) (hn:n≤60) (hA:∀ a∈A,(0≤a.fr∧a.fr<n)∧0≤a.to∧a.to<n) (hl:A.length≤2000) :
   CALL Tryz.prog 37 [.int .i64 (n:Int),v1] w fun r w'=>Ext w w'∧Own w.heap.size w' r ((ziu n (RP (nxA n A))).map zaF):=by
 refine F37_call ?_
 unfold F37
 refine zbA (α:=List Int) u39 zbv fun a8 wa hxa hra=>?_
 refine (zet h1 (e1.trans hxa) hn hA hl).mono ?_
 rintro _ wb ⟨hxb,rfl⟩
 refine zaW ?_
 refine zb8 (fun h=>by cases h) (fun _=>?_)
 refine (zgg h1 ((e1.trans hxa).trans hxb) hn hA hl).mono ?_
 rintro v22 w1 ⟨hx1,ho1⟩
 have hWay:=ho1.is
 have hWl:(zdA (nxA n A) n).length=n:=ziG
 have hWr:∀ i (h:i<(zdA (nxA n A) n).length),((zdA (nxA n A) n)[i]).length=n:=fun i h=>by rw [zeX,zas]
 have hWg:∀ i (h:i<(zdA (nxA n A) n).length) x (hx:x<((zdA (nxA n A) n)[i]).length),((zdA (nxA n A) n)[i])[x]=true↔RP (nxA n A) i x:=fun i h x hx=>zkN h hx
 have htr:∀ i j k,RP (nxA n A) i j→RP (nxA n A) j k→RP (nxA n A) i k:=fun _ _ _=>RP.trans
 generalize zdA (nxA n A) n=ws at *
 generalize RP (nxA n A)=way at *
 have hxw1:=(hxa.trans hxb).trans hx1
 have hsw1:=hxw1.size
 refine zeb (α:=Bool) zdi ty4 rfl rfl zqX (by omega) (by omega) fun wT hxT hrT=>?_
 have hsT:=hxT.size
 generalize htv:(Value.slice (some ⟨w1.heap.size,0,none⟩) n n)=tv at *
 have hoT:=hrT.own
 rw [show List.replicate n (RepZ.zv:Bool)=zb0 n fun _=>False from zdf n fun _=>id] at hoT
 have hl0:zcZ n (fun _=>False)=n:=by
   unfold zcZ zbw
   rw [List.filter_eq_self.2 (fun a _=>by simp),List.length_range]
 refine zaq n (fun k us w'=>∃ out f told L lo hi,us=[out,.int .i64 ((zcZ n told:Nat):Int)]∧f+k=n∧zcZ n told≤f∧ziu n way=L++zcN n way f told∧L.length=k∧Whole way told∧Ext w1 w'∧OwnI w1.heap.size wT.heap.size w' tv (zb0 n told)∧wT.heap.size≤lo∧lo≤w'.heap.size∧hi≤w'.heap.size∧RowI lo hi 23 w' out (L.map zaF)) 0 (Nat.zero_le _) ⟨.slice (some a8) 0 0,n,fun _=>False,[],wT.heap.size,wT.heap.size,by rw [hl0],rfl,zhC,rfl,rfl,Whole.start,hxT,hoT,Nat.le_refl _,Nat.le_refl _,Nat.le_refl _,zcc _ _ _ _ _⟩ ?_
 rintro k mk q w2 hkm ⟨out,f,told,L,lo,hi,hq,hfk,hlf,hcL,hLl,hwh,hx2,ho2,hlo,hlo2,hhi,hr2⟩
 obtain ⟨hq1,hq2⟩:=zcO hq
 rw [hq1,hq2]
 have hs2:=hx2.size
 have hll:zcZ n told≤n:=zhC
 refine zb9 ?_
 refine br (fun hpos=>?_) (fun hzero=>?_)
 case refine_2=>
   rw [zf3 (zle (by omega)),List.append_nil] at hcL
   rw [hcL]
   exact ⟨hxw1.trans hx2,hr2.own.own.mono (by omega)⟩
 obtain ⟨i1,hnx⟩:=zlf (told:=told) htr (show 0<zcZ n told by omega)
 refine zaq n (fun i us w'=>w'=w2∧i≤n∧us=[out,.int .i64 ((zcZ n told:Nat):Int),.int .i64 (i:Int)]∧∀ j,j<i→¬OkC n way told j) 0 (Nat.zero_le _) ⟨rfl,Nat.zero_le _,rfl,fun j hj=>by omega⟩ ?_
 rintro i mi q9 w3 hmi ⟨rfl,hil,hq9,hno⟩
 obtain ⟨hq91,hq92,hq93⟩:=zqP hq9
 rw [hq91,hq92,hq93]
 refine zah ?_
 refine br (fun hlt=>?_) (fun hge=>?_)
 case refine_2=>
   have h:=zeU hnx
   exact absurd h (hno i1 (by have:=h.1;omega))
 have hi':i<n:=by omega
 have hTl:(zb0 n told).length=n:=zas
 have hTg:∀ x (hx:x<(zb0 n told).length),(zb0 n told)[x]=true↔told x:=fun x hx=>by
   rw [←za5 hx,zbl]
   exact ⟨fun h=>h.2,fun h=>⟨by omega,h⟩⟩
 refine zac (i:=i) zdi ty4 ho2.is (by omega) fun b4 o4 hA4=>?_
 refine zaX ty4 hA4 (Ext.refl _) ?_
 refine zaW ?_
 refine JOIN.mk (fun us w'=>w'=w3∧∃ b,us=[.bool b]∧(b=true↔OkC n way told i)) ?_ ?_
 · refine zaq n (fun j us w'=>w'=w3∧j≤n∧∃ b,us=[.bool b,.int .i64 (j:Int)]∧(b=true↔OkK way told i j)) 0 (Nat.zero_le _) ⟨rfl,Nat.zero_le _,_,rfl,?_⟩ ?_
   · rw [Bool.not_eq_true',←Bool.not_eq_true,hTg]
     exact ⟨fun h=>⟨h,fun x hx=>by omega⟩,fun h=>h.1⟩
   rintro j mj q13 w4 hmj ⟨rfl,hjl,b,hq13,hb⟩
   obtain ⟨hq131,hq132⟩:=zcO hq13
   rw [hq131,hq132]
   refine zah ?_
   refine br (fun hlt2=>?_) (fun hge2=>?_)
   case refine_2=>
     have hje:j=n:=by omega
     rw [hje] at hb
     exact ⟨rfl,b,rfl,hb.trans (zmp hi')⟩
   have hj:j<n:=by omega
   refine zb8 (fun ht=>?_) (fun hf=>?_)
   case refine_2=>
     refine ⟨rfl,b,rfl,?_⟩
     rw [hf]
     refine ⟨(fun h=>by cases h),fun h=>?_⟩
     have:=hb.2 (zoe ((zmp hi').2 h) (by omega))
     rw [hf] at this;cases this
   have hK:=hb.1 ht
   have hsucc:=znZ (way:=way) (told:=told) (i:=i) (j:=j)
   refine zfn (i:=i) (j:=j) hWay hx2 (by omega) (by rw [hWr];omega) ?_
   have hw1:=hWg i (by omega) j (by rw [hWr];omega)
   refine zaW ?_
   refine zb8 (fun hn1=>?_) (fun hy1=>?_)
   · rw [Bool.not_eq_true',←Bool.not_eq_true,hw1] at hn1
     refine zaf (by omega) ?_
     exact ⟨mj-1,by omega,j+1,by omega,rfl,by omega,true,rfl,⟨fun _=>hsucc.2 ⟨hK,fun h=>absurd h hn1⟩,fun _=>rfl⟩⟩
   rw [Bool.not_eq_false',hw1] at hy1
   refine zfn (i:=j) (j:=i) hWay hx2 (by omega) (by rw [hWr];omega) ?_
   have hw2:=hWg j (by omega) i (by rw [hWr];omega)
   refine zb8 (fun hy2=>?_) (fun hn2=>?_)
   · refine zaf (by omega) ?_
     exact ⟨mj-1,by omega,j+1,by omega,rfl,by omega,true,rfl,⟨fun _=>hsucc.2 ⟨hK,fun _=>.inl (hw2.1 hy2)⟩,fun _=>rfl⟩⟩
   have hn2':¬way j i:=fun h=>by rw [hw2.2 h] at hn2;cases hn2
   refine zac (i:=j) zdi ty4 ho2.is (by omega) fun b5 o5 hA5=>?_
   refine zaX ty4 hA5 (Ext.refl _) ?_
   refine zaf (by omega) ?_
   refine ⟨mj-1,by omega,j+1,by omega,rfl,by omega,_,rfl,?_⟩
   rw [hTg,hsucc]
   exact ⟨fun h=>⟨hK,fun _=>.inr h⟩,fun h=>(h.2 hy1).resolve_left hn2'⟩
 rintro q16 w4 ⟨rfl,b,hq16,hb⟩
 simp only [List.map_cons,List.map_nil,List.cons.injEq,and_true] at hq16
 rw [hq16]
 refine zaW ?_
 refine zb8 (fun hnb=>?_) (fun hyb=>?_)
 · have hnok:¬OkC n way told i:=fun h=>by rw [hb.2 h] at hnb;cases hnb
   refine zaf (by omega) ?_
   refine ⟨mi-1,by omega,i+1,by omega,rfl,by omega,rfl,fun j hj=>?_⟩
   rcases Nat.lt_or_eq_of_le (Nat.lt_succ_iff.1 hj) with h | rfl
   · exact hno j h
   exact hnok
 have hok:OkC n way told i:=hb.1 (by simpa using hyb)
 have hnxi:=zff hok hno
 obtain ⟨f',hcf,hlf',hff⟩:=zf4 hlf hnxi
 have hleft:=znJ (n:=n) hwh hok.2.1
 refine zbA (α:=Int) u23 ty3 fun a9 w5 hx5 hr5=>?_
 have hs5:=hx5.size
 have hCI0:CI w1 wT w5 w5 tv out (.slice (some a9) 0 0) (zb0 n (zgf way told i 0)) lo hi (L.map zaF) (zaF (zbw 0 (zbh way i))):=
   ⟨hx2.trans hx5,by rw [←zlq];exact ho2.ext hx5,hsT,hlo,by omega,Nat.le_refl _,by omega,hr2.ext hx5,zcc _ _ _ _ _⟩
 refine zaq n (fun j us w'=>∃ lv,us=[lv,.int .i64 (j:Int)]∧j≤n∧CI w1 wT w5 w' tv out lv (zb0 n (zgf way told i j)) lo hi (L.map zaF) (zaF (zbw j (zbh way i)))) 0 (Nat.zero_le _) ⟨_,rfl,Nat.zero_le _,hCI0⟩ ?_
 rintro j mj q19 w6 hmj ⟨lv,hq19,hjl,hCI⟩
 obtain ⟨hq191,hq192⟩:=zcO hq19
 rw [hq191,hq192]
 have hsl:(zbw j (zbh way i)).length≤j:=zbU
 refine zah ?_
 refine br (fun hlt2=>?_) (fun hge2=>?_)
 · have hj:j<n:=by omega
   refine zao ?_
   refine br (fun heq=>?_) (fun hne=>?_)
   · have hp:zbh way i j:=.inl (by omega)
     refine hCI.push (by rw [zas];exact hj) (by omega) (by rw [zag];omega) fun v' w' hC'=>?_
     rw [ziI hj hp,show zaF (zbw j (zbh way i))++[(j:Int)]=zaF (zbw (j+1) (zbh way i)) by rw [zcE hp,zbK];rfl] at hC'
     refine zaf (by omega) ?_
     exact ⟨mj-1,by omega,j+1,by omega,v',rfl,by omega,hC'⟩
   have hnext:¬zbh way i j→∃ m',m'<mj∧∃ k',k'+m'=n∧∃ lv',[lv,Value.int .i64 ((j+1:Nat):Int)]=[lv',.int .i64 (k':Int)]∧k'≤n∧CI w1 wT w5 w6 tv out lv' (zb0 n (zgf way told i k')) lo hi (L.map zaF) (zaF (zbw k' (zbh way i))):=fun hp=>by
     rw [zn0 hp,←zde hp] at hCI
     exact ⟨mj-1,by omega,j+1,by omega,lv,rfl,by omega,hCI⟩
   refine zfn (i:=i) (j:=j) hWay hCI.ext (by omega) (by rw [hWr];omega) ?_
   have hw1:=hWg i (by omega) j (by rw [hWr];omega)
   refine zqC (fun hy1=>?_) (fun hn1=>?_)
   · refine zfn (i:=j) (j:=i) hWay hCI.ext (by omega) (by rw [hWr];omega) ?_
     have hw2:=hWg j (by omega) i (by rw [hWr];omega)
     refine zb8 (fun hy2=>?_) (fun hn2=>?_)
     · have hp:zbh way i j:=.inr ⟨hw1.1 hy1,hw2.1 hy2⟩
       refine hCI.push (by rw [zas];exact hj) (by omega) (by rw [zag];omega) fun v' w' hC'=>?_
       rw [ziI hj hp,show zaF (zbw j (zbh way i))++[(j:Int)]=zaF (zbw (j+1) (zbh way i)) by rw [zcE hp,zbK];rfl] at hC'
       refine zaf (by omega) ?_
       exact ⟨mj-1,by omega,j+1,by omega,v',rfl,by omega,hC'⟩
     refine zaf (by omega) ?_
     refine hnext fun hp=>?_
     rcases hp with h | h
     · exact hne (by omega)
     rw [hw2.2 h.2] at hn2;cases hn2
   refine zaf (by omega) ?_
   refine hnext fun hp=>?_
   rcases hp with h | h
   · exact hne (by omega)
   rw [hw1.2 h.1] at hn1;cases hn1
 have hje:j=n:=by omega
 rw [hje,zmq] at hCI
 have hsn:(zbw n (zbh way i)).length≤n:=zbU
 have hc4:=hCI.s4
 refine zae u23 hCI.row.is ?_
 refine za9 (by rw [zag];unfold I64;omega) ?_
 refine zcP (lo2:=w5.heap.size) (hi2:=w6.heap.size) (x:=zaF (zbw n (zbh way i))) u39 zbv z23 zqw (by decide) hCI.out (by omega) hCI.row.own (by omega) (by omega) (by rw [zam,List.length_map];omega) (by rw [List.length_map];omega) fun v54 w9 hc9 hr9=>?_
 have hs9:=hc9.size
 refine ⟨mk-1,by omega,k+1,by omega,v54,f',zeT way told i,L++[zbw n (zbh way i)],lo,w9.heap.size,?_,by omega,hlf',by rw [hcL,hcf,List.append_assoc];rfl,by simp [hLl],hwh.more htr,hCI.ext.chgI hc9 (by omega),hCI.told.chg hc9 (by omega),hlo,by omega,Nat.le_refl _,?_⟩
 · have:((zcZ n told:Nat):Int)-(((zaF (zbw n (zbh way i))).length:Nat):Int)=((zcZ n (zeT way told i):Nat):Int):=by rw [zag];omega
   rw [this]
 rw [List.map_append]
 exact hr9
def F140 (a0 a1:Value) (w:World) (R:VW):Prop:=
 rB .lss 3 T0 U0 a0 (iV 0) w fun x8=>
 BR x8
 (R (Value.bool false) w)
 (rB .gtr 3 T0 U0 a0 (iV 60) w fun x11=>
 BR x11
 (R (Value.bool false) w)
 (rN 62 3 a1 w fun x15=>
 rB .gtr 3 T0 U0 x15 (iV 2000) w fun x16=>
 BR x16
 (R (Value.bool false) w)
 (rN 62 3 a1 w fun x19=>
 LOOPI [20] [(iV 0)] w fun u4 w next4=>
 rC (u4 20) x19 w fun x21=>
 BR x21
 (rX 62 a1 (u4 20) w fun x22=>
 rL 106 x22 w fun x23=>
 oP (Instr.alloc 106 true (.tuple #[])) w fun x6 w=>
 oS 106 x6 x23 w fun w=>
 rF 106 x6 0 w fun x24=>
 rL 3 x24 w fun x25=>
 rB .lss 3 T0 U0 x25 (iV 0) w fun x26=>
 BR x26
 (R (Value.bool false) w)
 (rF 106 x6 0 w fun x28=>
 rL 3 x28 w fun x29=>
 rB .geq 3 T0 T0 x29 a0 w fun x31=>
 BR x31
 (R (Value.bool false) w)
 (rF 106 x6 1 w fun x34=>
 rL 3 x34 w fun x35=>
 rB .lss 3 T0 U0 x35 (iV 0) w fun x36=>
 BR x36
 (R (Value.bool false) w)
 (rF 106 x6 1 w fun x39=>
 rL 3 x39 w fun x40=>
 rB .geq 3 T0 T0 x40 a0 w fun x42=>
 BR x42
 (R (Value.bool false) w)
 (rA (u4 20) (iV 1) w fun x44=>
 next4 [x44] w)))))
 (R (Value.bool true) w))))
def cfg140:Cfg:=⟨extL,[],[(4,35184371040336,[20])],[],[],[],[]⟩
theorem F140_call {a0 a1:Value} {w:World} {R:VW} (h:F140 a0 a1 w R):cL 140 [a0,a1] w R:=co (g:=cfg140) Tryz.func140 (by kernel_rfl) (by kernel_rfl) (by kernel_rfl) h
def F81 (a0 a1 a2:Value) (w:World) (R:VW):Prop:=
 cL 140 [a0,a1] w fun x12 w=>
 rD (Op.unary .not x12) w fun x13=>
 BR x13
 (R (Value.bool false) w)
 (cL 84 [a0,a1] w fun x16 w=>
 rN 23 3 a2 w fun x18=>
 LOOPI [19] [(iV 0)] w fun u5 w next5=>
 rC (u5 19) x18 w fun x20=>
 BR x20
 (rX 23 a2 (u5 19) w fun x21=>
 rL 3 x21 w fun x22=>
 rB .geq 3 T0 U0 x22 (iV 0) w fun x24=>
 BR x24
 (rC x22 a0 w fun x28=>
 BR x28
 (rX 118 x16 x22 w fun x33=>
 rL 120 x33 w fun x34=>
 rD (convert 3 121 x22) w fun x36=>
 rB .shr 120 T0 T0 x34 x36 w fun x37=>
 rB .and 120 T0 U0 x37 (Value.int .u64 1) w fun x38=>
 rB .eql 120 T0 U0 x38 (Value.int .u64 1) w fun x39=>
 BR x39
 (R (Value.bool true) w)
 (rA (u5 19) (iV 1) w fun x41=>
 next5 [x41] w))
 (rA (u5 19) (iV 1) w fun x41=>
 next5 [x41] w))
 (rA (u5 19) (iV 1) w fun x41=>
 next5 [x41] w))
 (R (Value.bool false) w))
def cfg81:Cfg:=⟨extL,[],[(5,4398045987392,[19])],[],[],[],[]⟩
theorem F81_call {a0 a1 a2:Value} {w:World} {R:VW} (h:F81 a0 a1 a2 w R):cL 81 [a0,a1,a2] w R:=co (g:=cfg81) Tryz.func81 (by kernel_rfl) (by kernel_rfl) (by kernel_rfl) h
def F72 (a0 a1 a2:Value) (w:World) (R:VW):Prop:=
 cL 73 [a0,a1] w fun x11 w=>
 rD (Op.unary .not x11) w fun x12=>
 BR x12
 (R (Value.bool false) w)
 (cL 74 [a0,a1] w fun x15 w=>
 LOOPI [8] [(iV 0)] w fun u5 w next5=>
 rN 23 3 a2 w fun x18=>
 rC (u5 8) x18 w fun x19=>
 BR x19
 ((fun w=>rX 23 a2 (u5 8) w fun x24=>
 rL 3 x24 w fun x25=>
 rB .sub 3 T0 U0 a0 (iV 1) w fun x27=>
 cL 125 [x25,(iV 0),x27] w fun x28 w=>
 BR x28
 (rX 23 a2 (u5 8) w fun x33=>
 rL 3 x33 w fun x34=>
 rX 99 x15 x34 w fun x35=>
 rL 101 x35 w fun x36=>
 rX 23 a2 (u5 8) w fun x39=>
 rL 3 x39 w fun x40=>
 rX 101 x36 x40 w fun x41=>
 rL 4 x41 w fun x42=>
 BR x42
 (R (Value.bool true) w)
 (rA (u5 8) (iV 1) w fun x21=>
 next5 [x21] w))
 (rA (u5 8) (iV 1) w fun x21=>
 next5 [x21] w)) (World.drew1 w))
 (R (Value.bool false) w))
def cfg72:Cfg:=⟨extL,[],[(5,17592185979200,[8])],[(7,[0,1,2,3,4,5,6,7,8,9,10,11,12,13,14,15,16,17,18,19,20,21],0)],[],[],[]⟩
theorem F72_call {a0 a1 a2:Value} {w:World} {R:VW} (h:F72 a0 a1 a2 w R):cL 72 [a0,a1,a2] w R:=co (g:=cfg72) Tryz.func72 (by kernel_rfl) (by kernel_rfl) (by kernel_rfl) h
open Rep (rep)
theorem zg1 {w W1:World} {v1:Value} {n:Nat} {A:List DArc} (h1:Is W1 v1 A) (e1:Ext W1 w) (hn:n≤60) (hA:∀ a∈A,(0≤a.fr∧a.fr<n)∧0≤a.to∧a.to<n) (hl:A.length≤2000) :
   CALL Tryz.prog 140 [.int .i64 (n:Int),v1] w fun r w'=>Ext w w'∧r=.bool true:=by
 refine F140_call ?_
 unfold F140
 refine zah ?_
 refine br (fun h=>by omega) (fun _=>?_)
 refine zb9 ?_
 refine br (fun h=>by omega) (fun _=>?_)
 refine zae u62 h1 ?_
 refine zb9 ?_
 refine br (fun h=>by omega) (fun _=>?_)
 refine zae u62 h1 ?_
 refine zaq A.length (fun k us w'=>us=[.int .i64 (k:Int)]∧k≤A.length∧Ext w w') 0 (Nat.zero_le _) ⟨rfl,Nat.zero_le _,Ext.refl _⟩ ?_
 rintro k mk q w3 hkm ⟨hq,hkl,hx3⟩
 simp only [List.map_cons,List.map_nil,List.cons.injEq,and_true] at hq
 rw [hq]
 refine zah ?_
 refine br (fun hlt=>?_) (fun hge=>?_)
 case refine_2=>exact ⟨hx3,rfl⟩
 have hk:k<A.length:=by omega
 obtain ⟨⟨hf0,hf1⟩,ht0,ht1⟩:=hA _ (List.getElem_mem hk)
 refine zac u62 zcx h1 hk fun b3 o3 hA3=>?_
 refine zab zcx hA3 (e1.trans hx3) fun v17 h17=>?_
 refine zct znN rfl zcx rfl h17 (e1.trans hx3) fun w4 hx4 hA4 hV4=>?_
 refine zaa zf6 ?_
 refine zad ty3 (zdQ hA4) (Ext.refl _) fun _=>?_
 refine zah ?_
 refine br (fun h=>by omega) (fun _=>?_)
 refine zaa zf6 ?_
 refine zad ty3 (zdQ hA4) (Ext.refl _) fun _=>?_
 refine zbY ?_
 refine br (fun h=>by omega) (fun _=>?_)
 refine zaa zf7 ?_
 refine zad ty3 (zdR hA4) (Ext.refl _) fun _=>?_
 refine zah ?_
 refine br (fun h=>by omega) (fun _=>?_)
 refine zaa zf7 ?_
 refine zad ty3 (zdR hA4) (Ext.refl _) fun _=>?_
 refine zbY ?_
 refine br (fun h=>by omega) (fun _=>?_)
 refine zaf (by omega) ?_
 exact ⟨mk-1,by omega,k+1,by omega,rfl,by omega,hx3.trans hx4⟩
theorem zh6 {w W1 W2:World} {v1 v2:Value} {n:Nat} {A:List DArc} {p:List Nat} (h1:Is W1 v1 A) (e1:Ext W1 w) (h2:Is W2 v2 (zaF p)) (e2:Ext W2 w) (hn:n≤60) (hA:∀ a∈A,(0≤a.fr∧a.fr<n)∧0≤a.to∧a.to<n) (hl:A.length≤2000) (hp:∀ x∈p,x<n) (hpl:p.length≤60) :
   CALL Tryz.prog 81 [.int .i64 (n:Int),v1,v2] w fun r w'=>Ext w w'∧∃ b,r=.bool b∧(b=true↔zkD (nxA n A) p):=by
 refine F81_call ?_
 unfold F81
 refine (zg1 h1 e1 hn hA hl).mono ?_
 rintro _ w1 ⟨hx1,rfl⟩
 refine zaW ?_
 refine zb8 (fun h=>by cases h) (fun _=>?_)
 refine (zha h1 (e1.trans hx1) hn hA hl).mono ?_
 rintro v16 w2 ⟨hx2,ho2⟩
 have hWay:=ho2.is
 refine zae u23 h2 ?_
 rw [zag]
 refine zaq p.length (fun k us w'=>us=[.int .i64 (k:Int)]∧k≤p.length∧Ext w2 w'∧∀ x∈p.take k,¬RP (nxA n A) x x) 0 (Nat.zero_le _) ⟨rfl,Nat.zero_le _,Ext.refl _,by simp⟩ ?_
 rintro k mk q w3 hkm ⟨hq,hkl,hx3,hno⟩
 simp only [List.map_cons,List.map_nil,List.cons.injEq,and_true] at hq
 rw [hq]
 refine zah ?_
 refine br (fun hlt=>?_) (fun hge=>?_)
 case refine_2=>
   have hke:k=p.length:=by omega
   rw [hke,List.take_length] at hno
   exact ⟨(hx1.trans hx2).trans hx3,false,rfl,(fun h=>by cases h),fun ⟨x,hx,hr⟩=>absurd hr (hno x hx)⟩
 have hk:k<p.length:=by omega
 have hpk:=hp _ (List.getElem_mem hk)
 refine zac (i:=k) u23 ty3 h2 (by rw [zag];exact hk) fun b3 o3 hA3=>?_
 rw [zaY] at hA3
 refine zad ty3 hA3 (((e2.trans hx1).trans hx2).trans hx3) fun _=>?_
 refine zbY ?_
 refine br (fun _=>?_) (fun h=>by omega)
 refine zah ?_
 refine br (fun _=>?_) (fun h=>by omega)
 refine zhQ (i:=p[k]) hWay hx3 (by rw [ziB];exact hpk) ?_
 rw [ziC]
 have h62:zbF (RP (nxA n A) p[k]) n<4611686018427387904:=zcy hn
 refine zbD (by kernel_rfl) zik (by omega) ?_
 refine zfm h62 ?_
 refine zfl (n:=1) (Nat.lt_of_le_of_lt (ziE _ _) h62) (by omega) ?_
 refine zao ?_
 refine br (fun hb=>?_) (fun hb=>?_)
 · rw [zlO,zaA] at hb
   exact ⟨(hx1.trans hx2).trans hx3,true,rfl,fun _=>⟨_,List.getElem_mem hk,hb.2⟩,fun _=>rfl⟩
 refine zaf (by omega) ?_
 refine ⟨mk-1,by omega,k+1,by omega,rfl,by omega,hx3,fun x hx=>?_⟩
 rw [List.take_succ_eq_append_getElem hk] at hx
 rcases List.mem_append.1 hx with hx | hx
 · exact hno x hx
 simp only [List.mem_singleton] at hx
 subst hx
 exact fun h=>hb (by rw [zlO,zaA];exact ⟨hpk,h⟩)
theorem zh7 {w W1 W2:World} {v1 v2:Value} {n:Nat} {A:List DArc} {p:List Nat} (h1:Is W1 v1 A) (e1:Ext W1 w) (h2:Is W2 v2 (zaF p)) (e2:Ext W2 w) (hn:n≤60) (hA:∀ a∈A,(0≤a.fr∧a.fr<n)∧0≤a.to∧a.to<n) (hl:A.length≤2000) (hp:∀ x∈p,x<n) (hpl:p.length≤60) :
   CALL Tryz.prog 72 [.int .i64 (n:Int),v1,v2] w fun r w'=>Ext w w'∧∃ b,r=.bool b∧(b=true↔zkD (nxA n A) p):=by
 refine F72_call ?_
 unfold F72
 refine (zet h1 e1 hn hA hl).mono ?_
 rintro _ w1 ⟨hx1,rfl⟩
 refine zaW ?_
 refine zb8 (fun h=>by cases h) (fun _=>?_)
 refine (zgg h1 (e1.trans hx1) hn hA hl).mono ?_
 rintro v16 w2 ⟨hx2,ho2⟩
 have hWay:=ho2.is
 refine zaq p.length (fun k us w'=>us=[.int .i64 (k:Int)]∧k≤p.length∧Ext w2 w'∧∀ x∈p.take k,¬RP (nxA n A) x x) 0 (Nat.zero_le _) ⟨rfl,Nat.zero_le _,Ext.refl _,by simp⟩ ?_
 rintro k mk q w3 hkm ⟨hq,hkl,hx3,hno⟩
 simp only [List.map_cons,List.map_nil,List.cons.injEq,and_true] at hq
 rw [hq]
 refine zae u23 h2 ?_
 rw [zag]
 refine zah ?_
 refine br (fun hlt=>?_) (fun hge=>?_)
 case refine_2=>
   have hke:k=p.length:=by omega
   rw [hke,List.take_length] at hno
   exact ⟨(hx1.trans hx2).trans hx3,false,rfl,(fun h=>by cases h),fun ⟨x,hx,hr⟩=>absurd hr (hno x hx)⟩
 have hk:k<p.length:=by omega
 have hpk:=hp _ (List.getElem_mem hk)
 have hxd:=zan w3
 generalize World.drew1 w3=w4 at *
 have hx4:=hx3.trans hxd
 have e4:=((e2.trans hx1).trans hx2).trans hx4
 refine zac (i:=k) u23 ty3 h2 (by rw [zag];exact hk) fun b3 o3 hA3=>?_
 rw [zaY] at hA3
 refine zad ty3 hA3 e4 fun _=>?_
 refine za9 (by unfold I64;omega) ?_
 refine l01In_ok.mono ?_
 rintro _ w5 ⟨hx5,rfl⟩
 refine br (fun _=>?_) (fun h=>absurd ⟨by omega,by omega⟩ h)
 refine zac (i:=k) u23 ty3 h2 (by rw [zag];exact hk) fun b6 o6 hA6=>?_
 rw [zaY] at hA6
 refine zad ty3 hA6 (e4.trans hx5) fun _=>?_
 have hi:p[k]<(zdA (nxA n A) n).length:=by rw [ziG];exact hpk
 refine zac (i:=p[k]) u99 zck hWay hi fun b7 o7 hA7=>?_
 refine zab zck hA7 (hx4.trans hx5) fun v7 h7=>?_
 refine zac (i:=k) u23 ty3 h2 (by rw [zag];exact hk) fun b8 o8 hA8=>?_
 rw [zaY] at hA8
 refine zad ty3 hA8 (e4.trans hx5) fun _=>?_
 have hj:p[k]<((zdA (nxA n A) n)[p[k]]).length:=by rw [zeX,zas];exact hpk
 refine zac (i:=p[k]) zdi ty4 h7 hj fun b9 o9 hA9=>?_
 refine zaX ty4 hA9 (hx4.trans hx5) ?_
 have hat:=zkN hi hj
 refine zb8 (fun hb=>?_) (fun hb=>?_)
 · exact ⟨((hx1.trans hx2).trans hx4).trans hx5,true,rfl,fun _=>⟨_,List.getElem_mem hk,hat.1 hb⟩,fun _=>rfl⟩
 refine zaf (by omega) ?_
 refine ⟨mk-1,by omega,k+1,by omega,rfl,by omega,hx4.trans hx5,fun x hx=>?_⟩
 rw [List.take_succ_eq_append_getElem hk] at hx
 rcases List.mem_append.1 hx with hx | hx
 · exact hno x hx
 simp only [List.mem_singleton] at hx
 subst hx
 exact fun h=>by rw [hat.2 h] at hb;cases hb
end Go.Proofs.YtifonhplnmpgaaaGreat
