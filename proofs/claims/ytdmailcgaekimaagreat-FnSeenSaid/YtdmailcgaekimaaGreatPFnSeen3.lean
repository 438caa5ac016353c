/-
  Parts of the proof, put together by program.
-/
import Derived.Test.YtdmailcgaekimaaGreatPFnSeen2
set_option linter.unusedVariables false
set_option linter.unusedSimpArgs false
set_option linter.unusedSectionVars false
namespace Go.Proofs.YtdmailcgaekimaaGreat
open Go Go.Sh Go.Proofs
open Rep (rep)
def zuw:DIns:=⟨0,0,term0,0⟩
def en (c:DCode) (i:Nat):Int:=c.entry.getD i 0
def zbo (c:DCode) (j:Nat):DIns:=c.ins.getD j zuw
theorem zbU {c:DCode} {i:Nat} (h:i<c.entry.length):c.entry[i]=en c i:=by unfold en;rw [List.getD_eq_getElem?_getD,List.getElem?_eq_getElem h];rfl
theorem zaO {c:DCode} {i:Nat} (h:i<c.ins.length):c.ins[i]=zbo c i:=by unfold zbo;rw [List.getD_eq_getElem?_getD,List.getElem?_eq_getElem h];rfl
def prc (c:DCode) (a:Int):Nat→Int
 | 0=>-1
 | n+1=>if en c n≤a then n else prc c a n
def zaL (c:DCode) (a:Int):Int:=prc c a c.entry.length
theorem zhJ {c:DCode} {a:Int} {m:Nat}:∀ {n:Nat},m≤n→(∀ j,m≤j→j<n→a<en c j)→prc c a n=prc c a m
 | 0,h,_=>by rw [Nat.le_zero.1 h]
 | n+1,h,hj=>by
   by_cases e:m=n+1
   · rw [e]
   rw [prc,if_neg (by have:=hj n (by omega) (by omega);omega)]
   exact zhJ (by omega) fun j h1 h2=>hj j h1 (by omega)
theorem zrq {c:DCode} {a:Int}:∀ (n:Nat),-1≤prc c a n∧prc c a n<n
 | 0=>by simp [prc]
 | n+1=>by
   have:=zrq (c:=c) (a:=a) n
   rw [prc]
   split<;>omega
theorem zgj {c:DCode} {a:Int}:-1≤zaL c a∧zaL c a<c.entry.length:=zrq _
def zd9 (c:DCode) (p:Int):Int:=if p+1<c.entry.length then en c (p+1).toNat-1 else (c.ins.length:Int)-1
def zdl (c:DCode) (i:Nat):Int:=if i+1<c.entry.length then en c (i+1) else c.ins.length
theorem zdq (c:DCode) (i:Nat):zd9 c i=zdl c i-1:=by
 unfold zd9 zdl
 have e:((i:Int)+1).toNat=i+1:=by omega
 by_cases h:i+1<c.entry.length
 · rw [if_pos (by omega),if_pos h,e]
 rw [if_neg (by omega),if_neg h]
def F151 (a0 a1:Value) (w:World) (R:VW):Prop:=
 oP (Instr.box 28 a0) w fun x2 w=>
 rF 28 x2 3 w fun x6=>
 rL 25 x6 w fun x7=>
 rN 25 3 x7 w fun x8=>
 rB .sub 3 T0 U0 x8 (iV 1) w fun x9=>
 LOOPI [5] [x9] w fun u2 w next2=>
 rB .geq 3 T0 U0 (u2 5) (iV 0) w fun x11=>
 BR x11
 (rF 28 x2 3 w fun x14=>
 rL 25 x14 w fun x15=>
 rX 25 x15 (u2 5) w fun x17=>
 rL 3 x17 w fun x18=>
 rB .leq 3 T0 T0 x18 a1 w fun x20=>
 BR x20
 (R (u2 5) w)
 (rB .sub 3 T0 U0 (u2 5) (iV 1) w fun x13=>
 next2 [x13] w))
 (R (iV (-1)) w)
def cfg151:Cfg:=⟨extL,[],[(2,4193328,[5])],[],[],[],[]⟩
theorem F151_call {a0 a1:Value} {w:World} {R:VW} (h:F151 a0 a1 w R):cL 151 [a0,a1] w R:=co (g:=cfg151) Tryz.func151 (by kernel_rfl) (by kernel_rfl) (by kernel_rfl) h
theorem zgQ {w:World} {v0:Value} {W0:World} {c:DCode} {a:Int}  (h0:Is W0 v0 c) (e0:Ext W0 w)  :
   CALL Tryz.prog 151 [v0,.int .i64 a] w fun r w'=>Ext w w'∧(r=.int .i64 (zaL c a)):=by
 refine F151_call ?_
 unfold F151
 refine zal zbq rfl h0 e0 fun w1_ hx1_ hA2 hV2=>?_
 refine zaa zbn ?_
 refine zab zbk (zax hA2) (Ext.refl w1_) fun v7 h7=>?_
 have hln8:=zaf h7
 refine zae u25 h7 ?_
 refine za2 (by unfold I64;omega) ?_
 refine zaE (c.entry.length) (fun k us w'=>us=[.int .i64 ((c.entry.length:Int)-1-(k:Int))]∧Ext w1_ w'∧(∀ j,c.entry.length-k≤j→j<c.entry.length→a<en c j)) (0) (by omega) ⟨by simp,Ext.refl w1_,fun j h1 h2=>by omega⟩ ?_
 rintro k m2 uu2 w2_ hk2 ⟨hu,hx2_,hinv⟩
 simp only [List.map_cons,List.map_nil,List.cons.injEq,and_true] at hu
 try rw [hu]
 try clear hu
 have hln:=zaf h7
 refine zb1 ?_
 refine br (fun c1=>?_) (fun c1=>?_)
 · refine zaa zbn ?_
   refine zab zbk (zax hA2) hx2_ fun v15 h15=>?_
   refine zat u25 ty3 h15 (by omega) (by omega) fun b17 o17 h17=>?_
   have hn17:((c.entry.length:Int)-1-(k:Int)).toNat=c.entry.length-k-1:=by omega
   simp only [hn17] at h17
   refine zac ty3 h17 hx2_ fun hI18=>?_
   refine zcO ?_
   refine br (fun c2=>?_) (fun c2=>?_)
   · refine ⟨(hx1_.trans hx2_),?_⟩
     rw [zbU] at c2
     unfold zaL
     rw [zhJ (m:=c.entry.length-k) (by omega) hinv,show c.entry.length-k=(c.entry.length-k-1)+1 by omega,prc,if_pos c2]
     congr 1
     omega
   refine za2 (by unfold I64;omega) ?_
   refine ⟨m2-1,by omega,k+1,by omega,by simp;omega,hx2_,?_⟩
   intro j h1 h2
   by_cases hj:j=c.entry.length-k-1
   · subst hj
     rw [zbU] at c2
     omega
   exact hinv j (by omega) h2
 refine ⟨(hx1_.trans hx2_),?_⟩
 unfold zaL
 rw [zhJ (m:=c.entry.length-k) (by omega) hinv,show c.entry.length-k=0 by omega]
 rfl
def F225 (a0 a1:Value) (w:World) (R:VW):Prop:=
 oP (Instr.box 28 a0) w fun x2 w=>
 rA a1 (iV 1) w fun x6=>
 rF 28 x2 3 w fun x7=>
 rL 25 x7 w fun x8=>
 rN 25 3 x8 w fun x9=>
 rC x6 x9 w fun x10=>
 BR x10
 (rF 28 x2 3 w fun x11=>
 rL 25 x11 w fun x12=>
 rA a1 (iV 1) w fun x14=>
 rX 25 x12 x14 w fun x15=>
 rL 3 x15 w fun x16=>
 rB .sub 3 T0 U0 x16 (iV 1) w fun x17=>
 R x17 w)
 (rF 28 x2 4 w fun x18=>
 rL 26 x18 w fun x19=>
 rN 26 3 x19 w fun x20=>
 rB .sub 3 T0 U0 x20 (iV 1) w fun x21=>
 R x21 w)
def cfg225:Cfg:=⟨extL,[],[],[],[],[],[]⟩
theorem F225_call {a0 a1:Value} {w:World} {R:VW} (h:F225 a0 a1 w R):cL 225 [a0,a1] w R:=co (g:=cfg225) Tryz.func225 (by kernel_rfl) (by kernel_rfl) (by kernel_rfl) h
theorem zk3 {w:World} {v0:Value} {W0:World} {c:DCode} {p:Int}  (h0:Is W0 v0 c) (e0:Ext W0 w) (hp0:-1≤p) (hp1:p<1000000000000) (hE:∀ i,i<c.entry.length→0≤en c i) :
   CALL Tryz.prog 225 [v0,.int .i64 p] w fun r w'=>Ext w w'∧(r=.int .i64 (zd9 c p)):=by
 refine F225_call ?_
 unfold F225
 refine zal zbq rfl h0 e0 fun w1_ hx1_ hA2 hV2=>?_
 refine zcp (by unfold I64;omega) ?_
 refine zaa zbn ?_
 refine zab zbk (zax hA2) (Ext.refl w1_) fun v8 h8=>?_
 have hln9:=zaf h8
 refine zae u25 h8 ?_
 refine zai ?_
 refine br (fun c1=>?_) (fun c1=>?_)
 · refine zaa zbn ?_
   refine zab zbk (zax hA2) (Ext.refl w1_) fun v12 h12=>?_
   refine zcp (by unfold I64;omega) ?_
   refine zat u25 ty3 h12 (by omega) (by omega) fun b15 o15 h15=>?_
   refine zac ty3 h15 (Ext.refl w1_) fun hI16=>?_
   have hE1:=hE (p+1).toNat (by omega)
   rw [←zbU (by omega)] at hE1
   refine za2 (by unfold I64 at *;omega) ?_
   refine ⟨hx1_,?_⟩
   unfold zd9
   rw [if_pos c1,zbU]
 refine zaa zba ?_
 refine zab zdN (zaq hA2) (Ext.refl w1_) fun v19 h19=>?_
 have hln20:=zaf h19
 refine zae u26 h19 ?_
 refine za2 (by unfold I64;have:=zaf h19;omega) ?_
 refine ⟨hx1_,?_⟩
 unfold zd9
 rw [if_neg c1]
def zgR:ByteArray:=ByteArray.mk #[109,97,105,110]
def NamesR (c:DCode):Prop:=(decide ((c.globals.length:Int)≤6)&&c.globals.all zaZ)=true∧(decide ((c.locks.length:Int)≤6)&&c.locks.all zaZ)=true∧(decide ((c.procs.length:Int)≤8)&&c.procs.all zaZ)=true ∧
 c.globals.Nodup∧c.locks.Nodup∧c.procs.Nodup∧zgR∈c.procs
instance (c:DCode):Decidable (NamesR c):=by unfold NamesR;infer_instance
def EntS (c:DCode):Prop:=c.entry.length=c.procs.length∧c.ins.length≤1500∧(∀ i,i<c.entry.length→(i=0→en c 0=0)∧(0<i→en c (i-1)<en c i)∧en c i<c.ins.length) ∧
 ∀ j,j<c.ins.length→((zbo c j).op=9↔zd9 c (zaL c j)=j)
instance (c:DCode):Decidable (EntS c):=by unfold EntS;infer_instance
theorem zdr {P:Nat→Prop} {k:Nat} (h:∀ i,i<k→P i) (hk:P k):∀ i,i<k+1→P i:=fun i hi=>by
 by_cases e:i=k
 · rw [e];exact hk
 exact h i (by omega)
theorem zgS {c:DCode} {n:Nat} {m:Int} (h:∀ i,i<n→(i=0→en c 0=0)∧(0<i→en c (i-1)<en c i)∧en c i<m):∀ i,i<n→0≤en c i
 | 0,hi=>by rw [(h 0 hi).1 rfl];omega
 | i+1,hi=>by
   have h1:=zgS h i (by omega)
   have h2:=(h (i+1) hi).2.1 (by omega)
   simp only [Nat.add_sub_cancel] at h2
   omega
def F147 (a0:Value) (w:World) (R:VW):Prop:=
 oP (Instr.box 28 a0) w fun x1 w=>
 rF 28 x1 0 w fun x5=>
 rL 24 x5 w fun x6=>
 cL 224 [x6,(iV 6)] w fun x7 w=>
 rD (Op.unary .not x7) w fun x8=>
 BR x8
 (R (Value.bool false) w)
 (rF 28 x1 1 w fun x10=>
 rL 24 x10 w fun x11=>
 cL 224 [x11,(iV 6)] w fun x12 w=>
 rD (Op.unary .not x12) w fun x13=>
 BR x13
 (R (Value.bool false) w)
 (rF 28 x1 2 w fun x16=>
 rL 24 x16 w fun x17=>
 cL 224 [x17,(iV 8)] w fun x18 w=>
 rD (Op.unary .not x18) w fun x19=>
 BR x19
 (R (Value.bool false) w)
 (rF 28 x1 0 w fun x22=>
 rL 24 x22 w fun x23=>
 cL 188 [x23] w fun x24 w=>
 BR x24
 (R (Value.bool false) w)
 (rF 28 x1 1 w fun x27=>
 rL 24 x27 w fun x28=>
 cL 188 [x28] w fun x29 w=>
 BR x29
 (R (Value.bool false) w)
 (rF 28 x1 2 w fun x32=>
 rL 24 x32 w fun x33=>
 cL 188 [x33] w fun x34 w=>
 BR x34
 (R (Value.bool false) w)
 (rF 28 x1 3 w fun x37=>
 rL 25 x37 w fun x38=>
 rN 25 3 x38 w fun x39=>
 rF 28 x1 2 w fun x40=>
 rL 24 x40 w fun x41=>
 rN 24 3 x41 w fun x42=>
 rB .neq 3 T0 T0 x39 x42 w fun x43=>
 BR x43
 (R (Value.bool false) w)
 (rF 28 x1 4 w fun x46=>
 rL 26 x46 w fun x47=>
 rN 26 3 x47 w fun x48=>
 rB .gtr 3 T0 U0 x48 (iV 1500) w fun x49=>
 BR x49
 (R (Value.bool false) w)
 (rF 28 x1 2 w fun x52=>
 rL 24 x52 w fun x53=>
 cL 192 [x53,(Value.string (ByteArray.mk #[109,97,105,110]))] w fun x54 w=>
 rB .lss 3 T0 U0 x54 (iV 0) w fun x55=>
 BR x55
 (R (Value.bool false) w)
 (LOOPI [3] [(iV 0)] w fun u4 w next4=>
 rF 28 x1 3 w fun x58=>
 rL 25 x58 w fun x59=>
 rN 25 3 x59 w fun x60=>
 rC (u4 3) x60 w fun x61=>
 BR x61
 ((fun w=>rB .eql 3 T0 U0 (u4 3) (iV 0) w fun x65=>
 BR x65
 (rF 28 x1 3 w fun x67=>
 rL 25 x67 w fun x68=>
 rX 25 x68 (iV 0) w fun x69=>
 rL 3 x69 w fun x70=>
 rB .neq 3 T0 U0 x70 (iV 0) w fun x71=>
 BR x71
 (R (Value.bool false) w)
 (rB .gtr 3 T0 U0 (u4 3) (iV 0) w fun x75=>
 GBR x75
 (rF 28 x1 3 w fun x77=>
 rL 25 x77 w fun x78=>
 rX 25 x78 (u4 3) w fun x80=>
 rL 3 x80 w fun x81=>
 rF 28 x1 3 w fun x82=>
 rL 25 x82 w fun x83=>
 rB .sub 3 T0 U0 (u4 3) (iV 1) w fun x85=>
 rX 25 x83 x85 w fun x86=>
 rL 3 x86 w fun x87=>
 rB .leq 3 T0 T0 x81 x87 w fun x88=>
 BR x88
 (R (Value.bool false) w)
 (rF 28 x1 3 w fun x92=>
 rL 25 x92 w fun x93=>
 rX 25 x93 (u4 3) w fun x95=>
 rL 3 x95 w fun x96=>
 rF 28 x1 4 w fun x97=>
 rL 26 x97 w fun x98=>
 rN 26 3 x98 w fun x99=>
 rB .geq 3 T0 T0 x96 x99 w fun x100=>
 BR x100
 (R (Value.bool false) w)
 (rA (u4 3) (iV 1) w fun x63=>
 next4 [x63] w)))
 (rF 28 x1 3 w fun x92=>
 rL 25 x92 w fun x93=>
 rX 25 x93 (u4 3) w fun x95=>
 rL 3 x95 w fun x96=>
 rF 28 x1 4 w fun x97=>
 rL 26 x97 w fun x98=>
 rN 26 3 x98 w fun x99=>
 rB .geq 3 T0 T0 x96 x99 w fun x100=>
 BR x100
 (R (Value.bool false) w)
 (rA (u4 3) (iV 1) w fun x63=>
 next4 [x63] w))
 (BR undef
 (BR undef
 (R (Value.bool false) w)
 (rF 28 x1 3 w fun x92=>
 rL 25 x92 w fun x93=>
 rX 25 x93 (u4 3) w fun x95=>
 rL 3 x95 w fun x96=>
 rF 28 x1 4 w fun x97=>
 rL 26 x97 w fun x98=>
 rN 26 3 x98 w fun x99=>
 rB .geq 3 T0 T0 x96 x99 w fun x100=>
 BR x100
 (R (Value.bool false) w)
 (rA (u4 3) (iV 1) w fun x63=>
 next4 [x63] w)))
 (rF 28 x1 3 w fun x92=>
 rL 25 x92 w fun x93=>
 rX 25 x93 (u4 3) w fun x95=>
 rL 3 x95 w fun x96=>
 rF 28 x1 4 w fun x97=>
 rL 26 x97 w fun x98=>
 rN 26 3 x98 w fun x99=>
 rB .geq 3 T0 T0 x96 x99 w fun x100=>
 BR x100
 (R (Value.bool false) w)
 (rA (u4 3) (iV 1) w fun x63=>
 next4 [x63] w)))))
 (rB .gtr 3 T0 U0 (u4 3) (iV 0) w fun x75=>
 GBR x75
 (rF 28 x1 3 w fun x77=>
 rL 25 x77 w fun x78=>
 rX 25 x78 (u4 3) w fun x80=>
 rL 3 x80 w fun x81=>
 rF 28 x1 3 w fun x82=>
 rL 25 x82 w fun x83=>
 rB .sub 3 T0 U0 (u4 3) (iV 1) w fun x85=>
 rX 25 x83 x85 w fun x86=>
 rL 3 x86 w fun x87=>
 rB .leq 3 T0 T0 x81 x87 w fun x88=>
 BR x88
 (R (Value.bool false) w)
 (rF 28 x1 3 w fun x92=>
 rL 25 x92 w fun x93=>
 rX 25 x93 (u4 3) w fun x95=>
 rL 3 x95 w fun x96=>
 rF 28 x1 4 w fun x97=>
 rL 26 x97 w fun x98=>
 rN 26 3 x98 w fun x99=>
 rB .geq 3 T0 T0 x96 x99 w fun x100=>
 BR x100
 (R (Value.bool false) w)
 (rA (u4 3) (iV 1) w fun x63=>
 next4 [x63] w)))
 (rF 28 x1 3 w fun x92=>
 rL 25 x92 w fun x93=>
 rX 25 x93 (u4 3) w fun x95=>
 rL 3 x95 w fun x96=>
 rF 28 x1 4 w fun x97=>
 rL 26 x97 w fun x98=>
 rN 26 3 x98 w fun x99=>
 rB .geq 3 T0 T0 x96 x99 w fun x100=>
 BR x100
 (R (Value.bool false) w)
 (rA (u4 3) (iV 1) w fun x63=>
 next4 [x63] w))
 (BR undef
 (BR undef
 (R (Value.bool false) w)
 (rF 28 x1 3 w fun x92=>
 rL 25 x92 w fun x93=>
 rX 25 x93 (u4 3) w fun x95=>
 rL 3 x95 w fun x96=>
 rF 28 x1 4 w fun x97=>
 rL 26 x97 w fun x98=>
 rN 26 3 x98 w fun x99=>
 rB .geq 3 T0 T0 x96 x99 w fun x100=>
 BR x100
 (R (Value.bool false) w)
 (rA (u4 3) (iV 1) w fun x63=>
 next4 [x63] w)))
 (rF 28 x1 3 w fun x92=>
 rL 25 x92 w fun x93=>
 rX 25 x93 (u4 3) w fun x95=>
 rL 3 x95 w fun x96=>
 rF 28 x1 4 w fun x97=>
 rL 26 x97 w fun x98=>
 rN 26 3 x98 w fun x99=>
 rB .geq 3 T0 T0 x96 x99 w fun x100=>
 BR x100
 (R (Value.bool false) w)
 (rA (u4 3) (iV 1) w fun x63=>
 next4 [x63] w))))) (World.drew1 w))
 (LOOPI [4] [(iV 0)] w fun u9 w next9=>
 rF 28 x1 4 w fun x103=>
 rL 26 x103 w fun x104=>
 rN 26 3 x104 w fun x105=>
 rC (u9 4) x105 w fun x106=>
 BR x106
 ((fun w=>rF 28 x1 4 w fun x109=>
 rL 26 x109 w fun x110=>
 rX 26 x110 (u9 4) w fun x112=>
 rF 117 x112 0 w fun x113=>
 rL 3 x113 w fun x114=>
 rB .eql 3 T0 U0 x114 (iV 9) w fun x115=>
 rL 28 x1 w fun x116=>
 rL 28 x1 w fun x117=>
 (fun w_=>cL 151 [x117,(u9 4)] w_ fun x119 w=>
 Ext w_ w ∧
 (fun w_=>cL 225 [x116,x119] w_ fun x120 w=>
 Ext w_ w ∧
 rB .eql 3 T0 T0 x120 (u9 4) w fun x122=>
 rB .neq 4 T0 T0 x115 x122 w fun x123=>
 BR x123
 (R (Value.bool false) w)
 (rA (u9 4) (iV 1) w fun x108=>
 next9 [x108] w)) w) w) (World.drew1 w))
 (R (Value.bool true) w)))))))))))
def cfg147:Cfg:=⟨extL,[],[(4,5070602400912773490798736965644,[3]),(9,21267642861956253053543306977672691732,[4])],[(6,[0,1,2,3,4,5,6,7,8,9,10,11,12,13,14,15,16,17,18,19,20,21,22,23,24,25,26,27,28,29,30,31,32,33,34,35,36,37],0),(11,[0,1,2,3,4,5,6,7,8,9,12,10,11,13,14],3072)],[],[],[]⟩
theorem F147_call {a0:Value} {w:World} {R:VW} (h:F147 a0 w R):cL 147 [a0] w R:=co (g:=cfg147) Tryz.func147 (by kernel_rfl) (by kernel_rfl) (by kernel_rfl) h
theorem zmc {w:World} {v0:Value} {W0:World} {c:DCode}  (h0:Is W0 v0 c) (e0:Ext W0 w)  :
   CALL Tryz.prog 147 [v0] w fun r w'=>Ext w w'∧(r=.bool (decide (NamesR c∧EntS c))):=by
 refine F147_call ?_
 unfold F147
 refine zal zbq rfl h0 e0 fun w1_ hx1_ hA1 hV1=>?_
 refine zaa zcQ ?_
 refine zab zcP (zaW hA1) (Ext.refl w1_) fun v6 h6=>?_
 refine (zdC h6 (Ext.refl w1_)).mono ?_
 rintro _ w2_ ⟨hx2_,rfl⟩
 refine zbs ?_
 refine zcM (fun c1=>?_) (fun c1=>?_)
 · refine ⟨(hx1_.trans hx2_),?_⟩
   have:¬(NamesR c∧EntS c):=fun h=>by rw [h.1.1] at c1;cases c1
   simp only [this,decide_false]
 refine zaa ze0 ?_
 refine zab zcP (zbO hA1) hx2_ fun v11 h11=>?_
 refine (zdC h11 hx2_).mono ?_
 rintro _ w3_ ⟨hx3_,rfl⟩
 refine zbs ?_
 refine zcM (fun c2=>?_) (fun c2=>?_)
 · refine ⟨(hx1_.trans (hx2_.trans hx3_)),?_⟩
   have:¬(NamesR c∧EntS c):=fun h=>by rw [h.1.2.1] at c2;cases c2
   simp only [this,decide_false]
 refine zaa zdA ?_
 refine zab zcP (zbv hA1) (hx2_.trans hx3_) fun v17 h17=>?_
 refine (zdC h17 (hx2_.trans hx3_)).mono ?_
 rintro _ w4_ ⟨hx4_,rfl⟩
 refine zbs ?_
 refine zcM (fun c3=>?_) (fun c3=>?_)
 · refine ⟨(hx1_.trans (hx2_.trans (hx3_.trans hx4_))),?_⟩
   have:¬(NamesR c∧EntS c):=fun h=>by rw [h.1.2.2.1] at c3;cases c3
   simp only [this,decide_false]
 refine zaa zcQ ?_
 refine zab zcP (zaW hA1) (hx2_.trans (hx3_.trans hx4_)) fun v23 h23=>?_
 refine (zcZ h23 (hx2_.trans (hx3_.trans hx4_))).mono ?_
 rintro _ w5_ ⟨hx5_,rfl⟩
 refine br (fun c4=>?_) (fun c4=>?_)
 · refine ⟨(hx1_.trans (hx2_.trans (hx3_.trans (hx4_.trans hx5_)))),?_⟩
   have:¬(NamesR c∧EntS c):=fun h=>c4 h.1.2.2.2.1
   simp only [this,decide_false]
 refine zaa ze0 ?_
 refine zab zcP (zbO hA1) (hx2_.trans (hx3_.trans (hx4_.trans hx5_))) fun v28 h28=>?_
 refine (zcZ h28 (hx2_.trans (hx3_.trans (hx4_.trans hx5_)))).mono ?_
 rintro _ w6_ ⟨hx6_,rfl⟩
 refine br (fun c5=>?_) (fun c5=>?_)
 · refine ⟨(hx1_.trans (hx2_.trans (hx3_.trans (hx4_.trans (hx5_.trans hx6_))))),?_⟩
   have:¬(NamesR c∧EntS c):=fun h=>c5 h.1.2.2.2.2.1
   simp only [this,decide_false]
 refine zaa zdA ?_
 refine zab zcP (zbv hA1) (hx2_.trans (hx3_.trans (hx4_.trans (hx5_.trans hx6_)))) fun v33 h33=>?_
 refine (zcZ h33 (hx2_.trans (hx3_.trans (hx4_.trans (hx5_.trans hx6_))))).mono ?_
 rintro _ w7_ ⟨hx7_,rfl⟩
 refine br (fun c6=>?_) (fun c6=>?_)
 · refine ⟨(hx1_.trans (hx2_.trans (hx3_.trans (hx4_.trans (hx5_.trans (hx6_.trans hx7_)))))),?_⟩
   have:¬(NamesR c∧EntS c):=fun h=>c6 h.1.2.2.2.2.2.1
   simp only [this,decide_false]
 refine zaa zbn ?_
 refine zab zbk (zax hA1) (hx2_.trans (hx3_.trans (hx4_.trans (hx5_.trans (hx6_.trans hx7_))))) fun v38 h38=>?_
 have hln39:=zaf h38
 refine zae u25 h38 ?_
 refine zaa zdA ?_
 refine zab zcP (zbv hA1) (hx2_.trans (hx3_.trans (hx4_.trans (hx5_.trans (hx6_.trans hx7_))))) fun v41 h41=>?_
 have hln42:=zaf h41
 refine zae u24 h41 ?_
 refine zaM ?_
 refine br (fun c7=>?_) (fun c7=>?_)
 · refine ⟨(hx1_.trans (hx2_.trans (hx3_.trans (hx4_.trans (hx5_.trans (hx6_.trans hx7_)))))),?_⟩
   have:¬(NamesR c∧EntS c):=fun h=>c7 (by rw [h.2.1])
   simp only [this,decide_false]
 refine zaa zba ?_
 refine zab zdN (zaq hA1) (hx2_.trans (hx3_.trans (hx4_.trans (hx5_.trans (hx6_.trans hx7_))))) fun v47 h47=>?_
 have hln48:=zaf h47
 refine zae u26 h47 ?_
 refine zb0 ?_
 refine br (fun c8=>?_) (fun c8=>?_)
 · refine ⟨(hx1_.trans (hx2_.trans (hx3_.trans (hx4_.trans (hx5_.trans (hx6_.trans hx7_)))))),?_⟩
   have:¬(NamesR c∧EntS c):=fun h=>by have:=h.2.2.1;omega
   simp only [this,decide_false]
 refine zaa zdA ?_
 refine zab zcP (zbv hA1) (hx2_.trans (hx3_.trans (hx4_.trans (hx5_.trans (hx6_.trans hx7_))))) fun v53 h53=>?_
 refine (zbJ h53 (hx2_.trans (hx3_.trans (hx4_.trans (hx5_.trans (hx6_.trans hx7_)))))).mono ?_
 rintro _ w8_ ⟨hx8_,rfl⟩
 refine zai ?_
 refine br (fun c9=>?_) (fun c9=>?_)
 · refine ⟨(hx1_.trans (hx2_.trans (hx3_.trans (hx4_.trans (hx5_.trans (hx6_.trans (hx7_.trans hx8_))))))),?_⟩
   have:¬(NamesR c∧EntS c):=fun h=>by have:=zdZ.2 h.1.2.2.2.2.2.2;unfold zgR at this;omega
   simp only [this,decide_false]
 refine zaE (c.entry.length) (fun k us w'=>us=[.int .i64 (k:Int)]∧Ext w8_ w'∧(∀ i,i<k→(i=0→en c 0=0)∧(0<i→en c (i-1)<en c i)∧en c i<c.ins.length)) (0) (by omega) ⟨by simp,Ext.refl w8_,fun i h=>by omega⟩ ?_
 rintro k m4 uu4 w9_ hk4 ⟨hu,hx9_,hent⟩
 simp only [List.map_cons,List.map_nil,List.cons.injEq,and_true] at hu
 try rw [hu]
 try clear hu
 refine zaa zbn ?_
 refine zab zbk (zax hA1) (hx2_.trans (hx3_.trans (hx4_.trans (hx5_.trans (hx6_.trans (hx7_.trans (hx8_.trans hx9_))))))) fun v59 h59=>?_
 have hln60:=zaf h59
 refine zae u25 h59 ?_
 refine zai ?_
 refine br (fun c10=>?_) (fun c10=>?_)
 · have hx10_:=zaj w9_
   refine zag ?_
   refine br (fun c11=>?_) (fun c11=>?_)
   · refine zaa zbn ?_
     refine zab zbk (zax hA1) (hx2_.trans (hx3_.trans (hx4_.trans (hx5_.trans (hx6_.trans (hx7_.trans (hx8_.trans (hx9_.trans hx10_)))))))) fun v68 h68=>?_
     refine zat u25 ty3 h68 (by omega) (by omega) fun b69 o69 h69=>?_
     refine zac ty3 h69 (hx2_.trans (hx3_.trans (hx4_.trans (hx5_.trans (hx6_.trans (hx7_.trans (hx8_.trans (hx9_.trans hx10_)))))))) fun hI70=>?_
     refine zaM ?_
     refine br (fun c12=>?_) (fun c12=>?_)
     · refine ⟨(hx1_.trans (hx2_.trans (hx3_.trans (hx4_.trans (hx5_.trans (hx6_.trans (hx7_.trans (hx8_.trans (hx9_.trans hx10_))))))))),?_⟩
       rw [zbU] at c12
       have:¬(NamesR c∧EntS c):=fun h=>c12 ((h.2.2.2.1 0 (by omega)).1 rfl)
       simp only [this,decide_false]
     refine zb0 ?_
     refine gbr (fun c13=>?_) (fun c13=>?_)
     · refine zaa zbn ?_
       refine zab zbk (zax hA1) (hx2_.trans (hx3_.trans (hx4_.trans (hx5_.trans (hx6_.trans (hx7_.trans (hx8_.trans (hx9_.trans hx10_)))))))) fun v78 h78=>?_
       refine zad u25 ty3 h78 (by omega) fun b80 o80 h80=>?_
       refine zac ty3 h80 (hx2_.trans (hx3_.trans (hx4_.trans (hx5_.trans (hx6_.trans (hx7_.trans (hx8_.trans (hx9_.trans hx10_)))))))) fun hI81=>?_
       refine zaa zbn ?_
       refine zab zbk (zax hA1) (hx2_.trans (hx3_.trans (hx4_.trans (hx5_.trans (hx6_.trans (hx7_.trans (hx8_.trans (hx9_.trans hx10_)))))))) fun v83 h83=>?_
       refine za2 (by unfold I64;omega) ?_
       refine zat u25 ty3 h83 (by omega) (by omega) fun b86 o86 h86=>?_
       refine zac ty3 h86 (hx2_.trans (hx3_.trans (hx4_.trans (hx5_.trans (hx6_.trans (hx7_.trans (hx8_.trans (hx9_.trans hx10_)))))))) fun hI87=>?_
       have hn86:((k:Int)-1).toNat=k-1:=by omega
       refine zcO ?_
       refine br (fun c14=>?_) (fun c14=>?_)
       · refine ⟨(hx1_.trans (hx2_.trans (hx3_.trans (hx4_.trans (hx5_.trans (hx6_.trans (hx7_.trans (hx8_.trans (hx9_.trans hx10_))))))))),?_⟩
         exact absurd c11 (by omega)
       refine zaa zbn ?_
       refine zab zbk (zax hA1) (hx2_.trans (hx3_.trans (hx4_.trans (hx5_.trans (hx6_.trans (hx7_.trans (hx8_.trans (hx9_.trans hx10_)))))))) fun v93 h93=>?_
       refine zad u25 ty3 h93 (by omega) fun b95 o95 h95=>?_
       refine zac ty3 h95 (hx2_.trans (hx3_.trans (hx4_.trans (hx5_.trans (hx6_.trans (hx7_.trans (hx8_.trans (hx9_.trans hx10_)))))))) fun hI96=>?_
       refine zaa zba ?_
       refine zab zdN (zaq hA1) (hx2_.trans (hx3_.trans (hx4_.trans (hx5_.trans (hx6_.trans (hx7_.trans (hx8_.trans (hx9_.trans hx10_)))))))) fun v98 h98=>?_
       have hln99:=zaf h98
       refine zae u26 h98 ?_
       refine zb1 ?_
       refine br (fun c15=>?_) (fun c15=>?_)
       · refine ⟨(hx1_.trans (hx2_.trans (hx3_.trans (hx4_.trans (hx5_.trans (hx6_.trans (hx7_.trans (hx8_.trans (hx9_.trans hx10_))))))))),?_⟩
         exact absurd c11 (by omega)
       refine zah (by omega) ?_
       refine ⟨m4-1,by omega,k+1,by omega,by simp,(hx9_.trans hx10_),?_⟩
       exact absurd c11 (by omega)
     refine zaa zbn ?_
     refine zab zbk (zax hA1) (hx2_.trans (hx3_.trans (hx4_.trans (hx5_.trans (hx6_.trans (hx7_.trans (hx8_.trans (hx9_.trans hx10_)))))))) fun v93 h93=>?_
     refine zad u25 ty3 h93 (by omega) fun b95 o95 h95=>?_
     refine zac ty3 h95 (hx2_.trans (hx3_.trans (hx4_.trans (hx5_.trans (hx6_.trans (hx7_.trans (hx8_.trans (hx9_.trans hx10_)))))))) fun hI96=>?_
     refine zaa zba ?_
     refine zab zdN (zaq hA1) (hx2_.trans (hx3_.trans (hx4_.trans (hx5_.trans (hx6_.trans (hx7_.trans (hx8_.trans (hx9_.trans hx10_)))))))) fun v98 h98=>?_
     have hln99:=zaf h98
     refine zae u26 h98 ?_
     refine zb1 ?_
     refine br (fun c16=>?_) (fun c16=>?_)
     · refine ⟨(hx1_.trans (hx2_.trans (hx3_.trans (hx4_.trans (hx5_.trans (hx6_.trans (hx7_.trans (hx8_.trans (hx9_.trans hx10_))))))))),?_⟩
       rw [zbU] at c16
       have:¬(NamesR c∧EntS c):=fun h=>by have:=(h.2.2.2.1 k (by omega)).2.2;omega
       simp only [this,decide_false]
     refine zah (by omega) ?_
     refine ⟨m4-1,by omega,k+1,by omega,by simp,(hx9_.trans hx10_),?_⟩
     rw [zbU] at c16 c12
     have hk0:k=0:=by omega
     subst hk0
     exact zdr hent ⟨fun _=>Decidable.not_not.1 c12,fun h=>by omega,by omega⟩
   refine zb0 ?_
   refine gbr (fun c17=>?_) (fun c17=>?_)
   · refine zaa zbn ?_
     refine zab zbk (zax hA1) (hx2_.trans (hx3_.trans (hx4_.trans (hx5_.trans (hx6_.trans (hx7_.trans (hx8_.trans (hx9_.trans hx10_)))))))) fun v78 h78=>?_
     refine zad u25 ty3 h78 (by omega) fun b80 o80 h80=>?_
     refine zac ty3 h80 (hx2_.trans (hx3_.trans (hx4_.trans (hx5_.trans (hx6_.trans (hx7_.trans (hx8_.trans (hx9_.trans hx10_)))))))) fun hI81=>?_
     refine zaa zbn ?_
     refine zab zbk (zax hA1) (hx2_.trans (hx3_.trans (hx4_.trans (hx5_.trans (hx6_.trans (hx7_.trans (hx8_.trans (hx9_.trans hx10_)))))))) fun v83 h83=>?_
     refine za2 (by unfold I64;omega) ?_
     refine zat u25 ty3 h83 (by omega) (by omega) fun b86 o86 h86=>?_
     refine zac ty3 h86 (hx2_.trans (hx3_.trans (hx4_.trans (hx5_.trans (hx6_.trans (hx7_.trans (hx8_.trans (hx9_.trans hx10_)))))))) fun hI87=>?_
     have hn86:((k:Int)-1).toNat=k-1:=by omega
     refine zcO ?_
     refine br (fun c18=>?_) (fun c18=>?_)
     · refine ⟨(hx1_.trans (hx2_.trans (hx3_.trans (hx4_.trans (hx5_.trans (hx6_.trans (hx7_.trans (hx8_.trans (hx9_.trans hx10_))))))))),?_⟩
       rw [zbU,zbU] at c18
       simp only [hn86] at c18
       have:¬(NamesR c∧EntS c):=fun h=>by have:=(h.2.2.2.1 k (by omega)).2.1 (by omega);omega
       simp only [this,decide_false]
     refine zaa zbn ?_
     refine zab zbk (zax hA1) (hx2_.trans (hx3_.trans (hx4_.trans (hx5_.trans (hx6_.trans (hx7_.trans (hx8_.trans (hx9_.trans hx10_)))))))) fun v93 h93=>?_
     refine zad u25 ty3 h93 (by omega) fun b95 o95 h95=>?_
     refine zac ty3 h95 (hx2_.trans (hx3_.trans (hx4_.trans (hx5_.trans (hx6_.trans (hx7_.trans (hx8_.trans (hx9_.trans hx10_)))))))) fun hI96=>?_
     refine zaa zba ?_
     refine zab zdN (zaq hA1) (hx2_.trans (hx3_.trans (hx4_.trans (hx5_.trans (hx6_.trans (hx7_.trans (hx8_.trans (hx9_.trans hx10_)))))))) fun v98 h98=>?_
     have hln99:=zaf h98
     refine zae u26 h98 ?_
     refine zb1 ?_
     refine br (fun c19=>?_) (fun c19=>?_)
     · refine ⟨(hx1_.trans (hx2_.trans (hx3_.trans (hx4_.trans (hx5_.trans (hx6_.trans (hx7_.trans (hx8_.trans (hx9_.trans hx10_))))))))),?_⟩
       rw [zbU] at c19
       have:¬(NamesR c∧EntS c):=fun h=>by have:=(h.2.2.2.1 k (by omega)).2.2;omega
       simp only [this,decide_false]
     refine zah (by omega) ?_
     refine ⟨m4-1,by omega,k+1,by omega,by simp,(hx9_.trans hx10_),?_⟩
     rw [zbU] at c19
     rw [zbU,zbU] at c18
     simp only [hn86] at c18
     exact zdr hent ⟨fun h=>by omega,fun _=>by omega,by omega⟩
   refine zaa zbn ?_
   refine zab zbk (zax hA1) (hx2_.trans (hx3_.trans (hx4_.trans (hx5_.trans (hx6_.trans (hx7_.trans (hx8_.trans (hx9_.trans hx10_)))))))) fun v93 h93=>?_
   refine zad u25 ty3 h93 (by omega) fun b95 o95 h95=>?_
   refine zac ty3 h95 (hx2_.trans (hx3_.trans (hx4_.trans (hx5_.trans (hx6_.trans (hx7_.trans (hx8_.trans (hx9_.trans hx10_)))))))) fun hI96=>?_
   refine zaa zba ?_
   refine zab zdN (zaq hA1) (hx2_.trans (hx3_.trans (hx4_.trans (hx5_.trans (hx6_.trans (hx7_.trans (hx8_.trans (hx9_.trans hx10_)))))))) fun v98 h98=>?_
   have hln99:=zaf h98
   refine zae u26 h98 ?_
   refine zb1 ?_
   refine br (fun c20=>?_) (fun c20=>?_)
   · refine ⟨(hx1_.trans (hx2_.trans (hx3_.trans (hx4_.trans (hx5_.trans (hx6_.trans (hx7_.trans (hx8_.trans (hx9_.trans hx10_))))))))),?_⟩
     exact absurd c11 (by omega)
   refine zah (by omega) ?_
   refine ⟨m4-1,by omega,k+1,by omega,by simp,(hx9_.trans hx10_),?_⟩
   exact absurd c11 (by omega)
 refine zaE (c.ins.length) (fun k us w'=>us=[.int .i64 (k:Int)]∧Ext w9_ w'∧(∀ j,j<k→((zbo c j).op=9↔zd9 c (zaL c j)=j))) (0) (by omega) ⟨by simp,Ext.refl w9_,fun i h=>by omega⟩ ?_
 rintro k m9 uu9 w11_ hk9 ⟨hu,hx11_,hinv⟩
 simp only [List.map_cons,List.map_nil,List.cons.injEq,and_true] at hu
 try rw [hu]
 try clear hu
 refine zaa zba ?_
 refine zab zdN (zaq hA1) (hx2_.trans (hx3_.trans (hx4_.trans (hx5_.trans (hx6_.trans (hx7_.trans (hx8_.trans (hx9_.trans hx11_)))))))) fun v104 h104=>?_
 have hln105:=zaf h104
 refine zae u26 h104 ?_
 refine zai ?_
 refine br (fun c21=>?_) (fun c21=>?_)
 · have hx12_:=zaj w11_
   refine zaa zba ?_
   refine zab zdN (zaq hA1) (hx2_.trans (hx3_.trans (hx4_.trans (hx5_.trans (hx6_.trans (hx7_.trans (hx8_.trans (hx9_.trans (hx11_.trans hx12_))))))))) fun v110 h110=>?_
   refine zad u26 zbS h110 (by omega) fun b112 o112 h112=>?_
   refine zaa za5 ?_
   refine zac ty3 (zaG h112) (hx2_.trans (hx3_.trans (hx4_.trans (hx5_.trans (hx6_.trans (hx7_.trans (hx8_.trans (hx9_.trans (hx11_.trans hx12_))))))))) fun hI114=>?_
   refine zag ?_
   refine zan hV1 (hx2_.trans (hx3_.trans (hx4_.trans (hx5_.trans (hx6_.trans (hx7_.trans (hx8_.trans (hx9_.trans (hx11_.trans hx12_))))))))) ?_
   refine zan hV1 (hx2_.trans (hx3_.trans (hx4_.trans (hx5_.trans (hx6_.trans (hx7_.trans (hx8_.trans (hx9_.trans (hx11_.trans hx12_))))))))) ?_
   have h8:c.entry.length≤8:=by
     simp only [Bool.not_eq_false',Bool.and_eq_true,decide_eq_true_eq] at c3
     have:=c3.1
     omega
   refine (zgQ h0 (e0.trans (hx1_.trans (hx2_.trans (hx3_.trans (hx4_.trans (hx5_.trans (hx6_.trans (hx7_.trans (hx8_.trans (hx9_.trans (hx11_.trans hx12_)))))))))))).mono ?_
   rintro _ w13_ ⟨hx13_,rfl⟩
   refine ⟨hx13_,?_⟩
   refine (zk3 h0 (e0.trans (hx1_.trans (hx2_.trans (hx3_.trans (hx4_.trans (hx5_.trans (hx6_.trans (hx7_.trans (hx8_.trans (hx9_.trans (hx11_.trans (hx12_.trans hx13_)))))))))))) (by have:=zgj (c:=c) (a:=k);omega) (by have:=zgj (c:=c) (a:=k);omega) (zgS fun i hi=>hent i (by omega))).mono ?_
   rintro _ w14_ ⟨hx14_,rfl⟩
   refine ⟨hx14_,?_⟩
   refine zag ?_
   refine zr2 u4 ?_
   refine br (fun c22=>?_) (fun c22=>?_)
   · refine ⟨(hx1_.trans (hx2_.trans (hx3_.trans (hx4_.trans (hx5_.trans (hx6_.trans (hx7_.trans (hx8_.trans (hx9_.trans (hx11_.trans (hx12_.trans (hx13_.trans hx14_)))))))))))),?_⟩
     rw [zaO] at c22
     have:¬(NamesR c∧EntS c):=fun h=>c22 (decide_eq_decide.2 (h.2.2.2.2 k (by omega)))
     simp only [this,decide_false]
   refine zah (by omega) ?_
   refine ⟨m9-1,by omega,k+1,by omega,by simp,(hx11_.trans (hx12_.trans (hx13_.trans hx14_))),?_⟩
   rw [zaO] at c22
   exact zdr hinv (decide_eq_decide.1 (Decidable.not_not.1 c22))
 refine ⟨(hx1_.trans (hx2_.trans (hx3_.trans (hx4_.trans (hx5_.trans (hx6_.trans (hx7_.trans (hx8_.trans (hx9_.trans hx11_))))))))),?_⟩
 have:NamesR c∧EntS c:=by
   refine ⟨⟨by simpa using c1,by simpa using c2,by simpa using c3,Decidable.not_not.1 c4,Decidable.not_not.1 c5,Decidable.not_not.1 c6,zdZ.1 (by unfold zgR;omega)⟩,by omega,by omega,fun i hi=>hent i (by omega),fun j hj=>hinv j (by omega)⟩
 simp only [this,and_self,decide_true]
def zbK (c:DCode) (op:Int):Int:=if op=1 then c.globals.length else if op=4∨op=5 then c.procs.length else if op=6∨op=7 then c.locks.length else 1
def zfA (c:DCode) (a:DIns) (b e:Int):Prop:=(1≤a.op∧a.op≤9)∧(0≤a.arg∧a.arg<zbK c a.op) ∧
 (if a.op=1∨a.op=2 then zaQ 6 a.term=true∧(∀ s∈zbe a.term,s∈c.globals) else a.term=term0)∧(if a.op=2∨a.op=3 then b≤a.to∧a.to<e else a.to=0)
instance (c:DCode) (a:DIns) (b e:Int):Decidable (zfA c a b e):=by unfold zfA;infer_instance
def F148 (a0 a1:Value) (w:World) (R:VW):Prop:=
 oP (Instr.box 28 a0) w fun x2 w=>
 rF 28 x2 4 w fun x10=>
 rL 26 x10 w fun x11=>
 rX 26 x11 a1 w fun x13=>
 rL 117 x13 w fun x14=>
 oP (Instr.alloc 117 true (.tuple #[])) w fun x5 w=>
 oS 117 x5 x14 w fun w=>
 JOIN [6] (fun J12=>
 rF 117 x5 0 w fun x15=>
 rL 3 x15 w fun x16=>
 rB .eql 3 T0 U0 x16 (iV 1) w fun x18=>
 BR x18
 (rF 28 x2 0 w fun x19=>
 rL 24 x19 w fun x20=>
 rN 24 3 x20 w fun x21=>
 rB .sub 3 T0 U0 x21 (iV 1) w fun x22=>
 J12 [x22] w)
 (rB .eql 3 T0 U0 x16 (iV 6) w fun x24=>
 BR x24
 (rF 28 x2 1 w fun x26=>
 rL 24 x26 w fun x27=>
 rN 24 3 x27 w fun x28=>
 rB .sub 3 T0 U0 x28 (iV 1) w fun x29=>
 J12 [x29] w)
 (rB .eql 3 T0 U0 x16 (iV 7) w fun x25=>
 BR x25
 (rF 28 x2 1 w fun x26=>
 rL 24 x26 w fun x27=>
 rN 24 3 x27 w fun x28=>
 rB .sub 3 T0 U0 x28 (iV 1) w fun x29=>
 J12 [x29] w)
 (rB .eql 3 T0 U0 x16 (iV 4) w fun x31=>
 BR x31
 (rF 28 x2 2 w fun x33=>
 rL 24 x33 w fun x34=>
 rN 24 3 x34 w fun x35=>
 rB .sub 3 T0 U0 x35 (iV 1) w fun x36=>
 J12 [x36] w)
 (rB .eql 3 T0 U0 x16 (iV 5) w fun x32=>
 BR x32
 (rF 28 x2 2 w fun x33=>
 rL 24 x33 w fun x34=>
 rN 24 3 x34 w fun x35=>
 rB .sub 3 T0 U0 x35 (iV 1) w fun x36=>
 J12 [x36] w)
 (J12 [(iV 0)] w)))))) (fun u12 w=>
 rF 117 x5 0 w fun x37=>
 rL 3 x37 w fun x38=>
 cL 65 [x38,(iV 1),(iV 9)] w fun x39 w=>
 rD (Op.unary .not x39) w fun x40=>
 BR x40
 (R (Value.bool false) w)
 (rF 117 x5 1 w fun x42=>
 rL 3 x42 w fun x43=>
 cL 65 [x43,(iV 0),(u12 6)] w fun x45 w=>
 rD (Op.unary .not x45) w fun x46=>
 BR x46
 (R (Value.bool false) w)
 (JOIN [] (fun J25=>
 rF 117 x5 0 w fun x48=>
 rL 3 x48 w fun x49=>
 rB .eql 3 T0 U0 x49 (iV 1) w fun x50=>
 BR x50
 (rF 117 x5 2 w fun x56=>
 rL 78 x56 w fun x57=>
 cL 194 [x57] w fun x58 w=>
 rD (Op.unary .not x58) w fun x59=>
 BR x59
 (R (Value.bool false) w)
 (rF 117 x5 2 w fun x60=>
 rL 78 x60 w fun x61=>
 cL 210 [x61] w fun x62 w=>
 LOOPI [8] [(iV 0)] w fun u19 w next19=>
 rN 24 3 x62 w fun x65=>
 rC (u19 8) x65 w fun x66=>
 BR x66
 ((fun w=>rF 28 x2 0 w fun x69=>
 rL 24 x69 w fun x70=>
 rX 24 x62 (u19 8) w fun x73=>
 rL 9 x73 w fun x74=>
 cL 192 [x70,x74] w fun x75 w=>
 rB .lss 3 T0 U0 x75 (iV 0) w fun x76=>
 BR x76
 (R (Value.bool false) w)
 (rA (u19 8) (iV 1) w fun x68=>
 next19 [x68] w)) (World.drew1 w))
 (J25 [] w)))
 (rF 117 x5 0 w fun x52=>
 rL 3 x52 w fun x53=>
 rB .eql 3 T0 U0 x53 (iV 2) w fun x54=>
 BR x54
 (rF 117 x5 2 w fun x56=>
 rL 78 x56 w fun x57=>
 cL 194 [x57] w fun x58 w=>
 rD (Op.unary .not x58) w fun x59=>
 BR x59
 (R (Value.bool false) w)
 (rF 117 x5 2 w fun x60=>
 rL 78 x60 w fun x61=>
 cL 210 [x61] w fun x62 w=>
 LOOPI [8] [(iV 0)] w fun u19 w next19=>
 rN 24 3 x62 w fun x65=>
 rC (u19 8) x65 w fun x66=>
 BR x66
 ((fun w=>rF 28 x2 0 w fun x69=>
 rL 24 x69 w fun x70=>
 rX 24 x62 (u19 8) w fun x73=>
 rL 9 x73 w fun x74=>
 cL 192 [x70,x74] w fun x75 w=>
 rB .lss 3 T0 U0 x75 (iV 0) w fun x76=>
 BR x76
 (R (Value.bool false) w)
 (rA (u19 8) (iV 1) w fun x68=>
 next19 [x68] w)) (World.drew1 w))
 (J25 [] w)))
 (rF 117 x5 2 w fun x77=>
 rL 78 x77 w fun x78=>
 rD (Instr.build 78 #[]) w fun x79=>
 cL 226 [x78,x79] w fun x80 w=>
 rD (Op.unary .not x80) w fun x81=>
 BR x81
 (R (Value.bool false) w)
 (J25 [] w)))) (fun u25 w=>
 JOIN [] (fun J27=>
 rF 117 x5 0 w fun x82=>
 rL 3 x82 w fun x83=>
 rB .neq 3 T0 U0 x83 (iV 2) w fun x84=>
 BR x84
 (rF 117 x5 0 w fun x86=>
 rL 3 x86 w fun x87=>
 rB .neq 3 T0 U0 x87 (iV 3) w fun x88=>
 BR x88
 (rF 117 x5 3 w fun x90=>
 rL 3 x90 w fun x91=>
 rB .eql 3 T0 U0 x91 (iV 0) w fun x92=>
 R x92 w)
 (J27 [] w))
 (J27 [] w)) (fun u27 w=>
 rL 28 x2 w fun x93=>
 cL 151 [x93,a1] w fun x95 w=>
 (fun w=>rF 117 x5 3 w fun x96=>
 rL 3 x96 w fun x97=>
 rF 28 x2 3 w fun x98=>
 rL 25 x98 w fun x99=>
 rX 25 x99 x95 w fun x101=>
 rL 3 x101 w fun x102=>
 rL 28 x2 w fun x103=>
 (fun w_=>cL 225 [x103,x95] w_ fun x105 w=>
 Ext w_ w ∧
 cL 65 [x97,x102,x105] w fun x106 w=>
 R x106 w) w) (World.drew1 w))))))
def cfg148:Cfg:=⟨extL,[(12,137438920768,[6]),(25,4835703278177041722114448,[]),(27,9898684611004583682494169104,[])],[(19,151106504079791792062736,[8])],[(21,[0,1,2,3,4,5,6,7],0),(28,[0,1,2,3,4,5,6,7,8,9,10,11],512)],[],[],[]⟩
theorem F148_call {a0 a1:Value} {w:World} {R:VW} (h:F148 a0 a1 w R):cL 148 [a0,a1] w R:=co (g:=cfg148) Tryz.func148 (by kernel_rfl) (by kernel_rfl) (by kernel_rfl) h
theorem zpc {w:World} {v0:Value} {W0:World} {c:DCode} {j:Nat}  (h0:Is W0 v0 c) (e0:Ext W0 w) (hj:j<c.ins.length) (hE:∀ i,i<c.entry.length→0≤en c i) (h8:c.entry.length≤8) (hp:0≤zaL c j) :
   CALL Tryz.prog 148 [v0,.int .i64 (j:Int)] w fun r w'=>Ext w w'∧(r=.bool (decide (zfA c (zbo c j) (en c (zaL c j).toNat) (zd9 c (zaL c j)+1)))):=by
 refine F148_call ?_
 unfold F148
 have hpl:=zgj (c:=c) (a:=j)
 refine zal zbq rfl h0 e0 fun w1_ hx1_ hA2 hV2=>?_
 refine zaa zba ?_
 refine zab zdN (zaq hA2) (Ext.refl w1_) fun v11 h11=>?_
 refine zad u26 zbS h11 (by omega) fun b13 o13 h13=>?_
 refine zab zbS h13 (Ext.refl w1_) fun v14 h14=>?_
 rw [zaO] at h14
 obtain ⟨a,ha⟩:∃ a,a=zbo c j:=⟨_,rfl⟩
 rw [←ha] at h14 ⊢
 refine zeY zl5 rfl zbS rfl h14 (Ext.refl w1_) fun w2_ hx2_ hA5 hV5=>?_
 refine JOIN.mk (fun us w'=>us=[.int .i64 (zbK c a.op-1)]∧Ext w2_ w'∧(True)) ?_ ?_
 · refine zaa za5 ?_
   refine zac ty3 (zaG hA5) (Ext.refl w2_) fun hI16=>?_
   refine zag ?_
   refine br (fun c1=>?_) (fun c1=>?_)
   · refine zaa zcQ ?_
     refine zab zcP (zaW hA2) hx2_ fun v20 h20=>?_
     have hln21:=zaf h20
     refine zae u24 h20 ?_
     refine za2 (by unfold I64;have:=zaf h20;omega) ?_
     refine ⟨by unfold zbK;rw [if_pos c1],Ext.refl w2_,?_⟩
     trivial
   refine zag ?_
   refine br (fun c2=>?_) (fun c2=>?_)
   · refine zaa ze0 ?_
     refine zab zcP (zbO hA2) hx2_ fun v27 h27=>?_
     have hln28:=zaf h27
     refine zae u24 h27 ?_
     refine za2 (by unfold I64;have:=zaf h27;omega) ?_
     refine ⟨by unfold zbK;rw [if_neg (by omega),if_neg (by omega),if_pos (by omega)],Ext.refl w2_,?_⟩
     trivial
   refine zag ?_
   refine br (fun c3=>?_) (fun c3=>?_)
   · refine zaa ze0 ?_
     refine zab zcP (zbO hA2) hx2_ fun v27 h27=>?_
     have hln28:=zaf h27
     refine zae u24 h27 ?_
     refine za2 (by unfold I64;have:=zaf h27;omega) ?_
     refine ⟨by unfold zbK;rw [if_neg (by omega),if_neg (by omega),if_pos (by omega)],Ext.refl w2_,?_⟩
     trivial
   refine zag ?_
   refine br (fun c4=>?_) (fun c4=>?_)
   · refine zaa zdA ?_
     refine zab zcP (zbv hA2) hx2_ fun v34 h34=>?_
     have hln35:=zaf h34
     refine zae u24 h34 ?_
     refine za2 (by unfold I64;have:=zaf h34;omega) ?_
     refine ⟨by unfold zbK;rw [if_neg (by omega),if_pos (by omega)],Ext.refl w2_,?_⟩
     trivial
   refine zag ?_
   refine br (fun c5=>?_) (fun c5=>?_)
   · refine zaa zdA ?_
     refine zab zcP (zbv hA2) hx2_ fun v34 h34=>?_
     have hln35:=zaf h34
     refine zae u24 h34 ?_
     refine za2 (by unfold I64;have:=zaf h34;omega) ?_
     refine ⟨by unfold zbK;rw [if_neg (by omega),if_pos (by omega)],Ext.refl w2_,?_⟩
     trivial
   refine ⟨by unfold zbK;rw [if_neg (by omega),if_neg (by omega),if_neg (by omega)];rfl,Ext.refl w2_,?_⟩
   trivial
 rintro uj12 w3_ ⟨hu,hx3_,hinv⟩
 simp only [List.map_cons,List.map_nil,List.cons.injEq,and_true] at hu
 try rw [hu]
 try clear hu
 refine zaa za5 ?_
 refine zac ty3 (zaG hA5) hx3_ fun hI38=>?_
 refine (zcw ).mono ?_
 rintro _ w4_ ⟨hx4_,rfl⟩
 refine zas ?_
 refine br (fun c6=>?_) (fun c6=>?_)
 · refine ⟨(hx1_.trans (hx2_.trans (hx3_.trans hx4_))),?_⟩
   have:¬zfA c a (en c (zaL c j).toNat) (zd9 c (zaL c j)+1):=fun h=>c6 h.1
   simp only [this,decide_false]
 refine zaa zbY ?_
 refine zac ty3 (za4 hA5) (hx3_.trans hx4_) fun hI43=>?_
 refine (zcw ).mono ?_
 rintro _ w5_ ⟨hx5_,rfl⟩
 refine zas ?_
 refine br (fun c7=>?_) (fun c7=>?_)
 · refine ⟨(hx1_.trans (hx2_.trans (hx3_.trans (hx4_.trans hx5_)))),?_⟩
   have:¬zfA c a (en c (zaL c j).toNat) (zd9 c (zaL c j)+1):=fun h=>c7 (by have:=h.2.1;omega)
   simp only [this,decide_false]
 refine JOIN.mk (fun us w'=>us=[]∧Ext w5_ w'∧(if a.op=1∨a.op=2 then zaQ 6 a.term=true∧(∀ s∈zbe a.term,s∈c.globals) else a.term=term0)) ?_ ?_
 · refine zaa za5 ?_
   refine zac ty3 (zaG hA5) (hx3_.trans (hx4_.trans hx5_)) fun hI49=>?_
   refine zag ?_
   refine br (fun c8=>?_) (fun c8=>?_)
   · refine zaa zcI ?_
     refine zab zcs (zbG hA5) (hx3_.trans (hx4_.trans hx5_)) fun v57 h57=>?_
     refine (zbZ h57 (hx3_.trans (hx4_.trans hx5_))).mono ?_
     rintro _ w7_ ⟨hx7_,rfl⟩
     refine zbs ?_
     refine zcM (fun c9=>?_) (fun c9=>?_)
     · refine ⟨(hx1_.trans (hx2_.trans (hx3_.trans (hx4_.trans (hx5_.trans hx7_))))),?_⟩
       have:¬zfA c a (en c (zaL c j).toNat) (zd9 c (zaL c j)+1):=fun h=>by have:=h.2.2.1;rw [if_pos (.inl c8)] at this;rw [this.1] at c9;cases c9
       simp only [this,decide_false]
     refine zaa zcI ?_
     refine zab zcs (zbG hA5) (hx3_.trans (hx4_.trans (hx5_.trans hx7_))) fun v61 h61=>?_
     refine (zc7 h61 (hx3_.trans (hx4_.trans (hx5_.trans hx7_)))).mono ?_
     rintro r62 w8_ ⟨hx8_,h62⟩
     refine zaE ((zbe a.term).length) (fun k us w'=>us=[.int .i64 (k:Int)]∧Ext w8_ w'∧(∀ s∈(zbe a.term).take k,s∈c.globals)) (0) (by omega) ⟨by simp,Ext.refl w8_,by simp⟩ ?_
     rintro k m19 uu19 w9_ hk19 ⟨hu,hx9_,hinv⟩
     simp only [List.map_cons,List.map_nil,List.cons.injEq,and_true] at hu
     try rw [hu]
     try clear hu
     have hln65:=zaf h62
     refine zae u24 h62 ?_
     refine zai ?_
     refine br (fun c10=>?_) (fun c10=>?_)
     · have hx10_:=zaj w9_
       refine zaa zcQ ?_
       refine zab zcP (zaW hA2) (hx2_.trans (hx3_.trans (hx4_.trans (hx5_.trans (hx7_.trans (hx8_.trans (hx9_.trans hx10_))))))) fun v70 h70=>?_
       refine zad u24 ty9 h62 (by omega) fun b73 o73 h73=>?_
       refine zao ty9 h73 (hx9_.trans hx10_) fun hS74=>?_
       refine (zbJ h70 (hx2_.trans (hx3_.trans (hx4_.trans (hx5_.trans (hx7_.trans (hx8_.trans (hx9_.trans hx10_)))))))).mono ?_
       rintro _ w11_ ⟨hx11_,rfl⟩
       refine zai ?_
       refine br (fun c11=>?_) (fun c11=>?_)
       · refine ⟨(hx1_.trans (hx2_.trans (hx3_.trans (hx4_.trans (hx5_.trans (hx7_.trans (hx8_.trans (hx9_.trans (hx10_.trans hx11_))))))))),?_⟩
         have:¬zfA c a (en c (zaL c j).toNat) (zd9 c (zaL c j)+1):=fun h=>by
           have:=h.2.2.1;rw [if_pos (.inl c8)] at this
           have:=zdZ.2 (this.2 _ (List.getElem_mem (n:=k) (by omega)));omega
         simp only [this,decide_false]
       refine zah (by omega) ?_
       refine ⟨m19-1,by omega,k+1,by omega,by simp,(hx9_.trans (hx10_.trans hx11_)),?_⟩
       intro s hs
       rw [List.take_succ_eq_append_getElem (by omega)] at hs
       rcases List.mem_append.1 hs with hs | hs
       · exact hinv s hs
       simp only [List.mem_cons,List.not_mem_nil,or_false] at hs
       subst hs
       exact zdZ.1 (by omega)
     refine ⟨by simp,(hx7_.trans (hx8_.trans hx9_)),?_⟩
     rw [if_pos (.inl c8)]
     rw [List.take_of_length_le (by omega)] at hinv
     exact ⟨by simpa using c9,hinv⟩
   refine zaa za5 ?_
   refine zac ty3 (zaG hA5) (hx3_.trans (hx4_.trans hx5_)) fun hI53=>?_
   refine zag ?_
   refine br (fun c12=>?_) (fun c12=>?_)
   · refine zaa zcI ?_
     refine zab zcs (zbG hA5) (hx3_.trans (hx4_.trans hx5_)) fun v57 h57=>?_
     refine (zbZ h57 (hx3_.trans (hx4_.trans hx5_))).mono ?_
     rintro _ w12_ ⟨hx12_,rfl⟩
     refine zbs ?_
     refine zcM (fun c13=>?_) (fun c13=>?_)
     · refine ⟨(hx1_.trans (hx2_.trans (hx3_.trans (hx4_.trans (hx5_.trans hx12_))))),?_⟩
       have:¬zfA c a (en c (zaL c j).toNat) (zd9 c (zaL c j)+1):=fun h=>by have:=h.2.2.1;rw [if_pos (.inr c12)] at this;rw [this.1] at c13;cases c13
       simp only [this,decide_false]
     refine zaa zcI ?_
     refine zab zcs (zbG hA5) (hx3_.trans (hx4_.trans (hx5_.trans hx12_))) fun v61 h61=>?_
     refine (zc7 h61 (hx3_.trans (hx4_.trans (hx5_.trans hx12_)))).mono ?_
     rintro r62 w13_ ⟨hx13_,h62⟩
     refine zaE ((zbe a.term).length) (fun k us w'=>us=[.int .i64 (k:Int)]∧Ext w13_ w'∧(∀ s∈(zbe a.term).take k,s∈c.globals)) (0) (by omega) ⟨by simp,Ext.refl w13_,by simp⟩ ?_
     rintro k m19 uu19 w14_ hk19 ⟨hu,hx14_,hinv⟩
     simp only [List.map_cons,List.map_nil,List.cons.injEq,and_true] at hu
     try rw [hu]
     try clear hu
     have hln65:=zaf h62
     refine zae u24 h62 ?_
     refine zai ?_
     refine br (fun c14=>?_) (fun c14=>?_)
     · have hx15_:=zaj w14_
       refine zaa zcQ ?_
       refine zab zcP (zaW hA2) (hx2_.trans (hx3_.trans (hx4_.trans (hx5_.trans (hx12_.trans (hx13_.trans (hx14_.trans hx15_))))))) fun v70 h70=>?_
       refine zad u24 ty9 h62 (by omega) fun b73 o73 h73=>?_
       refine zao ty9 h73 (hx14_.trans hx15_) fun hS74=>?_
       refine (zbJ h70 (hx2_.trans (hx3_.trans (hx4_.trans (hx5_.trans (hx12_.trans (hx13_.trans (hx14_.trans hx15_)))))))).mono ?_
       rintro _ w16_ ⟨hx16_,rfl⟩
       refine zai ?_
       refine br (fun c15=>?_) (fun c15=>?_)
       · refine ⟨(hx1_.trans (hx2_.trans (hx3_.trans (hx4_.trans (hx5_.trans (hx12_.trans (hx13_.trans (hx14_.trans (hx15_.trans hx16_))))))))),?_⟩
         have:¬zfA c a (en c (zaL c j).toNat) (zd9 c (zaL c j)+1):=fun h=>by
           have:=h.2.2.1;rw [if_pos (.inr c12)] at this
           have:=zdZ.2 (this.2 _ (List.getElem_mem (n:=k) (by omega)));omega
         simp only [this,decide_false]
       refine zah (by omega) ?_
       refine ⟨m19-1,by omega,k+1,by omega,by simp,(hx14_.trans (hx15_.trans hx16_)),?_⟩
       intro s hs
       rw [List.take_succ_eq_append_getElem (by omega)] at hs
       rcases List.mem_append.1 hs with hs | hs
       · exact hinv s hs
       simp only [List.mem_cons,List.not_mem_nil,or_false] at hs
       subst hs
       exact zdZ.1 (by omega)
     refine ⟨by simp,(hx12_.trans (hx13_.trans hx14_)),?_⟩
     rw [if_pos (.inr c12)]
     rw [List.take_of_length_le (by omega)] at hinv
     exact ⟨by simpa using c13,hinv⟩
   refine zaa zcI ?_
   refine zab zcs (zbG hA5) (hx3_.trans (hx4_.trans hx5_)) fun v78 h78=>?_
   refine zpa (α:=DTerm) zut zsX (by kernel_rfl) rfl fun v79 h79=>?_
   refine (zhr h78 (hx3_.trans (hx4_.trans hx5_)) h79 (Ext.refl w5_) rfl).mono ?_
   rintro _ w17_ ⟨hx17_,rfl⟩
   refine zas ?_
   refine br (fun c16=>?_) (fun c16=>?_)
   · refine ⟨(hx1_.trans (hx2_.trans (hx3_.trans (hx4_.trans (hx5_.trans hx17_))))),?_⟩
     have:¬zfA c a (en c (zaL c j).toNat) (zd9 c (zaL c j)+1):=fun h=>by have:=h.2.2.1;rw [if_neg (by omega)] at this;exact c16 this
     simp only [this,decide_false]
   refine ⟨by simp,hx17_,?_⟩
   rw [if_neg (by omega)]
   exact Decidable.not_not.1 c16
 rintro uj25 w6_ ⟨hu,hx17_,hT⟩
 simp only [List.map_cons,List.map_nil,List.cons.injEq,and_true] at hu
 clear hu
 refine JOIN.mk (fun us w'=>us=[]∧Ext w6_ w'∧(a.op=2∨a.op=3)) ?_ ?_
 · refine zaa za5 ?_
   refine zac ty3 (zaG hA5) (hx3_.trans (hx4_.trans (hx5_.trans hx17_))) fun hI83=>?_
   refine zaM ?_
   refine br (fun c17=>?_) (fun c17=>?_)
   · refine zaa za5 ?_
     refine zac ty3 (zaG hA5) (hx3_.trans (hx4_.trans (hx5_.trans hx17_))) fun hI87=>?_
     refine zaM ?_
     refine br (fun c18=>?_) (fun c18=>?_)
     · refine zaa zdY ?_
       refine zac ty3 (zcH hA5) (hx3_.trans (hx4_.trans (hx5_.trans hx17_))) fun hI91=>?_
       refine zag ?_
       refine ⟨(hx1_.trans (hx2_.trans (hx3_.trans (hx4_.trans (hx5_.trans hx17_))))),?_⟩
       congr 1
       rw [decide_eq_decide]
       constructor
       · exact fun h=>⟨Decidable.not_not.1 c6,by omega,hT,by rw [if_neg (by omega)];exact h⟩
       intro h;have:=h.2.2.2;rw [if_neg (by omega)] at this;exact this
     refine ⟨by simp,Ext.refl w6_,?_⟩
     omega
   refine ⟨by simp,Ext.refl w6_,?_⟩
   omega
 rintro uj27 w18_ ⟨hu,hx18_,hop⟩
 simp only [List.map_cons,List.map_nil,List.cons.injEq,and_true] at hu
 clear hu
 refine zan hV2 (hx2_.trans (hx3_.trans (hx4_.trans (hx5_.trans (hx17_.trans hx18_))))) ?_
 refine (zgQ h0 (e0.trans (hx1_.trans (hx2_.trans (hx3_.trans (hx4_.trans (hx5_.trans (hx17_.trans hx18_)))))))).mono ?_
 rintro _ w19_ ⟨hx19_,rfl⟩
 have hx20_:=zaj w19_
 refine zaa zdY ?_
 refine zac ty3 (zcH hA5) (hx3_.trans (hx4_.trans (hx5_.trans (hx17_.trans (hx18_.trans (hx19_.trans hx20_)))))) fun hI97=>?_
 refine zaa zbn ?_
 refine zab zbk (zax hA2) (hx2_.trans (hx3_.trans (hx4_.trans (hx5_.trans (hx17_.trans (hx18_.trans (hx19_.trans hx20_))))))) fun v99 h99=>?_
 refine zat u25 ty3 h99 (by omega) (by omega) fun b101 o101 h101=>?_
 refine zac ty3 h101 (hx2_.trans (hx3_.trans (hx4_.trans (hx5_.trans (hx17_.trans (hx18_.trans (hx19_.trans hx20_))))))) fun hI102=>?_
 refine zan hV2 (hx2_.trans (hx3_.trans (hx4_.trans (hx5_.trans (hx17_.trans (hx18_.trans (hx19_.trans hx20_))))))) ?_
 refine (zk3 h0 (e0.trans (hx1_.trans (hx2_.trans (hx3_.trans (hx4_.trans (hx5_.trans (hx17_.trans (hx18_.trans (hx19_.trans hx20_))))))))) (by omega) (by omega) (by assumption)).mono ?_
 rintro _ w21_ ⟨hx21_,rfl⟩
 refine ⟨hx21_,?_⟩
 refine (zcw ).mono ?_
 rintro _ w22_ ⟨hx22_,rfl⟩
 refine ⟨(hx1_.trans (hx2_.trans (hx3_.trans (hx4_.trans (hx5_.trans (hx17_.trans (hx18_.trans (hx19_.trans (hx20_.trans (hx21_.trans hx22_)))))))))),?_⟩
 congr 1
 rw [decide_eq_decide,zbU]
 constructor
 · exact fun h=>⟨Decidable.not_not.1 c6,by omega,hT,by rw [if_pos hop];omega⟩
 intro h;have:=h.2.2.2;rw [if_pos hop] at this;omega
def CodeR (c:DCode):Prop:=NamesR c∧EntS c∧∀ j,j<c.ins.length→zfA c (zbo c j) (en c (zaL c j).toNat) (zd9 c (zaL c j)+1)
instance (c:DCode):Decidable (CodeR c):=by unfold CodeR;infer_instance
theorem EntS.nonneg {c:DCode} (h:EntS c):∀ i,i<c.entry.length→0≤en c i:=zgS h.2.2.1
theorem NamesR.procs8 {c:DCode} (h:NamesR c):c.procs.length≤8∧0<c.procs.length:=by
 have h1:=h.2.2.1
 simp only [Bool.and_eq_true,decide_eq_true_eq] at h1
 have h2:=List.length_pos_of_mem h.2.2.2.2.2.2
 omega
theorem zgT {c:DCode} {a:Int} (h0:en c 0≤a):∀ {n:Nat},0<n→0≤prc c a n
 | 1,_=>by rw [prc,if_pos h0];omega
 | n+2,_=>by
   rw [prc]
   split
   · omega
   exact zgT h0 (by omega)
theorem zj0 {c:DCode} (hn:NamesR c) (h:EntS c) {a:Int} (ha:0≤a):0≤zaL c a:=by
 have h1:=hn.procs8
 have h2:=h.1
 exact zgT (by have:=(h.2.2.1 0 (by omega)).1 rfl;omega) (by omega)
def F81 (a0:Value) (w:World) (R:VW):Prop:=
 oP (Instr.box 28 a0) w fun x1 w=>
 rL 28 x1 w fun x4=>
 cL 147 [x4] w fun x5 w=>
 rD (Op.unary .not x5) w fun x6=>
 BR x6
 (R (Value.bool false) w)
 (LOOPI [3] [(iV 0)] w fun u4 w next4=>
 rF 28 x1 4 w fun x8=>
 rL 26 x8 w fun x9=>
 rN 26 3 x9 w fun x10=>
 rC (u4 3) x10 w fun x11=>
 BR x11
 (rL 28 x1 w fun x14=>
 cL 148 [x14,(u4 3)] w fun x16 w=>
 rD (Op.unary .not x16) w fun x17=>
 BR x17
 (R (Value.bool false) w)
 (rA (u4 3) (iV 1) w fun x13=>
 next4 [x13] w))
 (R (Value.bool true) w))
def cfg81:Cfg:=⟨extL,[],[(4,262028,[3])],[],[],[],[]⟩
theorem F81_call {a0:Value} {w:World} {R:VW} (h:F81 a0 w R):cL 81 [a0] w R:=co (g:=cfg81) Tryz.func81 (by kernel_rfl) (by kernel_rfl) (by kernel_rfl) h
theorem zgk {w:World} {v0:Value} {W0:World} {c:DCode}  (h0:Is W0 v0 c) (e0:Ext W0 w)  :
   CALL Tryz.prog 81 [v0] w fun r w'=>Ext w w'∧(r=.bool (decide (CodeR c))):=by
 refine F81_call ?_
 unfold F81
 refine zal zbq rfl h0 e0 fun w1_ hx1_ hA1 hV1=>?_
 refine zan hV1 (Ext.refl w1_) ?_
 refine (zmc h0 (e0.trans hx1_)).mono ?_
 rintro _ w2_ ⟨hx2_,rfl⟩
 skip
 refine zas ?_
 refine br (fun c1=>?_) (fun c1=>?_)
 · refine ⟨(hx1_.trans hx2_),?_⟩
   have:¬CodeR c:=fun h=>c1 ⟨h.1,h.2.1⟩
   simp only [this,decide_false]
 refine zaE (c.ins.length) (fun k us w'=>us=[.int .i64 (k:Int)]∧Ext w2_ w'∧(∀ j,j<k→zfA c (zbo c j) (en c (zaL c j).toNat) (zd9 c (zaL c j)+1))) (0) (by omega) ⟨by simp,Ext.refl w2_,fun i h=>by omega⟩ ?_
 rintro k m4 uu4 w3_ hk4 ⟨hu,hx3_,hinv⟩
 simp only [List.map_cons,List.map_nil,List.cons.injEq,and_true] at hu
 try rw [hu]
 try clear hu
 replace c1:=Decidable.not_not.1 c1
 refine zaa zba ?_
 refine zab zdN (zaq hA1) (hx2_.trans hx3_) fun v9 h9=>?_
 have hln10:=zaf h9
 refine zae u26 h9 ?_
 refine zai ?_
 refine br (fun c2=>?_) (fun c2=>?_)
 · refine zan hV1 (hx2_.trans hx3_) ?_
   refine (zpc h0 (e0.trans (hx1_.trans (hx2_.trans hx3_))) (by omega) c1.2.nonneg (by have:=c1.1.procs8;have:=c1.2.1;omega) (zj0 c1.1 c1.2 (by omega))).mono ?_
   rintro _ w4_ ⟨hx4_,rfl⟩
   refine zas ?_
   refine br (fun c3=>?_) (fun c3=>?_)
   · refine ⟨(hx1_.trans (hx2_.trans (hx3_.trans hx4_))),?_⟩
     have:¬CodeR c:=fun h=>c3 (h.2.2 k (by omega))
     simp only [this,decide_false]
   refine zah (by omega) ?_
   refine ⟨m4-1,by omega,k+1,by omega,by simp,(hx3_.trans hx4_),?_⟩
   exact zdr hinv (Decidable.not_not.1 c3)
 refine ⟨(hx1_.trans (hx2_.trans hx3_)),?_⟩
 have:CodeR c:=⟨c1.1,c1.2,fun j hj=>hinv j (by omega)⟩
 simp only [this,decide_true]
def F127 (a0:Value) (w:World) (R:VW):Prop:=
 oP (Instr.box 28 a0) w fun x1 w=>
 rF 28 x1 0 w fun x3=>
 rL 24 x3 w fun x4=>
 cL 205 [x4,(iV 6)] w fun x5 w=>
 rD (Op.unary .not x5) w fun x6=>
 BR x6
 (R (Value.bool false) w)
 (rF 28 x1 1 w fun x8=>
 rL 24 x8 w fun x9=>
 cL 205 [x9,(iV 6)] w fun x10 w=>
 rD (Op.unary .not x10) w fun x11=>
 BR x11
 (R (Value.bool false) w)
 (rF 28 x1 2 w fun x14=>
 rL 24 x14 w fun x15=>
 cL 205 [x15,(iV 8)] w fun x16 w=>
 rD (Op.unary .not x16) w fun x17=>
 BR x17
 (R (Value.bool false) w)
 (rF 28 x1 0 w fun x19=>
 rL 24 x19 w fun x20=>
 cL 172 [x20] w fun x21 w=>
 BR x21
 (R (Value.bool false) w)
 (rF 28 x1 1 w fun x23=>
 rL 24 x23 w fun x24=>
 cL 172 [x24] w fun x25 w=>
 BR x25
 (R (Value.bool false) w)
 (rF 28 x1 2 w fun x28=>
 rL 24 x28 w fun x29=>
 cL 172 [x29] w fun x30 w=>
 BR x30
 (R (Value.bool false) w)
 (rF 28 x1 2 w fun x32=>
 rL 24 x32 w fun x33=>
 cL 132 [x33,(Value.string (ByteArray.mk #[109,97,105,110]))] w fun x34 w=>
 R x34 w))))))
def cfg127:Cfg:=⟨extL,[],[],[],[],[],[]⟩
theorem F127_call {a0:Value} {w:World} {R:VW} (h:F127 a0 w R):cL 127 [a0] w R:=co (g:=cfg127) Tryz.func127 (by kernel_rfl) (by kernel_rfl) (by kernel_rfl) h
theorem zj1 {w:World} {v0:Value} {W0:World} {c:DCode}  (h0:Is W0 v0 c) (e0:Ext W0 w)  :
   CALL Tryz.prog 127 [v0] w fun r w'=>Ext w w'∧(r=.bool (decide (NamesR c))):=by
 refine F127_call ?_
 unfold F127
 refine zal zbq rfl h0 e0 fun w1_ hx1_ hA1 hV1=>?_
 refine zaa zcQ ?_
 refine zab zcP (zaW hA1) (Ext.refl w1_) fun v4 h4=>?_
 refine (zfL h4 (Ext.refl w1_)).mono ?_
 rintro _ w2_ ⟨hx2_,rfl⟩
 refine zbs ?_
 refine zcM (fun c1=>?_) (fun c1=>?_)
 · refine ⟨(hx1_.trans hx2_),?_⟩
   have:¬NamesR c:=fun h=>by rw [h.1] at c1;cases c1
   simp only [this,decide_false]
 refine zaa ze0 ?_
 refine zab zcP (zbO hA1) hx2_ fun v9 h9=>?_
 refine (zfL h9 hx2_).mono ?_
 rintro _ w3_ ⟨hx3_,rfl⟩
 refine zbs ?_
 refine zcM (fun c2=>?_) (fun c2=>?_)
 · refine ⟨(hx1_.trans (hx2_.trans hx3_)),?_⟩
   have:¬NamesR c:=fun h=>by rw [h.2.1] at c2;cases c2
   simp only [this,decide_false]
 refine zaa zdA ?_
 refine zab zcP (zbv hA1) (hx2_.trans hx3_) fun v15 h15=>?_
 refine (zfL h15 (hx2_.trans hx3_)).mono ?_
 rintro _ w4_ ⟨hx4_,rfl⟩
 refine zbs ?_
 refine zcM (fun c3=>?_) (fun c3=>?_)
 · refine ⟨(hx1_.trans (hx2_.trans (hx3_.trans hx4_))),?_⟩
   have:¬NamesR c:=fun h=>by rw [h.2.2.1] at c3;cases c3
   simp only [this,decide_false]
 refine zaa zcQ ?_
 refine zab zcP (zaW hA1) (hx2_.trans (hx3_.trans hx4_)) fun v20 h20=>?_
 refine (zfM h20 (hx2_.trans (hx3_.trans hx4_))).mono ?_
 rintro _ w5_ ⟨hx5_,rfl⟩
 refine br (fun c4=>?_) (fun c4=>?_)
 · refine ⟨(hx1_.trans (hx2_.trans (hx3_.trans (hx4_.trans hx5_)))),?_⟩
   have:¬NamesR c:=fun h=>c4 h.2.2.2.1
   simp only [this,decide_false]
 refine zaa ze0 ?_
 refine zab zcP (zbO hA1) (hx2_.trans (hx3_.trans (hx4_.trans hx5_))) fun v24 h24=>?_
 refine (zfM h24 (hx2_.trans (hx3_.trans (hx4_.trans hx5_)))).mono ?_
 rintro _ w6_ ⟨hx6_,rfl⟩
 refine br (fun c5=>?_) (fun c5=>?_)
 · refine ⟨(hx1_.trans (hx2_.trans (hx3_.trans (hx4_.trans (hx5_.trans hx6_))))),?_⟩
   have:¬NamesR c:=fun h=>c5 h.2.2.2.2.1
   simp only [this,decide_false]
 refine zaa zdA ?_
 refine zab zcP (zbv hA1) (hx2_.trans (hx3_.trans (hx4_.trans (hx5_.trans hx6_)))) fun v29 h29=>?_
 refine (zfM h29 (hx2_.trans (hx3_.trans (hx4_.trans (hx5_.trans hx6_))))).mono ?_
 rintro _ w7_ ⟨hx7_,rfl⟩
 refine br (fun c6=>?_) (fun c6=>?_)
 · refine ⟨(hx1_.trans (hx2_.trans (hx3_.trans (hx4_.trans (hx5_.trans (hx6_.trans hx7_)))))),?_⟩
   have:¬NamesR c:=fun h=>c6 h.2.2.2.2.2.1
   simp only [this,decide_false]
 refine zaa zdA ?_
 refine zab zcP (zbv hA1) (hx2_.trans (hx3_.trans (hx4_.trans (hx5_.trans (hx6_.trans hx7_))))) fun v33 h33=>?_
 refine (zb7 h33 (hx2_.trans (hx3_.trans (hx4_.trans (hx5_.trans (hx6_.trans hx7_)))))).mono ?_
 rintro _ w8_ ⟨hx8_,rfl⟩
 refine ⟨(hx1_.trans (hx2_.trans (hx3_.trans (hx4_.trans (hx5_.trans (hx6_.trans (hx7_.trans hx8_))))))),?_⟩
 congr 1
 rw [decide_eq_decide]
 exact ⟨fun h=>⟨by simpa using c1,by simpa using c2,by simpa using c3,Decidable.not_not.1 c4,Decidable.not_not.1 c5,Decidable.not_not.1 c6,h⟩,fun h=>h.2.2.2.2.2.2⟩
def zj2 (c:DCode):Nat→Nat
 | 0=>0
 | k+1=>zj2 c k+if (zbo c k).op=9 then 1 else 0
theorem zpd (c:DCode):∀ k,zj2 c k≤k
 | 0=>Nat.le_refl _
 | k+1=>by have:=zpd c k;rw [zj2];split<;>omega
def EntI (c:DCode):Prop:=c.ins.length≤1500∧c.entry.length=c.procs.length∧en c 0=0∧zj2 c c.ins.length=c.entry.length ∧
 ∀ i,i<c.entry.length→en c i<zdl c i∧zdl c i≤c.ins.length∧(zbo c (zdl c i-1).toNat).op=9
instance (c:DCode):Decidable (EntI c):=by unfold EntI;infer_instance
theorem zfN {c:DCode} (h0:en c 0=0):∀ {q:Nat},q<c.entry.length→(∀ i,i<q→en c i<zdl c i)→0≤en c q
 | 0,_,_=>by omega
 | q+1,hq,h=>by
   have h1:=zfN h0 (q:=q) (by omega) fun i hi=>h i (by omega)
   have h2:=h q (by omega)
   unfold zdl at h2
   rw [if_pos hq] at h2
   omega
def F128 (a0:Value) (w:World) (R:VW):Prop:=
 oP (Instr.box 28 a0) w fun x1 w=>
 rF 28 x1 4 w fun x9=>
 rL 26 x9 w fun x10=>
 rN 26 3 x10 w fun x11=>
 rB .gtr 3 T0 U0 x11 (iV 1500) w fun x12=>
 BR x12
 (R (Value.bool false) w)
 (rF 28 x1 3 w fun x14=>
 rL 25 x14 w fun x15=>
 rN 25 3 x15 w fun x16=>
 rF 28 x1 2 w fun x17=>
 rL 24 x17 w fun x18=>
 rN 24 3 x18 w fun x19=>
 rB .neq 3 T0 T0 x16 x19 w fun x20=>
 BR x20
 (R (Value.bool false) w)
 (rF 28 x1 3 w fun x23=>
 rL 25 x23 w fun x24=>
 rX 25 x24 (iV 0) w fun x25=>
 rL 3 x25 w fun x26=>
 rB .neq 3 T0 U0 x26 (iV 0) w fun x27=>
 BR x27
 (R (Value.bool false) w)
 (rF 28 x1 4 w fun x29=>
 rL 26 x29 w fun x30=>
 rN 26 3 x30 w fun x31=>
 LOOPI [3,32] [(iV 0),(iV 0)] w fun u5 w next5=>
 rC (u5 32) x31 w fun x33=>
 BR x33
 (rX 26 x30 (u5 32) w fun x34=>
 rL 117 x34 w fun x35=>
 oP (Instr.alloc 117 true (.tuple #[])) w fun x5 w=>
 oS 117 x5 x35 w fun w=>
 rF 117 x5 0 w fun x36=>
 rL 3 x36 w fun x37=>
 rB .eql 3 T0 U0 x37 (iV 9) w fun x38=>
 BR x38
 (rA (u5 3) (iV 1) w fun x40=>
 rA (u5 32) (iV 1) w fun x41=>
 next5 [x40,x41] w)
 (rA (u5 32) (iV 1) w fun x41=>
 next5 [(u5 3),x41] w))
 (rF 28 x1 3 w fun x43=>
 rL 25 x43 w fun x44=>
 rN 25 3 x44 w fun x45=>
 rB .neq 3 T0 T0 (u5 3) x45 w fun x46=>
 BR x46
 (R (Value.bool false) w)
 (rF 28 x1 3 w fun x47=>
 rL 25 x47 w fun x48=>
 rN 25 3 x48 w fun x49=>
 LOOPI [50] [(iV 0)] w fun u13 w next13=>
 rC (u13 50) x49 w fun x51=>
 BR x51
 ((fun w=>rF 28 x1 3 w fun x53=>
 rL 25 x53 w fun x54=>
 rX 25 x54 (u13 50) w fun x56=>
 rL 3 x56 w fun x57=>
 rF 28 x1 4 w fun x58=>
 rL 26 x58 w fun x59=>
 rN 26 3 x59 w fun x60=>
 JOIN [8] (fun J18=>
 rA (u13 50) (iV 1) w fun x62=>
 rF 28 x1 3 w fun x63=>
 rL 25 x63 w fun x64=>
 rN 25 3 x64 w fun x65=>
 rC x62 x65 w fun x66=>
 BR x66
 (rF 28 x1 3 w fun x67=>
 rL 25 x67 w fun x68=>
 rA (u13 50) (iV 1) w fun x70=>
 rX 25 x68 x70 w fun x71=>
 rL 3 x71 w fun x72=>
 J18 [x72] w)
 (J18 [x60] w)) (fun u18 w=>
 rB .leq 3 T0 T0 (u18 8) x57 w fun x75=>
 BR x75
 (R (Value.bool false) w)
 (rF 28 x1 4 w fun x78=>
 rL 26 x78 w fun x79=>
 rN 26 3 x79 w fun x80=>
 rB .gtr 3 T0 T0 (u18 8) x80 w fun x81=>
 BR x81
 (R (Value.bool false) w)
 (rF 28 x1 4 w fun x84=>
 rL 26 x84 w fun x85=>
 rB .sub 3 T0 U0 (u18 8) (iV 1) w fun x87=>
 rX 26 x85 x87 w fun x88=>
 rF 117 x88 0 w fun x89=>
 rL 3 x89 w fun x90=>
 rB .neq 3 T0 U0 x90 (iV 9) w fun x91=>
 BR x91
 (R (Value.bool false) w)
 (rA (u13 50) (iV 1) w fun x93=>
 next13 [x93] w))))) (World.drew1 w))
 (R (Value.bool true) w))))))
def cfg128:Cfg:=⟨extL,[(18,9442427122730076733696,[8])],[(5,4393751543848,[3,32]),(13,19807040628564958498479145412,[50])],[(15,[0,1,2,3,4,5,6,7,8,9],0)],[],[],[]⟩
theorem F128_call {a0:Value} {w:World} {R:VW} (h:F128 a0 w R):cL 128 [a0] w R:=co (g:=cfg128) Tryz.func128 (by kernel_rfl) (by kernel_rfl) (by kernel_rfl) h
theorem zih {w:World} {v0:Value} {W0:World} {c:DCode}  (h0:Is W0 v0 c) (e0:Ext W0 w) (hp:0<c.procs.length) :
   CALL Tryz.prog 128 [v0] w fun r w'=>Ext w w'∧(r=.bool (decide (EntI c))):=by
 refine F128_call ?_
 unfold F128
 refine zal zbq rfl h0 e0 fun w1_ hx1_ hA1 hV1=>?_
 refine zaa zba ?_
 refine zab zdN (zaq hA1) (Ext.refl w1_) fun v10 h10=>?_
 have hln11:=zaf h10
 refine zae u26 h10 ?_
 refine zb0 ?_
 refine br (fun c1=>?_) (fun c1=>?_)
 · refine ⟨hx1_,?_⟩
   have:¬EntI c:=fun h=>by have:=h.1;omega
   simp only [this,decide_false]
 refine zaa zbn ?_
 refine zab zbk (zax hA1) (Ext.refl w1_) fun v15 h15=>?_
 have hln16:=zaf h15
 refine zae u25 h15 ?_
 refine zaa zdA ?_
 refine zab zcP (zbv hA1) (Ext.refl w1_) fun v18 h18=>?_
 have hln19:=zaf h18
 refine zae u24 h18 ?_
 refine zaM ?_
 refine br (fun c2=>?_) (fun c2=>?_)
 · refine ⟨hx1_,?_⟩
   have:¬EntI c:=fun h=>by have:=h.2.1;omega
   simp only [this,decide_false]
 refine zaa zbn ?_
 refine zab zbk (zax hA1) (Ext.refl w1_) fun v24 h24=>?_
 refine zat u25 ty3 h24 (by omega) (by omega) fun b25 o25 h25=>?_
 refine zac ty3 h25 (Ext.refl w1_) fun hI26=>?_
 refine zaM ?_
 refine br (fun c3=>?_) (fun c3=>?_)
 · refine ⟨hx1_,?_⟩
   rw [zbU] at c3
   have:¬EntI c:=fun h=>c3 h.2.2.1
   simp only [this,decide_false]
 refine zaa zba ?_
 refine zab zdN (zaq hA1) (Ext.refl w1_) fun v30 h30=>?_
 have hln31:=zaf h30
 refine zae u26 h30 ?_
 refine zaE (c.ins.length) (fun k us w'=>us=[.int .i64 (zj2 c k:Int),.int .i64 (k:Int)]∧Ext w1_ w'∧(True)) (0) (by omega) ⟨rfl,Ext.refl w1_,trivial⟩ ?_
 rintro k m5 uu5 w2_ hk5 ⟨hu,hx2_,hinv⟩
 obtain ⟨hu0,hu1⟩:=zfZ hu;clear hu
 try rw [hu0]
 try rw [hu1]
 try clear hu0 hu1
 have hel:=zpd c k
 refine zai ?_
 refine br (fun c4=>?_) (fun c4=>?_)
 · refine zad u26 zbS h30 (by omega) fun b34 o34 h34=>?_
   refine zab zbS h34 hx2_ fun v35 h35=>?_
   rw [zaO] at h35
   refine zeY zl5 rfl zbS rfl h35 hx2_ fun w3_ hx3_ hA5 hV5=>?_
   refine zaa za5 ?_
   refine zac ty3 (zaG hA5) (Ext.refl w3_) fun hI37=>?_
   refine zag ?_
   refine br (fun c5=>?_) (fun c5=>?_)
   · refine zah (by omega) ?_
     refine zah (by omega) ?_
     refine ⟨m5-1,by omega,k+1,by omega,by rw [zj2,if_pos c5],(hx2_.trans hx3_),?_⟩
     trivial
   refine zah (by omega) ?_
   refine ⟨m5-1,by omega,k+1,by omega,by rw [zj2,if_neg c5];rfl,(hx2_.trans hx3_),?_⟩
   trivial
 refine zaa zbn ?_
 refine zab zbk (zax hA1) hx2_ fun v44 h44=>?_
 have hln45:=zaf h44
 refine zae u25 h44 ?_
 refine zaM ?_
 refine br (fun c6=>?_) (fun c6=>?_)
 · refine ⟨(hx1_.trans hx2_),?_⟩
   have:¬EntI c:=fun h=>c6 (by rw [show k=c.ins.length by omega,h.2.2.2.1])
   simp only [this,decide_false]
 refine zaa zbn ?_
 refine zab zbk (zax hA1) hx2_ fun v48 h48=>?_
 have hln49:=zaf h48
 refine zae u25 h48 ?_
 refine zaE (c.entry.length) (fun q us w'=>us=[.int .i64 (q:Int)]∧Ext w2_ w'∧(∀ i,i<q→en c i<zdl c i∧zdl c i≤c.ins.length∧(zbo c (zdl c i-1).toNat).op=9)) (0) (by omega) ⟨by simp,Ext.refl w2_,fun i h=>by omega⟩ ?_
 rintro q m13 uu13 w4_ hk13 ⟨hu,hx4_,hent⟩
 simp only [List.map_cons,List.map_nil,List.cons.injEq,and_true] at hu
 try rw [hu]
 try clear hu
 refine zai ?_
 refine br (fun c7=>?_) (fun c7=>?_)
 · have hx5_:=zaj w4_
   refine zaa zbn ?_
   refine zab zbk (zax hA1) (hx2_.trans (hx4_.trans hx5_)) fun v54 h54=>?_
   refine zad u25 ty3 h54 (by omega) fun b56 o56 h56=>?_
   refine zac ty3 h56 (hx2_.trans (hx4_.trans hx5_)) fun hI57=>?_
   refine zaa zba ?_
   refine zab zdN (zaq hA1) (hx2_.trans (hx4_.trans hx5_)) fun v59 h59=>?_
   have hln60:=zaf h59
   refine zae u26 h59 ?_
   refine JOIN.mk (fun us w'=>us=[.int .i64 (zdl c q)]∧Ext (World.drew1 w4_) w'∧(True)) ?_ ?_
   · refine zah (by omega) ?_
     refine zaa zbn ?_
     refine zab zbk (zax hA1) (hx2_.trans (hx4_.trans hx5_)) fun v64 h64=>?_
     have hln65:=zaf h64
     refine zae u25 h64 ?_
     refine zai ?_
     refine br (fun c8=>?_) (fun c8=>?_)
     · refine zaa zbn ?_
       refine zab zbk (zax hA1) (hx2_.trans (hx4_.trans hx5_)) fun v68 h68=>?_
       refine zah (by omega) ?_
       refine zad u25 ty3 h68 (by omega) fun b71 o71 h71=>?_
       refine zac ty3 h71 (hx2_.trans (hx4_.trans hx5_)) fun hI72=>?_
       refine ⟨by unfold zdl;rw [if_pos (by omega),zbU],Ext.refl (World.drew1 w4_),?_⟩
       trivial
     refine ⟨by unfold zdl;rw [if_neg (by omega)],Ext.refl (World.drew1 w4_),?_⟩
     trivial
   rintro uj18 w6_ ⟨hu,hx6_,hinv⟩
   simp only [List.map_cons,List.map_nil,List.cons.injEq,and_true] at hu
   try rw [hu]
   try clear hu
   refine zcO ?_
   refine br (fun c9=>?_) (fun c9=>?_)
   · refine ⟨(hx1_.trans (hx2_.trans (hx4_.trans (hx5_.trans hx6_)))),?_⟩
     rw [zbU] at c9
     have:¬EntI c:=fun h=>by have:=(h.2.2.2.2 q (by omega)).1;omega
     simp only [this,decide_false]
   refine zaa zba ?_
   refine zab zdN (zaq hA1) (hx2_.trans (hx4_.trans (hx5_.trans hx6_))) fun v79 h79=>?_
   have hln80:=zaf h79
   refine zae u26 h79 ?_
   refine zb0 ?_
   refine br (fun c10=>?_) (fun c10=>?_)
   · refine ⟨(hx1_.trans (hx2_.trans (hx4_.trans (hx5_.trans hx6_)))),?_⟩
     have:¬EntI c:=fun h=>by have:=(h.2.2.2.2 q (by omega)).2.1;omega
     simp only [this,decide_false]
   refine zaa zba ?_
   refine zab zdN (zaq hA1) (hx2_.trans (hx4_.trans (hx5_.trans hx6_))) fun v85 h85=>?_
   rw [zbU] at c3 c9
   have hq0:=zfN (Decidable.not_not.1 c3) (q:=q) (by omega) fun i hi=>(hent i hi).1
   refine za2 (by unfold I64;omega) ?_
   refine zat u26 zbS h85 (by omega) (by omega) fun b88 o88 h88=>?_
   refine zaa za5 ?_
   refine zac ty3 (zaG h88) (hx2_.trans (hx4_.trans (hx5_.trans hx6_))) fun hI90=>?_
   refine zaM ?_
   refine br (fun c11=>?_) (fun c11=>?_)
   · refine ⟨(hx1_.trans (hx2_.trans (hx4_.trans (hx5_.trans hx6_)))),?_⟩
     rw [zaO] at c11
     have:¬EntI c:=fun h=>c11 (h.2.2.2.2 q (by omega)).2.2
     simp only [this,decide_false]
   refine zah (by omega) ?_
   refine ⟨m13-1,by omega,q+1,by omega,by simp,(hx4_.trans (hx5_.trans hx6_)),?_⟩
   rw [zaO] at c11
   exact zdr hent ⟨by omega,by omega,Decidable.not_not.1 c11⟩
 refine ⟨(hx1_.trans (hx2_.trans hx4_)),?_⟩
 rw [zbU] at c3
 have:EntI c:=⟨by omega,by omega,Decidable.not_not.1 c3,by rw [show c.ins.length=k by omega];omega,fun i hi=>hent i (by omega)⟩
 simp only [this,decide_true]
def F206 (a0 a1:Value) (w:World) (R:VW):Prop:=
 oP (Instr.box 28 a0) w fun x2 w=>
 rB .eql 3 T0 U0 a1 (iV 1) w fun x7=>
 BR x7
 (rF 28 x2 0 w fun x8=>
 rL 24 x8 w fun x9=>
 rN 24 3 x9 w fun x10=>
 R x10 w)
 (rB .eql 3 T0 U0 a1 (iV 4) w fun x12=>
 BR x12
 (rF 28 x2 2 w fun x14=>
 rL 24 x14 w fun x15=>
 rN 24 3 x15 w fun x16=>
 R x16 w)
 (rB .eql 3 T0 U0 a1 (iV 5) w fun x13=>
 BR x13
 (rF 28 x2 2 w fun x14=>
 rL 24 x14 w fun x15=>
 rN 24 3 x15 w fun x16=>
 R x16 w)
 (rB .eql 3 T0 U0 a1 (iV 6) w fun x18=>
 BR x18
 (rF 28 x2 1 w fun x20=>
 rL 24 x20 w fun x21=>
 rN 24 3 x21 w fun x22=>
 R x22 w)
 (rB .eql 3 T0 U0 a1 (iV 7) w fun x19=>
 BR x19
 (rF 28 x2 1 w fun x20=>
 rL 24 x20 w fun x21=>
 rN 24 3 x21 w fun x22=>
 R x22 w)
 (R (iV 1) w)))))
def cfg206:Cfg:=⟨extL,[],[],[],[],[],[]⟩
theorem F206_call {a0 a1:Value} {w:World} {R:VW} (h:F206 a0 a1 w R):cL 206 [a0,a1] w R:=co (g:=cfg206) Tryz.func206 (by kernel_rfl) (by kernel_rfl) (by kernel_rfl) h
theorem zn2 {w:World} {v0:Value} {W0:World} {c:DCode} {op:Int}  (h0:Is W0 v0 c) (e0:Ext W0 w)  :
   CALL Tryz.prog 206 [v0,.int .i64 op] w fun r w'=>Ext w w'∧(r=.int .i64 (zbK c op)):=by
 refine F206_call ?_
 unfold F206
 refine zal zbq rfl h0 e0 fun w1_ hx1_ hA2 hV2=>?_
 refine zag ?_
 refine br (fun c1=>?_) (fun c1=>?_)
 · refine zaa zcQ ?_
   refine zab zcP (zaW hA2) (Ext.refl w1_) fun v9 h9=>?_
   have hln10:=zaf h9
   refine zae u24 h9 ?_
   refine ⟨hx1_,?_⟩
   unfold zbK;rw [if_pos c1]
 refine zag ?_
 refine br (fun c2=>?_) (fun c2=>?_)
 · refine zaa zdA ?_
   refine zab zcP (zbv hA2) (Ext.refl w1_) fun v15 h15=>?_
   have hln16:=zaf h15
   refine zae u24 h15 ?_
   refine ⟨hx1_,?_⟩
   unfold zbK;rw [if_neg (by omega),if_pos (by omega)]
 refine zag ?_
 refine br (fun c3=>?_) (fun c3=>?_)
 · refine zaa zdA ?_
   refine zab zcP (zbv hA2) (Ext.refl w1_) fun v15 h15=>?_
   have hln16:=zaf h15
   refine zae u24 h15 ?_
   refine ⟨hx1_,?_⟩
   unfold zbK;rw [if_neg (by omega),if_pos (by omega)]
 refine zag ?_
 refine br (fun c4=>?_) (fun c4=>?_)
 · refine zaa ze0 ?_
   refine zab zcP (zbO hA2) (Ext.refl w1_) fun v21 h21=>?_
   have hln22:=zaf h21
   refine zae u24 h21 ?_
   refine ⟨hx1_,?_⟩
   unfold zbK;rw [if_neg (by omega),if_neg (by omega),if_pos (by omega)]
 refine zag ?_
 refine br (fun c5=>?_) (fun c5=>?_)
 · refine zaa ze0 ?_
   refine zab zcP (zbO hA2) (Ext.refl w1_) fun v21 h21=>?_
   have hln22:=zaf h21
   refine zae u24 h21 ?_
   refine ⟨hx1_,?_⟩
   unfold zbK;rw [if_neg (by omega),if_neg (by omega),if_pos (by omega)]
 refine ⟨hx1_,?_⟩
 unfold zbK;rw [if_neg (by omega),if_neg (by omega),if_neg (by omega)]
def F130 (a0 a1 a2 a3:Value) (w:World) (R:VW):Prop:=
 oP (Instr.box 28 a0) w fun x4 w=>
 oP (Instr.box 117 a1) w fun x5 w=>
 (fun w=>rF 117 x5 0 w fun x11=>
 rL 3 x11 w fun x12=>
 rB .lss 3 T0 U0 x12 (iV 1) w fun x13=>
 BR x13
 (R (Value.bool false) w)
 (rF 117 x5 0 w fun x15=>
 rL 3 x15 w fun x16=>
 rB .gtr 3 T0 U0 x16 (iV 9) w fun x17=>
 BR x17
 (R (Value.bool false) w)
 (rF 117 x5 1 w fun x20=>
 rL 3 x20 w fun x21=>
 rB .lss 3 T0 U0 x21 (iV 0) w fun x22=>
 BR x22
 (R (Value.bool false) w)
 (rF 117 x5 1 w fun x25=>
 rL 3 x25 w fun x26=>
 rL 28 x4 w fun x27=>
 rF 117 x5 0 w fun x28=>
 rL 3 x28 w fun x29=>
 (fun w_=>cL 206 [x27,x29] w_ fun x30 w=>
 Ext w_ w ∧
 rB .geq 3 T0 T0 x26 x30 w fun x31=>
 BR x31
 (R (Value.bool false) w)
 (JOIN [] (fun J14=>
 rF 117 x5 0 w fun x33=>
 rL 3 x33 w fun x34=>
 rB .eql 3 T0 U0 x34 (iV 1) w fun x35=>
 BR x35
 (rF 117 x5 2 w fun x41=>
 rL 78 x41 w fun x42=>
 cL 207 [x42] w fun x43 w=>
 rD (Op.unary .not x43) w fun x44=>
 BR x44
 (R (Value.bool false) w)
 (rF 117 x5 2 w fun x45=>
 rL 78 x45 w fun x46=>
 cL 131 [x46] w fun x47 w=>
 rN 24 3 x47 w fun x48=>
 LOOPI [49] [(iV 0)] w fun u7 w next7=>
 rC (u7 49) x48 w fun x50=>
 BR x50
 (rX 24 x47 (u7 49) w fun x51=>
 rL 9 x51 w fun x52=>
 rF 28 x4 0 w fun x53=>
 rL 24 x53 w fun x54=>
 cL 132 [x54,x52] w fun x56 w=>
 rD (Op.unary .not x56) w fun x57=>
 BR x57
 (R (Value.bool false) w)
 (rA (u7 49) (iV 1) w fun x58=>
 next7 [x58] w))
 (J14 [] w)))
 (rF 117 x5 0 w fun x37=>
 rL 3 x37 w fun x38=>
 rB .eql 3 T0 U0 x38 (iV 2) w fun x39=>
 BR x39
 (rF 117 x5 2 w fun x41=>
 rL 78 x41 w fun x42=>
 cL 207 [x42] w fun x43 w=>
 rD (Op.unary .not x43) w fun x44=>
 BR x44
 (R (Value.bool false) w)
 (rF 117 x5 2 w fun x45=>
 rL 78 x45 w fun x46=>
 cL 131 [x46] w fun x47 w=>
 rN 24 3 x47 w fun x48=>
 LOOPI [49] [(iV 0)] w fun u7 w next7=>
 rC (u7 49) x48 w fun x50=>
 BR x50
 (rX 24 x47 (u7 49) w fun x51=>
 rL 9 x51 w fun x52=>
 rF 28 x4 0 w fun x53=>
 rL 24 x53 w fun x54=>
 cL 132 [x54,x52] w fun x56 w=>
 rD (Op.unary .not x56) w fun x57=>
 BR x57
 (R (Value.bool false) w)
 (rA (u7 49) (iV 1) w fun x58=>
 next7 [x58] w))
 (J14 [] w)))
 (rF 117 x5 2 w fun x59=>
 rL 78 x59 w fun x60=>
 cL 208 [x60] w fun x61 w=>
 rD (Op.unary .not x61) w fun x62=>
 BR x62
 (R (Value.bool false) w)
 (J14 [] w)))) (fun u14 w=>
 rF 117 x5 0 w fun x63=>
 rL 3 x63 w fun x64=>
 rB .eql 3 T0 U0 x64 (iV 2) w fun x65=>
 BR x65
 (rF 117 x5 3 w fun x71=>
 rL 3 x71 w fun x72=>
 rB .geq 3 T0 T0 x72 a2 w fun x74=>
 BR x74
 (rF 117 x5 3 w fun x76=>
 rL 3 x76 w fun x77=>
 rC x77 a3 w fun x79=>
 R x79 w)
 (R (Value.bool false) w))
 (rF 117 x5 0 w fun x67=>
 rL 3 x67 w fun x68=>
 rB .eql 3 T0 U0 x68 (iV 3) w fun x69=>
 BR x69
 (rF 117 x5 3 w fun x71=>
 rL 3 x71 w fun x72=>
 rB .geq 3 T0 T0 x72 a2 w fun x74=>
 BR x74
 (rF 117 x5 3 w fun x76=>
 rL 3 x76 w fun x77=>
 rC x77 a3 w fun x79=>
 R x79 w)
 (R (Value.bool false) w))
 (rF 117 x5 3 w fun x81=>
 rL 3 x81 w fun x82=>
 rB .eql 3 T0 U0 x82 (iV 0) w fun x83=>
 R x83 w))))) w)))) (World.drew1 w)
def cfg130:Cfg:=⟨extL,[(14,9223372028264842496,[])],[(7,575897802350003456,[49])],[(1,[0,1,2,3,4,5,6,7,8,9,10,11,12,13,14,15,16,17,18,19,20,21],524288)],[],[],[]⟩
theorem F130_call {a0 a1 a2 a3:Value} {w:World} {R:VW} (h:F130 a0 a1 a2 a3 w R):cL 130 [a0,a1,a2,a3] w R:=co (g:=cfg130) Tryz.func130 (by kernel_rfl) (by kernel_rfl) (by kernel_rfl) h
theorem zmd {w:World} {v0:Value} {W0:World} {c:DCode} {v1:Value} {W1:World} {a:DIns} {b:Int} {e:Int}  (h0:Is W0 v0 c) (e0:Ext W0 w) (h1:Is W1 v1 a) (e1:Ext W1 w)  :
   CALL Tryz.prog 130 [v0,v1,.int .i64 b,.int .i64 e] w fun r w'=>Ext w w'∧(r=.bool (decide (zfA c a b e))):=by
 refine F130_call ?_
 unfold F130
 refine zal zbq rfl h0 e0 fun w1_ hx1_ hA4 hV4=>?_
 refine zal zbS rfl h1 (e1.trans hx1_) fun w2_ hx2_ hA5 hV5=>?_
 have hx3_:=zaj w2_
 refine zaa za5 ?_
 refine zac ty3 (zaG hA5) hx3_ fun hI12=>?_
 refine zai ?_
 refine br (fun c1=>?_) (fun c1=>?_)
 · refine ⟨(hx1_.trans (hx2_.trans hx3_)),?_⟩
   have:¬zfA c a b e:=fun h=>by have:=h.1;omega
   simp only [this,decide_false]
 refine zaa za5 ?_
 refine zac ty3 (zaG hA5) hx3_ fun hI16=>?_
 refine zb0 ?_
 refine br (fun c2=>?_) (fun c2=>?_)
 · refine ⟨(hx1_.trans (hx2_.trans hx3_)),?_⟩
   have:¬zfA c a b e:=fun h=>by have:=h.1;omega
   simp only [this,decide_false]
 refine zaa zbY ?_
 refine zac ty3 (za4 hA5) hx3_ fun hI21=>?_
 refine zai ?_
 refine br (fun c3=>?_) (fun c3=>?_)
 · refine ⟨(hx1_.trans (hx2_.trans hx3_)),?_⟩
   have:¬zfA c a b e:=fun h=>by have:=h.2.1;omega
   simp only [this,decide_false]
 refine zaa zbY ?_
 refine zac ty3 (za4 hA5) hx3_ fun hI26=>?_
 refine zan hV4 (hx2_.trans hx3_) ?_
 refine zaa za5 ?_
 refine zac ty3 (zaG hA5) hx3_ fun hI29=>?_
 refine (zn2 h0 (e0.trans (hx1_.trans (hx2_.trans hx3_)))).mono ?_
 rintro _ w4_ ⟨hx4_,rfl⟩
 refine ⟨hx4_,?_⟩
 refine zb1 ?_
 refine br (fun c4=>?_) (fun c4=>?_)
 · refine ⟨(hx1_.trans (hx2_.trans (hx3_.trans hx4_))),?_⟩
   have:¬zfA c a b e:=fun h=>by have:=h.2.1;omega
   simp only [this,decide_false]
 refine JOIN.mk (fun us w'=>us=[]∧Ext w4_ w'∧(if a.op=1∨a.op=2 then zaQ 6 a.term=true∧(∀ s∈zbe a.term,s∈c.globals) else a.term=term0)) ?_ ?_
 · refine zaa za5 ?_
   refine zac ty3 (zaG hA5) (hx3_.trans hx4_) fun hI34=>?_
   refine zag ?_
   refine br (fun c5=>?_) (fun c5=>?_)
   · refine zaa zcI ?_
     refine zab zcs (zbG hA5) (hx3_.trans hx4_) fun v42 h42=>?_
     refine (zez h42 (hx3_.trans hx4_)).mono ?_
     rintro _ w6_ ⟨hx6_,rfl⟩
     refine zbs ?_
     refine zcM (fun c6=>?_) (fun c6=>?_)
     · refine ⟨(hx1_.trans (hx2_.trans (hx3_.trans (hx4_.trans hx6_)))),?_⟩
       have:¬zfA c a b e:=fun h=>by have:=h.2.2.1;rw [if_pos (.inl c5)] at this;rw [this.1] at c6;cases c6
       simp only [this,decide_false]
     refine zaa zcI ?_
     refine zab zcs (zbG hA5) (hx3_.trans (hx4_.trans hx6_)) fun v46 h46=>?_
     refine (zd0 h46 (hx3_.trans (hx4_.trans hx6_))).mono ?_
     rintro r47 w7_ ⟨hx7_,h47⟩
     have hln48:=zaf h47
     refine zae u24 h47 ?_
     refine zaE ((zbe a.term).length) (fun k us w'=>us=[.int .i64 (k:Int)]∧Ext w7_ w'∧(∀ s∈(zbe a.term).take k,s∈c.globals)) (0) (by omega) ⟨by simp,Ext.refl w7_,by simp⟩ ?_
     rintro k m7 uu7 w8_ hk7 ⟨hu,hx8_,hinv⟩
     simp only [List.map_cons,List.map_nil,List.cons.injEq,and_true] at hu
     try rw [hu]
     try clear hu
     refine zai ?_
     refine br (fun c7=>?_) (fun c7=>?_)
     · refine zad u24 ty9 h47 (by omega) fun b51 o51 h51=>?_
       refine zao ty9 h51 hx8_ fun hS52=>?_
       refine zaa zcQ ?_
       refine zab zcP (zaW hA4) (hx2_.trans (hx3_.trans (hx4_.trans (hx6_.trans (hx7_.trans hx8_))))) fun v54 h54=>?_
       refine (zb7 h54 (hx2_.trans (hx3_.trans (hx4_.trans (hx6_.trans (hx7_.trans hx8_)))))).mono ?_
       rintro _ w9_ ⟨hx9_,rfl⟩
       refine zas ?_
       refine br (fun c8=>?_) (fun c8=>?_)
       · refine ⟨(hx1_.trans (hx2_.trans (hx3_.trans (hx4_.trans (hx6_.trans (hx7_.trans (hx8_.trans hx9_))))))),?_⟩
         have:¬zfA c a b e:=fun h=>by
           have:=h.2.2.1;rw [if_pos (.inl c5)] at this
           exact c8 (this.2 _ (List.getElem_mem (n:=k) (by omega)))
         simp only [this,decide_false]
       refine zah (by omega) ?_
       refine ⟨m7-1,by omega,k+1,by omega,by simp,(hx8_.trans hx9_),?_⟩
       intro s hs
       rw [List.take_succ_eq_append_getElem (by omega)] at hs
       rcases List.mem_append.1 hs with hs | hs
       · exact hinv s hs
       simp only [List.mem_cons,List.not_mem_nil,or_false] at hs
       subst hs
       exact Decidable.not_not.1 c8
     refine ⟨by simp,(hx6_.trans (hx7_.trans hx8_)),?_⟩
     rw [if_pos (.inl c5)]
     rw [List.take_of_length_le (by omega)] at hinv
     exact ⟨by simpa using c6,hinv⟩
   refine zaa za5 ?_
   refine zac ty3 (zaG hA5) (hx3_.trans hx4_) fun hI38=>?_
   refine zag ?_
   refine br (fun c9=>?_) (fun c9=>?_)
   · refine zaa zcI ?_
     refine zab zcs (zbG hA5) (hx3_.trans hx4_) fun v42 h42=>?_
     refine (zez h42 (hx3_.trans hx4_)).mono ?_
     rintro _ w10_ ⟨hx10_,rfl⟩
     refine zbs ?_
     refine zcM (fun c10=>?_) (fun c10=>?_)
     · refine ⟨(hx1_.trans (hx2_.trans (hx3_.trans (hx4_.trans hx10_)))),?_⟩
       have:¬zfA c a b e:=fun h=>by have:=h.2.2.1;rw [if_pos (.inr c9)] at this;rw [this.1] at c10;cases c10
       simp only [this,decide_false]
     refine zaa zcI ?_
     refine zab zcs (zbG hA5) (hx3_.trans (hx4_.trans hx10_)) fun v46 h46=>?_
     refine (zd0 h46 (hx3_.trans (hx4_.trans hx10_))).mono ?_
     rintro r47 w11_ ⟨hx11_,h47⟩
     have hln48:=zaf h47
     refine zae u24 h47 ?_
     refine zaE ((zbe a.term).length) (fun k us w'=>us=[.int .i64 (k:Int)]∧Ext w11_ w'∧(∀ s∈(zbe a.term).take k,s∈c.globals)) (0) (by omega) ⟨by simp,Ext.refl w11_,by simp⟩ ?_
     rintro k m7 uu7 w12_ hk7 ⟨hu,hx12_,hinv⟩
     simp only [List.map_cons,List.map_nil,List.cons.injEq,and_true] at hu
     try rw [hu]
     try clear hu
     refine zai ?_
     refine br (fun c11=>?_) (fun c11=>?_)
     · refine zad u24 ty9 h47 (by omega) fun b51 o51 h51=>?_
       refine zao ty9 h51 hx12_ fun hS52=>?_
       refine zaa zcQ ?_
       refine zab zcP (zaW hA4) (hx2_.trans (hx3_.trans (hx4_.trans (hx10_.trans (hx11_.trans hx12_))))) fun v54 h54=>?_
       refine (zb7 h54 (hx2_.trans (hx3_.trans (hx4_.trans (hx10_.trans (hx11_.trans hx12_)))))).mono ?_
       rintro _ w13_ ⟨hx13_,rfl⟩
       refine zas ?_
       refine br (fun c12=>?_) (fun c12=>?_)
       · refine ⟨(hx1_.trans (hx2_.trans (hx3_.trans (hx4_.trans (hx10_.trans (hx11_.trans (hx12_.trans hx13_))))))),?_⟩
         have:¬zfA c a b e:=fun h=>by
           have:=h.2.2.1;rw [if_pos (.inr c9)] at this
           exact c12 (this.2 _ (List.getElem_mem (n:=k) (by omega)))
         simp only [this,decide_false]
       refine zah (by omega) ?_
       refine ⟨m7-1,by omega,k+1,by omega,by simp,(hx12_.trans hx13_),?_⟩
       intro s hs
       rw [List.take_succ_eq_append_getElem (by omega)] at hs
       rcases List.mem_append.1 hs with hs | hs
       · exact hinv s hs
       simp only [List.mem_cons,List.not_mem_nil,or_false] at hs
       subst hs
       exact Decidable.not_not.1 c12
     refine ⟨by simp,(hx10_.trans (hx11_.trans hx12_)),?_⟩
     rw [if_pos (.inr c9)]
     rw [List.take_of_length_le (by omega)] at hinv
     exact ⟨by simpa using c10,hinv⟩
   refine zaa zcI ?_
   refine zab zcs (zbG hA5) (hx3_.trans hx4_) fun v60 h60=>?_
   refine (zjW h60 (hx3_.trans hx4_)).mono ?_
   rintro _ w14_ ⟨hx14_,rfl⟩
   refine zas ?_
   refine br (fun c13=>?_) (fun c13=>?_)
   · refine ⟨(hx1_.trans (hx2_.trans (hx3_.trans (hx4_.trans hx14_)))),?_⟩
     have:¬zfA c a b e:=fun h=>by have:=h.2.2.1;rw [if_neg (by omega)] at this;exact c13 this
     simp only [this,decide_false]
   refine ⟨by simp,hx14_,?_⟩
   rw [if_neg (by omega)]
   exact Decidable.not_not.1 c13
 rintro uj14 w5_ ⟨hu,hx14_,hT⟩
 simp only [List.map_cons,List.map_nil,List.cons.injEq,and_true] at hu
 clear hu
 refine zaa za5 ?_
 refine zac ty3 (zaG hA5) (hx3_.trans (hx4_.trans hx14_)) fun hI64=>?_
 refine zag ?_
 refine br (fun c14=>?_) (fun c14=>?_)
 · refine zaa zdY ?_
   refine zac ty3 (zcH hA5) (hx3_.trans (hx4_.trans hx14_)) fun hI72=>?_
   refine zb1 ?_
   refine br (fun c15=>?_) (fun c15=>?_)
   · refine zaa zdY ?_
     refine zac ty3 (zcH hA5) (hx3_.trans (hx4_.trans hx14_)) fun hI77=>?_
     refine zai ?_
     refine ⟨(hx1_.trans (hx2_.trans (hx3_.trans (hx4_.trans hx14_)))),?_⟩
     first
       | (have no:¬zfA c a b e:=fun h=>by
           have h4:=h.2.2.2;rw [if_pos (by omega)] at h4;omega
          simp only [no,decide_false]
          done)
       | (congr 1
          rw [decide_eq_decide]
          constructor
          · exact fun h=>⟨by omega,by omega,hT,by first | (rw [if_pos (by omega)];omega) | (rw [if_neg (by omega)];omega)⟩
          intro h
          have h4:=h.2.2.2
          first | (rw [if_pos (by omega)] at h4;omega) | (rw [if_neg (by omega)] at h4;omega))
   refine ⟨(hx1_.trans (hx2_.trans (hx3_.trans (hx4_.trans hx14_)))),?_⟩
   first
     | (have no:¬zfA c a b e:=fun h=>by
         have h4:=h.2.2.2;rw [if_pos (by omega)] at h4;omega
        simp only [no,decide_false]
        done)
     | (congr 1
        rw [decide_eq_decide]
        constructor
        · exact fun h=>⟨by omega,by omega,hT,by first | (rw [if_pos (by omega)];omega) | (rw [if_neg (by omega)];omega)⟩
        intro h
        have h4:=h.2.2.2
        first | (rw [if_pos (by omega)] at h4;omega) | (rw [if_neg (by omega)] at h4;omega))
 refine zaa za5 ?_
 refine zac ty3 (zaG hA5) (hx3_.trans (hx4_.trans hx14_)) fun hI68=>?_
 refine zag ?_
 refine br (fun c16=>?_) (fun c16=>?_)
 · refine zaa zdY ?_
   refine zac ty3 (zcH hA5) (hx3_.trans (hx4_.trans hx14_)) fun hI72=>?_
   refine zb1 ?_
   refine br (fun c17=>?_) (fun c17=>?_)
   · refine zaa zdY ?_
     refine zac ty3 (zcH hA5) (hx3_.trans (hx4_.trans hx14_)) fun hI77=>?_
     refine zai ?_
     refine ⟨(hx1_.trans (hx2_.trans (hx3_.trans (hx4_.trans hx14_)))),?_⟩
     first
       | (have no:¬zfA c a b e:=fun h=>by
           have h4:=h.2.2.2;rw [if_pos (by omega)] at h4;omega
          simp only [no,decide_false]
          done)
       | (congr 1
          rw [decide_eq_decide]
          constructor
          · exact fun h=>⟨by omega,by omega,hT,by first | (rw [if_pos (by omega)];omega) | (rw [if_neg (by omega)];omega)⟩
          intro h
          have h4:=h.2.2.2
          first | (rw [if_pos (by omega)] at h4;omega) | (rw [if_neg (by omega)] at h4;omega))
   refine ⟨(hx1_.trans (hx2_.trans (hx3_.trans (hx4_.trans hx14_)))),?_⟩
   first
     | (have no:¬zfA c a b e:=fun h=>by
         have h4:=h.2.2.2;rw [if_pos (by omega)] at h4;omega
        simp only [no,decide_false]
        done)
     | (congr 1
        rw [decide_eq_decide]
        constructor
        · exact fun h=>⟨by omega,by omega,hT,by first | (rw [if_pos (by omega)];omega) | (rw [if_neg (by omega)];omega)⟩
        intro h
        have h4:=h.2.2.2
        first | (rw [if_pos (by omega)] at h4;omega) | (rw [if_neg (by omega)] at h4;omega))
 refine zaa zdY ?_
 refine zac ty3 (zcH hA5) (hx3_.trans (hx4_.trans hx14_)) fun hI82=>?_
 refine zag ?_
 refine ⟨(hx1_.trans (hx2_.trans (hx3_.trans (hx4_.trans hx14_)))),?_⟩
 first
   | (have no:¬zfA c a b e:=fun h=>by
       have h4:=h.2.2.2;rw [if_pos (by omega)] at h4;omega
      simp only [no,decide_false]
      done)
   | (congr 1
      rw [decide_eq_decide]
      constructor
      · exact fun h=>⟨by omega,by omega,hT,by first | (rw [if_pos (by omega)];omega) | (rw [if_neg (by omega)];omega)⟩
      intro h
      have h4:=h.2.2.2
      first | (rw [if_pos (by omega)] at h4;omega) | (rw [if_neg (by omega)] at h4;omega))
def F129 (a0 a1:Value) (w:World) (R:VW):Prop:=
 oP (Instr.box 28 a0) w fun x2 w=>
 rA a1 (iV 1) w fun x6=>
 rF 28 x2 3 w fun x7=>
 rL 25 x7 w fun x8=>
 rN 25 3 x8 w fun x9=>
 rC x6 x9 w fun x10=>
 BR x10
 (rF 28 x2 3 w fun x11=>
 rL 25 x11 w fun x12=>
 rA a1 (iV 1) w fun x14=>
 rX 25 x12 x14 w fun x15=>
 rL 3 x15 w fun x16=>
 R x16 w)
 (rF 28 x2 4 w fun x17=>
 rL 26 x17 w fun x18=>
 rN 26 3 x18 w fun x19=>
 R x19 w)
def cfg129:Cfg:=⟨extL,[],[],[],[],[],[]⟩
theorem F129_call {a0 a1:Value} {w:World} {R:VW} (h:F129 a0 a1 w R):cL 129 [a0,a1] w R:=co (g:=cfg129) Tryz.func129 (by kernel_rfl) (by kernel_rfl) (by kernel_rfl) h
theorem zk4 {w:World} {v0:Value} {W0:World} {c:DCode} {i:Nat}  (h0:Is W0 v0 c) (e0:Ext W0 w) (hi:i<1000000000000) :
   CALL Tryz.prog 129 [v0,.int .i64 (i:Int)] w fun r w'=>Ext w w'∧(r=.int .i64 (zdl c i)):=by
 refine F129_call ?_
 unfold F129
 refine zal zbq rfl h0 e0 fun w1_ hx1_ hA2 hV2=>?_
 refine zah (by omega) ?_
 refine zaa zbn ?_
 refine zab zbk (zax hA2) (Ext.refl w1_) fun v8 h8=>?_
 have hln9:=zaf h8
 refine zae u25 h8 ?_
 refine zai ?_
 refine br (fun c1=>?_) (fun c1=>?_)
 · refine zaa zbn ?_
   refine zab zbk (zax hA2) (Ext.refl w1_) fun v12 h12=>?_
   refine zah (by omega) ?_
   refine zad u25 ty3 h12 (by omega) fun b15 o15 h15=>?_
   refine zac ty3 h15 (Ext.refl w1_) fun hI16=>?_
   refine ⟨hx1_,?_⟩
   unfold zdl;rw [if_pos (by omega),zbU]
 refine zaa zba ?_
 refine zab zdN (zaq hA2) (Ext.refl w1_) fun v18 h18=>?_
 have hln19:=zaf h18
 refine zae u26 h18 ?_
 refine ⟨hx1_,?_⟩
 unfold zdl;rw [if_neg (by omega)]
structure EntF (c:DCode):Prop where
 len:c.entry.length=c.procs.length
 ins:c.ins.length≤1500
 zero:en c 0=0
 lt:∀ i,i<c.entry.length→en c i<zdl c i∧zdl c i≤c.ins.length
theorem EntF.nonneg {c:DCode} (h:EntF c) {i:Nat} (hi:i<c.entry.length):0≤en c i:=zfN h.zero hi fun j hj=>(h.lt j (by omega)).1
theorem EntF.step {c:DCode} (h:EntF c) {i:Nat} (hi:i+1<c.entry.length):zdl c i=en c (i+1):=by unfold zdl;rw [if_pos hi]
theorem EntF.last {c:DCode} (h:EntF c) {i:Nat} (hi:i+1=c.entry.length):zdl c i=c.ins.length:=by unfold zdl;rw [if_neg (by omega)]
theorem EntF.mono {c:DCode} (h:EntF c):∀ {i j:Nat},i<j→j<c.entry.length→zdl c i≤en c j
 | i,j+1,hij,hj=>by
   by_cases e:i=j
   · subst e;rw [h.step hj];exact Int.le_refl _
   have h1:=h.mono (i:=i) (j:=j) (by omega) (by omega)
   have h2:=(h.lt j (by omega)).1
   rw [h.step hj] at h2
   omega
theorem EntF.proc {c:DCode} (h:EntF c) {i:Nat} {a:Int} (hi:i<c.entry.length) (h1:en c i≤a) (h2:a<zdl c i):zaL c a=i:=by
 unfold zaL
 rw [zhJ (m:=i+1) (by omega) fun j hj1 hj2=>by have:=h.mono (i:=i) (j:=j) (by omega) hj2;omega]
 rw [prc,if_pos h1]
theorem EntF.find {c:DCode} (h:EntF c) (hp:0<c.procs.length) {a:Int} (h0:0≤a) (h1:a<c.ins.length):∃ i,i<c.entry.length∧en c i≤a∧a<zdl c i∧zaL c a=i:=by
 have hlen:=h.len
 have h2:0≤zaL c a:=zgT (by rw [h.zero];exact h0) (by omega)
 have h3:=(zgj (c:=c) (a:=a)).2
 have key:∀ n,n≤c.entry.length→(∀ j,n≤j→j<c.entry.length→a<en c j)→0<n→∃ i,i<n∧en c i≤a∧a<zdl c i:=by
   intro n
   induction n with
   | zero=>intro _ _ h;omega
   | succ n ih=>
     intro hn hj _
     by_cases hle:en c n≤a
     · refine ⟨n,by omega,hle,?_⟩
       by_cases hl:n+1<c.entry.length
       · rw [h.step hl];exact hj (n+1) (by omega) hl
       rw [h.last (by omega)];exact h1
     by_cases h0n:n=0
     · subst h0n;rw [h.zero] at hle;omega
     obtain ⟨i,hi,hx⟩:=ih (by omega) (fun j hj1 hj2=>by
       by_cases e:j=n
       · subst e;omega
       exact hj j (by omega) hj2) (by omega)
     exact ⟨i,by omega,hx⟩
 obtain ⟨i,hi,hx,hy⟩:=key c.entry.length (Nat.le_refl _) (fun j hj1 hj2=>by omega) (by omega)
 exact ⟨i,hi,hx,hy,h.proc hi hx hy⟩
theorem EntS.f {c:DCode} (h:EntS c) (hp:0<c.procs.length):EntF c:=by
 obtain ⟨h1,h2,h3,h4⟩:=h
 refine ⟨h1,h2,(h3 0 (by omega)).1 rfl,fun i hi=>?_⟩
 unfold zdl
 split
 · rename_i hl
   have:=h3 (i+1) hl
   have h5:=this.2.1 (by omega)
   simp only [Nat.add_sub_cancel] at h5
   exact ⟨h5,by omega⟩
 exact ⟨(h3 i hi).2.2,Int.le_refl _⟩
theorem EntI.f {c:DCode} (h:EntI c):EntF c:=⟨h.2.1,h.1,h.2.2.1,fun i hi=>⟨(h.2.2.2.2 i hi).1,(h.2.2.2.2 i hi).2.1⟩⟩
theorem zpe (c:DCode) (a:Nat):∀ (d:Nat),zj2 c a≤zj2 c (a+d)∧(zj2 c (a+d)=zj2 c a↔∀ j,a≤j→j<a+d→¬(zbo c j).op=9)
 | 0=>⟨Nat.le_refl _,⟨fun _ j h1 h2=>by omega,fun _=>rfl⟩⟩
 | d+1=>by
   obtain ⟨h1,h2⟩:=zpe c a d
   rw [←Nat.add_assoc,zj2]
   refine ⟨by omega,?_⟩
   split
   · rename_i h9
     exact ⟨fun h=>by omega,fun h=>absurd h9 (h (a+d) (by omega) (by omega))⟩
   rename_i h9
   rw [Nat.add_zero,h2]
   constructor
   · intro h j hj1 hj2
     by_cases e:j=a+d
     · subst e;exact h9
     exact h j hj1 (by omega)
   exact fun h j hj1 hj2=>h j hj1 (by omega)
def eb (c:DCode) (n:Nat):Nat:=if n=0 then 0 else (zdl c (n-1)).toNat
theorem EntF.eb_en {c:DCode} (h:EntF c) {n:Nat} (hn:n<c.entry.length):(eb c n:Int)=en c n:=by
 unfold eb
 split
 · rename_i h0;subst h0;rw [h.zero];rfl
 have h1:=h.nonneg hn
 have h2:zdl c (n-1)=en c n:=by
   have:=h.step (i:=n-1) (by omega)
   rwa [show n-1+1=n by omega] at this
 rw [h2];omega
theorem EntF.eb_succ {c:DCode} (h:EntF c) {n:Nat} (hn:n<c.entry.length):(eb c (n+1):Int)=zdl c n:=by
 unfold eb
 rw [if_neg (by omega),Nat.add_sub_cancel]
 have:=(h.lt n hn).1
 have:=h.nonneg hn
 omega
theorem zgU {c:DCode} (h:EntF c) (he:∀ i,i<c.entry.length→(zbo c (zdl c i-1).toNat).op=9):∀ n,n≤c.entry.length →
   n≤zj2 c (eb c n)∧(zj2 c (eb c n)=n↔∀ j:Nat,j<eb c n→(zbo c j).op=9→∃ i,i<n∧zdl c i=j+1)
 | 0,_=>⟨Nat.zero_le _,⟨fun _ j hj=>by simp [eb] at hj,fun _=>rfl⟩⟩
 | n+1,hn=>by
   obtain ⟨h1,h2⟩:=zgU h he n (by omega)
   have ha:=h.eb_en (n:=n) (by omega)
   have hb:=h.eb_succ (n:=n) (by omega)
   have hlt:=(h.lt n (by omega)).1
   have h9:=he n (by omega)
   have e9:(zdl c n-1).toNat=eb c (n+1)-1:=by omega
   rw [e9] at h9
   obtain ⟨d,hd⟩:∃ d,eb c (n+1)=eb c n+d+1:=⟨eb c (n+1)-eb c n-1,by omega⟩
   have hd':eb c (n+1)-1=eb c n+d:=by omega
   rw [hd'] at h9
   obtain ⟨h3,h4⟩:=zpe c (eb c n) d
   rw [hd,zj2,if_pos h9]
   refine ⟨by omega,?_⟩
   have hsplit:zj2 c (eb c n+d)+1=n+1↔(zj2 c (eb c n)=n∧zj2 c (eb c n+d)=zj2 c (eb c n)):=by omega
   rw [hsplit,h2,h4]
   constructor
   · rintro ⟨p1,p2⟩ j hj hj9
     by_cases hja:j<eb c n
     · obtain ⟨i,hi,hx⟩:=p1 j hja hj9
       exact ⟨i,by omega,hx⟩
     by_cases hje:j=eb c n+d
     · exact ⟨n,by omega,by omega⟩
     exact absurd hj9 (p2 j (by omega) (by omega))
   intro p
   constructor
   · intro j hj hj9
     obtain ⟨i,hi,hx⟩:=p j (by omega) hj9
     by_cases hin:i=n
     · subst hin;omega
     exact ⟨i,by omega,hx⟩
   intro j hj1 hj2 hj9
   obtain ⟨i,hi,hx⟩:=p j (by omega) hj9
   by_cases hin:i=n
   · subst hin;omega
   have:=h.mono (i:=i) (j:=n) (by omega) (by omega)
   omega
theorem zpf {c:DCode} (hp:0<c.procs.length):EntI c↔EntS c:=by
 constructor
 · intro h
   have hf:=h.f
   obtain ⟨_,_,_,hc,hall⟩:=h
   have hlen:=hf.len
   have he:∀ i,i<c.entry.length→(zbo c (zdl c i-1).toNat).op=9:=fun i hi=>(hall i hi).2.2
   obtain ⟨_,h2⟩:=zgU hf he c.entry.length (Nat.le_refl _)
   have hb:eb c c.entry.length=c.ins.length:=by
     have:=hf.eb_succ (n:=c.entry.length-1) (by omega)
     rw [hf.last (by omega),show c.entry.length-1+1=c.entry.length by omega] at this
     omega
   rw [hb] at h2
   have h3:=h2.1 hc
   refine ⟨hf.len,hf.ins,fun i hi=>⟨fun _=>hf.zero,fun h0=>?_,?_⟩,fun j hj=>?_⟩
   · have h4:=(hf.lt (i-1) (by omega)).1
     have h5:=hf.step (i:=i-1) (by omega)
     rw [show i-1+1=i by omega] at h5
     omega
   · have:=hf.lt i hi;omega
   obtain ⟨i,hi,hx,hy,hpr⟩:=hf.find hp (a:=j) (by omega) (by omega)
   rw [hpr,zdq]
   constructor
   · intro h9
     obtain ⟨i',hi',hx'⟩:=h3 j hj h9
     have:=hf.lt i' hi'
     have hpr':=hf.proc (a:=j) hi' (by omega) (by omega)
     have:i'=i:=by omega
     subst this
     omega
   intro h9
   have:=he i hi
   rwa [show (zdl c i-1).toNat=j by omega] at this
 intro h
 have hf:=h.f hp
 have hlen:=hf.len
 have h4:=h.2.2.2
 have he:∀ i,i<c.entry.length→(zbo c (zdl c i-1).toNat).op=9:=fun i hi=>by
   have h1:=hf.lt i hi
   have h0:=hf.nonneg hi
   have:=(h4 (zdl c i-1).toNat (by omega)).2
   refine this ?_
   rw [hf.proc (i:=i) hi (by omega) (by omega),zdq]
   omega
 obtain ⟨_,h2⟩:=zgU hf he c.entry.length (Nat.le_refl _)
 have hb:eb c c.entry.length=c.ins.length:=by
   have:=hf.eb_succ (n:=c.entry.length-1) (by omega)
   rw [hf.last (by omega),show c.entry.length-1+1=c.entry.length by omega] at this
   omega
 rw [hb] at h2
 refine ⟨hf.ins,hf.len,hf.zero,h2.2 fun j hj h9=>?_,fun i hi=>⟨(hf.lt i hi).1,(hf.lt i hi).2,he i hi⟩⟩
 obtain ⟨i,hi,hx,hy,hpr⟩:=hf.find hp (a:=j) (by omega) (by omega)
 have:=(h4 j hj).1 h9
 rw [hpr,zdq] at this
 exact ⟨i,hi,by omega⟩
theorem zk5 {c:DCode} (hn:NamesR c) (he:EntI c):CodeR c↔∀ i,i<c.entry.length→∀ j:Nat,en c i≤j→(j:Int)<zdl c i→zfA c (zbo c j) (en c i) (zdl c i):=by
 have hf:=he.f
 have hp:=hn.procs8.2
 constructor
 · intro h i hi j h1 h2
   have h3:=hf.lt i hi
   have:=h.2.2 j (by omega)
   rw [hf.proc hi h1 h2,zdq,Int.toNat_natCast] at this
   rwa [Int.sub_add_cancel] at this
 intro h
 refine ⟨hn,(zpf hp).1 he,fun j hj=>?_⟩
 obtain ⟨i,hi,hx,hy,hpr⟩:=hf.find hp (a:=j) (by omega) (by omega)
 rw [hpr,zdq,Int.toNat_natCast,Int.sub_add_cancel]
 exact h i hi j hx hy
def F73 (a0:Value) (w:World) (R:VW):Prop:=
 oP (Instr.box 28 a0) w fun x1 w=>
 rL 28 x1 w fun x8=>
 cL 127 [x8] w fun x9 w=>
 rD (Op.unary .not x9) w fun x10=>
 BR x10
 (R (Value.bool false) w)
 (rL 28 x1 w fun x12=>
 cL 128 [x12] w fun x13 w=>
 rD (Op.unary .not x13) w fun x14=>
 BR x14
 (R (Value.bool false) w)
 (rF 28 x1 3 w fun x16=>
 rL 25 x16 w fun x17=>
 rN 25 3 x17 w fun x18=>
 LOOPI [19] [(iV 0)] w fun u4 w next4=>
 rC (u4 19) x18 w fun x20=>
 BR x20
 (rX 25 x17 (u4 19) w fun x22=>
 rL 3 x22 w fun x23=>
 rL 28 x1 w fun x24=>
 cL 129 [x24,(u4 19)] w fun x26 w=>
 rF 28 x1 4 w fun x27=>
 rL 26 x27 w fun x28=>
 rD (Instr.sliceAt 26 x28 (some x23) (some x26) none) w fun x31=>
 rN 26 3 x31 w fun x32=>
 LOOPI [33] [(iV 0)] w fun u8 w next8=>
 rC (u8 33) x32 w fun x34=>
 BR x34
 (rX 26 x31 (u8 33) w fun x35=>
 rL 117 x35 w fun x36=>
 oP (Instr.alloc 117 true (.tuple #[])) w fun x7 w=>
 oS 117 x7 x36 w fun w=>
 rL 28 x1 w fun x37=>
 rL 117 x7 w fun x38=>
 cL 130 [x37,x38,x23,x26] w fun x41 w=>
 rD (Op.unary .not x41) w fun x42=>
 BR x42
 (R (Value.bool false) w)
 (rA (u8 33) (iV 1) w fun x43=>
 next8 [x43] w))
 (rA (u4 19) (iV 1) w fun x44=>
 next4 [x44] w))
 (R (Value.bool true) w)))
def cfg73:Cfg:=⟨extL,[],[(4,35184371564732,[19]),(8,17583596109956,[33])],[],[],[],[]⟩
theorem F73_call {a0:Value} {w:World} {R:VW} (h:F73 a0 w R):cL 73 [a0] w R:=co (g:=cfg73) Tryz.func73 (by kernel_rfl) (by kernel_rfl) (by kernel_rfl) h
theorem zgl {w:World} {v0:Value} {W0:World} {c:DCode}  (h0:Is W0 v0 c) (e0:Ext W0 w)  :
   CALL Tryz.prog 73 [v0] w fun r w'=>Ext w w'∧(r=.bool (decide (CodeR c))):=by
 refine F73_call ?_
 unfold F73
 refine zal zbq rfl h0 e0 fun w1_ hx1_ hA1 hV1=>?_
 refine zan hV1 (Ext.refl w1_) ?_
 refine (zj1 h0 (e0.trans hx1_)).mono ?_
 rintro _ w2_ ⟨hx2_,rfl⟩
 refine zas ?_
 refine br (fun c1=>?_) (fun c1=>?_)
 · refine ⟨(hx1_.trans hx2_),?_⟩
   have:¬CodeR c:=fun h=>c1 h.1
   simp only [this,decide_false]
 refine zan hV1 hx2_ ?_
 refine (zih h0 (e0.trans (hx1_.trans hx2_)) (Decidable.not_not.1 c1).procs8.2).mono ?_
 rintro _ w3_ ⟨hx3_,rfl⟩
 refine zas ?_
 refine br (fun c2=>?_) (fun c2=>?_)
 · refine ⟨(hx1_.trans (hx2_.trans hx3_)),?_⟩
   have:¬CodeR c:=fun h=>c2 ((zpf h.1.procs8.2).2 h.2.1)
   simp only [this,decide_false]
 refine zaa zbn ?_
 refine zab zbk (zax hA1) (hx2_.trans hx3_) fun v17 h17=>?_
 have hln18:=zaf h17
 refine zae u25 h17 ?_
 refine zaE (c.entry.length) (fun q us w'=>us=[.int .i64 (q:Int)]∧Ext w3_ w'∧(∀ i,i<q→∀ j:Nat,en c i≤j→(j:Int)<zdl c i→zfA c (zbo c j) (en c i) (zdl c i))) (0) (by omega) ⟨by simp,Ext.refl w3_,fun i h=>by omega⟩ ?_
 rintro q m4 uu4 w4_ hk4 ⟨hu,hx4_,hent⟩
 simp only [List.map_cons,List.map_nil,List.cons.injEq,and_true] at hu
 try rw [hu]
 try clear hu
 replace c1:=Decidable.not_not.1 c1;replace c2:=Decidable.not_not.1 c2;have hln4:=zaf h17
 refine zai ?_
 refine br (fun c3=>?_) (fun c3=>?_)
 · refine zad u25 ty3 h17 (by omega) fun b22 o22 h22=>?_
   refine zac ty3 h22 (hx2_.trans (hx3_.trans hx4_)) fun hI23=>?_
   rw [zbU]
   have h8:=c1.procs8
   have hlq:=c2.f.lt q (by omega)
   have hnq:=c2.f.nonneg (i:=q) (by omega)
   have hlen:=c2.f.len
   refine zan hV1 (hx2_.trans (hx3_.trans hx4_)) ?_
   refine (zk4 h0 (e0.trans (hx1_.trans (hx2_.trans (hx3_.trans hx4_)))) (by omega)).mono ?_
   rintro _ w5_ ⟨hx5_,rfl⟩
   refine zaa zba ?_
   refine zab zdN (zaq hA1) (hx2_.trans (hx3_.trans (hx4_.trans hx5_))) fun v28 h28=>?_
   refine zjT u26 zbS h28 (by omega) (by omega) (by omega) fun v31 h31=>?_
   have hln32:=zaf h31
   refine zae u26 h31 ?_
   refine zaE ((zdl c q).toNat-(en c q).toNat) (fun k us w'=>us=[.int .i64 (k:Int)]∧Ext w5_ w'∧(∀ j:Nat,en c q≤j→(j:Int)<en c q+k→zfA c (zbo c j) (en c q) (zdl c q))) (0) (by omega) ⟨by simp,Ext.refl w5_,fun j h1 h2=>by omega⟩ ?_
   rintro k m8 uu8 w6_ hk8 ⟨hu,hx6_,hinv⟩
   simp only [List.map_cons,List.map_nil,List.cons.injEq,and_true] at hu
   try rw [hu]
   try clear hu
   have hl31:((c.ins.take (zdl c q).toNat).drop (en c q).toNat).length=(zdl c q).toNat-(en c q).toNat:=by rw [List.length_drop,List.length_take];omega
   refine zai ?_
   refine br (fun c4=>?_) (fun c4=>?_)
   · refine zad u26 zbS h31 (by omega) fun b35 o35 h35=>?_
     refine zab zbS h35 (hx2_.trans (hx3_.trans (hx4_.trans (hx5_.trans hx6_)))) fun v36 h36=>?_
     rw [List.getElem_drop,List.getElem_take,zaO] at h36
     refine zeY zl5 rfl zbS rfl h36 (hx2_.trans (hx3_.trans (hx4_.trans (hx5_.trans hx6_)))) fun w7_ hx7_ hA7 hV7=>?_
     refine zan hV1 (hx2_.trans (hx3_.trans (hx4_.trans (hx5_.trans (hx6_.trans hx7_))))) ?_
     refine zan hV7 (Ext.refl w7_) ?_
     refine (zmd h0 (e0.trans (hx1_.trans (hx2_.trans (hx3_.trans (hx4_.trans (hx5_.trans (hx6_.trans hx7_))))))) h36 (hx2_.trans (hx3_.trans (hx4_.trans (hx5_.trans (hx6_.trans hx7_)))))).mono ?_
     rintro _ w8_ ⟨hx8_,rfl⟩
     refine zas ?_
     refine br (fun c5=>?_) (fun c5=>?_)
     · refine ⟨(hx1_.trans (hx2_.trans (hx3_.trans (hx4_.trans (hx5_.trans (hx6_.trans (hx7_.trans hx8_))))))),?_⟩
       have:¬CodeR c:=fun h=>c5 ((zk5 c1 c2).1 h q (by omega) _ (by omega) (by omega))
       simp only [this,decide_false]
     refine zah (by omega) ?_
     refine ⟨m8-1,by omega,k+1,by omega,by simp,(hx6_.trans (hx7_.trans hx8_)),?_⟩
     intro j h1 h2
     by_cases hj:j=(en c q).toNat+k
     · subst hj;exact Decidable.not_not.1 c5
     exact hinv j h1 (by omega)
   refine zah (by omega) ?_
   refine ⟨m4-1,by omega,q+1,by omega,by simp,(hx4_.trans (hx5_.trans hx6_)),?_⟩
   intro i hi j h1 h2
   by_cases hiq:i=q
   · subst hiq;exact hinv j h1 (by omega)
   exact hent i (by omega) j h1 h2
 refine ⟨(hx1_.trans (hx2_.trans (hx3_.trans hx4_))),?_⟩
 have:CodeR c:=(zk5 c1 c2).2 fun i hi=>hent i (by omega)
 simp only [this,decide_true]
structure Cur where
 i:Nat
 h:Int
def zn3 (h:Int):Int:=zlO (zlO (h*6364136223846793005)+1442695040888963407)
def zqF (h:Int):Int:=znZ (ztQ (ztd h 33) (ztd h 45)) 255
def zgV (bs:List UInt8) (s:Cur):Int:=match bs[s.i]? with
 | some b=>znZ (zqF (zn3 s.h)+(b.toNat:Int)) 255
 | none=>zqF (zn3 s.h)
def zcN (bs:List UInt8) (s:Cur):Cur:=⟨if s.i<bs.length then s.i+1 else s.i,zn3 s.h⟩
theorem zdQ (bs:List UInt8) (s:Cur):0≤zgV bs s∧zgV bs s≤255:=by
 unfold zgV zqF
 split
 · exact zjI _ (n:=255) (by omega)
 exact zjI _ (n:=255) (by omega)
def zue (a b c d:Int):Int:=a*16777216+b*65536+c*256+d
def zaI (bs:List UInt8) (n:Int) (s:Cur):Int:=
 if n≤0 then 0 else if n≤256 then (zgV bs s).tmod n
 else (zue (zgV bs s) (zgV bs (zcN bs s)) (zgV bs (zcN bs (zcN bs s))) (zgV bs (zcN bs (zcN bs (zcN bs s))))).tmod n
def zak (bs:List UInt8) (n:Int) (s:Cur):Cur:=
 if n≤0 then s else if n≤256 then zcN bs s else zcN bs (zcN bs (zcN bs (zcN bs s)))
theorem zbp (bs:List UInt8) {n:Int} (hn:0<n) (s:Cur):0≤zaI bs n s∧zaI bs n s<n:=by
 have h1:=zdQ bs s
 have h2:=zdQ bs (zcN bs s)
 have h3:=zdQ bs (zcN bs (zcN bs s))
 have h4:=zdQ bs (zcN bs (zcN bs (zcN bs s)))
 unfold zaI
 rw [if_neg (by omega)]
 split
 · exact zo4 h1.1 hn
 exact zo4 (by unfold zue;omega) hn
theorem znb (bs:List UInt8) {n:Nat} (hn:0<n) (s:Cur):(zaI bs (n:Int) s).toNat<n:=by
 have:=zbp bs (n:=(n:Int)) (by omega) s;omega
def zca (bs:List UInt8) (l:List ByteArray) (s:Cur):ByteArray:=l.getD (zaI bs (l.length:Int) s).toNat (ByteArray.mk #[])
def zgW (bs:List UInt8) (l:List Int) (s:Cur):Int:=l.getD (zaI bs (l.length:Int) s).toNat 0
theorem zj3 {α:Type} {l:List α} {i:Nat} {d:α} (h:i<l.length):l.getD i d∈l:=by
 rw [List.getD_eq_getElem?_getD,List.getElem?_eq_getElem h];exact List.getElem_mem h
theorem zcu (bs:List UInt8) {l:List ByteArray} (h:0<l.length) (s:Cur):zca bs l s∈l:=zj3 (znb bs h s)
theorem zii (bs:List UInt8) {l:List Int} (h:0<l.length) (s:Cur):zgW bs l s∈l:=zj3 (znb bs h s)
def nX:ByteArray:=ByteArray.mk #[120]
def nY:ByteArray:=ByteArray.mk #[121]
def nZ:ByteArray:=ByteArray.mk #[122]
def nU:ByteArray:=ByteArray.mk #[117]
def nA:ByteArray:=ByteArray.mk #[97]
def nB:ByteArray:=ByteArray.mk #[98]
def nM:ByteArray:=ByteArray.mk #[109]
def nP:ByteArray:=ByteArray.mk #[112]
def nQ:ByteArray:=ByteArray.mk #[113]
def nR:ByteArray:=ByteArray.mk #[114]
def nO:ByteArray:=ByteArray.mk #[]
def zr5:List Int:=[0,1,2,3,7,999,1000,1000000000]
def zoB:List ByteArray:=[nX,nY,nZ,nX,nU]
def opL:List Int:=[3,4,5,6,7,9]
def glb:List ByteArray:=[nX,nY,nZ,nU]
def lks:List ByteArray:=[nA,nB,nM]
def zpg:List ByteArray:=[nX,nY,nZ]
def zk6:List ByteArray:=[nP,nQ,nR]
def prc4:List ByteArray:=[zgR,nP,nQ,nR]
def zdD (bs:List UInt8) (d:Nat) (s:Cur):Int:=if d=0∧6≤zaI bs 12 s then zaI bs 12 s-6 else zaI bs 12 s
def zap (bs:List UInt8):Nat→Cur→DTerm×Cur
 | 0,s=>
   if zdD bs 0 s<3 then (.mk 1 (zgW bs zr5 (zak bs 12 s)) nO [],zak bs 8 (zak bs 12 s))
   else (.mk 2 0 (zca bs zoB (zak bs 12 s)) [],zak bs 5 (zak bs 12 s))
 | d+1,s=>
   if zdD bs (d+1) s<3 then (.mk 1 (zgW bs zr5 (zak bs 12 s)) nO [],zak bs 8 (zak bs 12 s))
   else if zdD bs (d+1) s<6 then (.mk 2 0 (zca bs zoB (zak bs 12 s)) [],zak bs 5 (zak bs 12 s))
   else if zdD bs (d+1) s=6 then (.mk 8 0 nO [(zap bs d (zak bs 12 s)).1],(zap bs d (zak bs 12 s)).2)
   else (.mk (zgW bs opL (zak bs 12 s)) 0 nO [(zap bs d (zak bs 6 (zak bs 12 s))).1,(zap bs d (zap bs d (zak bs 6 (zak bs 12 s))).2).1],
     (zap bs d (zap bs d (zak bs 6 (zak bs 12 s))).2).2)
theorem zr6 (bs:List UInt8) (s:Cur):0≤zdD bs 0 s∧zdD bs 0 s<6:=by
 have:=zbp bs (n:=12) (by omega) s
 unfold zdD
 split<;>omega
theorem znc {x:ByteArray} (h:x∈zoB):x∈glb:=by
 simp only [zoB,List.mem_cons,List.not_mem_nil,or_false] at h
 rcases h with rfl | rfl | rfl | rfl | rfl<;>decide
theorem zj4 {x:ByteArray} (h:x∈glb):zaZ x=true:=by
 simp only [glb,List.mem_cons,List.not_mem_nil,or_false] at h
 rcases h with rfl | rfl | rfl | rfl<;>decide
theorem zj5 {x:ByteArray} (h:x∈lks):zaZ x=true:=by
 simp only [lks,List.mem_cons,List.not_mem_nil,or_false] at h
 rcases h with rfl | rfl | rfl<;>decide
theorem zr7 {n:Int} (h:n∈zr5):0≤n∧n≤1000000000:=by
 simp only [zr5,List.mem_cons,List.not_mem_nil,or_false] at h
 omega
theorem zrr {n:Int} (h:n∈opL):3≤n∧n≤9∧n≠8:=by
 simp only [opL,List.mem_cons,List.not_mem_nil,or_false] at h
 omega
theorem zph (bs:List UInt8) (n:Nat) (s:Cur):zaQ n (.mk 1 (zgW bs zr5 s) nO [])=true:=by
 rw [zdp rfl]
 have:=zr7 (zii bs (l:=zr5) (by decide) s)
 simp [DTerm.num,DTerm.name,DTerm.kids,this,nO]
theorem zpi (bs:List UInt8) (n:Nat) (s:Cur):zaQ n (.mk 2 0 (zca bs zoB s) [])=true:=by
 rw [zey rfl]
 have:=zj4 (znc (zcu bs (l:=zoB) (by decide) s))
 simp [DTerm.num,DTerm.name,DTerm.kids,this]
theorem zfO (bs:List UInt8):∀ (d n:Nat) (s:Cur),d≤n→zaQ n (zap bs d s).1=true
 | 0,n,s,_=>by
   rw [zap]
   split
   · exact zph bs n _
   exact zpi bs n _
 | d+1,0,s,h=>absurd h (by omega)
 | d+1,n+1,s,h=>by
   rw [zap]
   split
   · exact zph bs _ _
   split
   · exact zpi bs _ _
   split
   · rw [za1 (by show ¬(8:Int)=1;omega) (by show ¬(8:Int)=2;omega)]
     simp [DTerm.kind,DTerm.num,DTerm.name,DTerm.kids,nO,zfO bs d n _ (by omega)]
   have:=zrr (zii bs (l:=opL) (by decide) (zak bs 12 s))
   generalize zgW bs opL (zak bs 12 s)=k at *
   rw [za1 (by simp only [DTerm.kind];omega) (by simp only [DTerm.kind];omega)]
   simp [DTerm.kind,DTerm.num,DTerm.name,DTerm.kids,nO,zfO bs d n _ (by omega:d≤n),this.1,this.2.1,this.2.2]
theorem zqG {l:List ByteArray} {s x:ByteArray} (h:x∈zoA l s):x∈l∨x=s:=by
 unfold zoA at h
 split at h
 · exact .inl h
 simpa using h
theorem ziX (bs:List UInt8):∀ (d n:Nat) (s:Cur) (l:List ByteArray) (x:ByteArray),d≤n→x∈readsT n (zap bs d s).1 l→x∈l∨x∈glb:=by
 have h1:∀ n k l x,x∈readsT n (.mk 1 k nO []) l→x∈l:=by
   intro n k l x h
   rw [zc0,if_neg (by show ¬(1:Int)=2;omega)] at h
   cases n with
   | zero=>exact h
   | succ n=>exact h
 have h2:∀ n s l x,x∈readsT n (.mk 2 0 (zca bs zoB s) []) l→x∈l∨x∈glb:=by
   intro n s l x h
   rw [zhI rfl] at h
   rcases zqG h with h | rfl
   · exact .inl h
   exact .inr (znc (zcu bs (by decide) s))
 intro d
 induction d with
 | zero=>
   intro n s l x _ h
   rw [zap] at h
   split at h
   · exact .inl (h1 _ _ _ _ h)
   exact h2 _ _ _ _ h
 | succ d ih=>
   intro n s l x hd h
   obtain ⟨n,rfl⟩:∃ m,n=m+1:=⟨n-1,by omega⟩
   rw [zap] at h
   split at h
   · exact .inl (h1 _ _ _ _ h)
   split at h
   · exact h2 _ _ _ _ h
   split at h
   · rw [zc0,if_neg (by show ¬(8:Int)=2;omega)] at h
     simp only [DTerm.kids,List.foldl_cons,List.foldl_nil] at h
     exact ih n _ _ _ (by omega) h
   have hk:=zrr (zii bs (l:=opL) (by decide) (zak bs 12 s))
   generalize zgW bs opL (zak bs 12 s)=k at *
   rw [zc0,if_neg (by show ¬k=2;omega)] at h
   simp only [DTerm.kids,List.foldl_cons,List.foldl_nil] at h
   rcases ih n _ _ _ (by omega) h with h | h
   · exact ih n _ _ _ (by omega) h
   exact .inr h
theorem zn4 (k n:Int) (s:ByteArray) (l:List DTerm):wT (.mk k n s l)=s.size+(l.length+sm wT l):=by
 rw [zr4,zpb];rfl
theorem zn5 (bs:List UInt8):∀ (d:Nat) (s:Cur),wT (zap bs d s).1+2≤3*2^d:=by
 have h0:nO.size=0:=rfl
 have h2:∀ s,(zca bs zoB s).size≤1:=fun s=>by
   have:=zcu bs (l:=zoB) (by decide) s
   generalize zca bs zoB s=x at *
   simp only [zoB,List.mem_cons,List.not_mem_nil,or_false] at this
   rcases this with rfl | rfl | rfl | rfl | rfl<;>decide
 intro d
 induction d with
 | zero=>
   intro s
   rw [zap]
   split
   · rw [zn4];simp [h0,sm]
   rw [zn4];have:=h2 (zak bs 12 s);simp [sm];omega
 | succ d ih=>
   intro s
   have hp:1≤2^d:=Nat.one_le_two_pow
   rw [zap,Nat.pow_succ]
   split
   · rw [zn4];simp [h0,sm];omega
   split
   · rw [zn4];have:=h2 (zak bs 12 s);simp [sm];omega
   split
   · rw [zn4];have:=ih (zak bs 12 s);simp [sm,h0];omega
   rw [zn4];have:=ih (zak bs 6 (zak bs 12 s));have:=ih (zap bs d (zak bs 6 (zak bs 12 s))).2;simp [sm,h0];omega
def TmR (gl:List ByteArray) (t:DTerm):Prop:=zaQ 6 t=true∧(∀ s∈zbe t,s∈gl)∧wT t≤24
theorem zfn (bs:List UInt8) {d:Nat} (hd:d≤3) (s:Cur):TmR glb (zap bs d s).1:=by
 have h:=zfO bs d 6 s (by omega)
 refine ⟨h,fun x hx=>?_,?_⟩
 · unfold zbe at hx
   rw [if_pos h] at hx
   rcases ziX bs d 6 s [] x (by omega) hx with h | h
   · cases h
   exact h
 have h1:=zn5 bs d s
 have h2:2^d≤2^3:=Nat.pow_le_pow_right (by omega) hd
 omega
def zea (bs:List UInt8) (d:Nat) (s:Cur):Int:=if d=0∧11≤zaI bs 14 s then zaI bs 14 s-6 else zaI bs 14 s
def ze1 (bs:List UInt8) (k:Int) (s:Cur):DStmt×Cur:=
 if k<4 then (.mk 1 (zca bs zpg s) (zap bs 2 (zak bs 3 s)).1 [] [],(zap bs 2 (zak bs 3 s)).2)
 else if k<6 then (.mk 6 (zca bs lks s) term0 [] [],zak bs 3 s)
 else if k<8 then (.mk 7 (zca bs lks s) term0 [] [],zak bs 3 s)
 else if k=8 then (.mk 4 (zca bs zk6 s) term0 [] [],zak bs 3 s)
 else if k=9 then (.mk 5 (zca bs zk6 s) term0 [] [],zak bs 3 s)
 else (.mk 8 nO term0 [] [],s)
def zc1 (f:Cur→DStmt×Cur) (bs:List UInt8):Nat→Nat→Cur→List DStmt×Cur
 | 0,_,s=>([],s)
 | n+1,i,s=>
   if (i:Int)<zaI bs 4 s then ((f (zak bs 4 s)).1 :: (zc1 f bs n (i+1) (f (zak bs 4 s)).2).1,(zc1 f bs n (i+1) (f (zak bs 4 s)).2).2)
   else ([],zak bs 4 s)
def zjg (bs:List UInt8) (f:Cur→DStmt×Cur) (k:Int) (s:Cur):DStmt×Cur:=
 if k=11 then (.mk 3 nO (zap bs 1 s).1 (zc1 f bs 4 0 (zap bs 1 s).2).1 [],(zc1 f bs 4 0 (zap bs 1 s).2).2)
 else if zaI bs 2 (zc1 f bs 4 0 (zap bs 1 s).2).2=0 then
   (.mk 2 nO (zap bs 1 s).1 (zc1 f bs 4 0 (zap bs 1 s).2).1 (zc1 f bs 4 0 (zak bs 2 (zc1 f bs 4 0 (zap bs 1 s).2).2)).1,
     (zc1 f bs 4 0 (zak bs 2 (zc1 f bs 4 0 (zap bs 1 s).2).2)).2)
 else (.mk 2 nO (zap bs 1 s).1 (zc1 f bs 4 0 (zap bs 1 s).2).1 [],zak bs 2 (zc1 f bs 4 0 (zap bs 1 s).2).2)
def zbr (bs:List UInt8):Nat→Cur→DStmt×Cur
 | 0,s=>ze1 bs (zea bs 0 s) (zak bs 14 s)
 | d+1,s=>if zea bs (d+1) s<11 then ze1 bs (zea bs (d+1) s) (zak bs 14 s) else zjg bs (zbr bs d) (zea bs (d+1) s) (zak bs 14 s)
def zaU (bs:List UInt8) (d:Nat) (s:Cur):List DStmt×Cur:=zc1 (zbr bs d) bs 4 0 s
theorem zr8 (bs:List UInt8) (s:Cur):0≤zea bs 0 s∧zea bs 0 s<11:=by
 have:=zbp bs (n:=14) (by omega) s
 unfold zea
 split<;>omega
structure Scp where
 gl:List ByteArray
 lk:List ByteArray
 pr:List ByteArray
abbrev dS (pr:List ByteArray):Scp:=⟨glb,lks,pr⟩
def St0 (c:Scp) (t:DStmt):Prop:=(t.kind=1∧t.name∈c.gl∧TmR c.gl t.term∧t.body=[]∧t.els=[])∨((t.kind=4∨t.kind=5)∧t.name∈c.pr∧t.term=term0∧t.body=[]∧t.els=[]) ∨
   ((t.kind=6∨t.kind=7)∧t.name∈c.lk∧t.term=term0∧t.body=[]∧t.els=[])∨(t.kind=8∧t.name=nO∧t.term=term0∧t.body=[]∧t.els=[])
def StR (c:Scp):Nat→DStmt→Prop
 | 0,t=>St0 c t
 | n+1,t=>St0 c t∨((t.kind=2∨t.kind=3∧t.els=[])∧t.name=nO∧TmR c.gl t.term∧(∀ x∈t.body,StR c n x)∧∀ x∈t.els,StR c n x)
theorem StR.base {c:Scp}:∀ {n:Nat} {t:DStmt},St0 c t→StR c n t
 | 0,t,h=>by rw [StR];exact h
 | n+1,t,h=>by rw [StR];exact .inl h
theorem StR.more {c:Scp} {n:Nat} {t:DStmt} (h1:t.kind=2∨t.kind=3∧t.els=[]) (h2:t.name=nO) (h3:TmR c.gl t.term) (h4:∀ x∈t.body,StR c n x) (h5:∀ x∈t.els,StR c n x):StR c (n+1) t:=by
 rw [StR];exact .inr ⟨h1,h2,h3,h4,h5⟩
theorem StR.zero {c:Scp} {t:DStmt} (h:StR c 0 t):St0 c t:=by rw [StR] at h;exact h
theorem StR.succ {c:Scp} {n:Nat} {t:DStmt} (h:StR c (n+1) t):St0 c t∨((t.kind=2∨t.kind=3∧t.els=[])∧t.name=nO∧TmR c.gl t.term∧(∀ x∈t.body,StR c n x)∧∀ x∈t.els,StR c n x):=by
 rw [StR] at h;exact h
theorem StR.mono {c:Scp}:∀ {n m:Nat} {t:DStmt},n≤m→StR c n t→StR c m t
 | 0,m,_,_,h=>StR.base h.zero
 | n+1,0,_,h,_=>absurd h (by omega)
 | n+1,m+1,t,hn,h=>by
   rcases h.succ with h | ⟨h1,h2,h3,h4,h5⟩
   · exact StR.base h
   exact StR.more h1 h2 h3 (fun x hx=>(h4 x hx).mono (by omega)) fun x hx=>(h5 x hx).mono (by omega)
theorem znd (bs:List UInt8) (k:Int) (s:Cur):St0 (dS zk6) (ze1 bs k s).1:=by
 unfold ze1
 have hs:=zcu bs (l:=zpg) (by decide) s
 have hl:=zcu bs (l:=lks) (by decide) s
 have hp:=zcu bs (l:=zk6) (by decide) s
 have hg:zca bs zpg s∈glb:=by
   generalize zca bs zpg s=x at *
   simp only [zpg,List.mem_cons,List.not_mem_nil,or_false] at hs
   rcases hs with rfl | rfl | rfl<;>decide
 split
 · exact .inl ⟨rfl,hg,zfn bs (by omega) _,rfl,rfl⟩
 split
 · exact .inr (.inr (.inl ⟨.inl rfl,hl,rfl,rfl,rfl⟩))
 split
 · exact .inr (.inr (.inl ⟨.inr rfl,hl,rfl,rfl,rfl⟩))
 split
 · exact .inr (.inl ⟨.inl rfl,hp,rfl,rfl,rfl⟩)
 split
 · exact .inr (.inl ⟨.inr rfl,hp,rfl,rfl,rfl⟩)
 exact .inr (.inr (.inr ⟨rfl,rfl,rfl,rfl,rfl⟩))
theorem zeb {f:Cur→DStmt×Cur} {bs:List UInt8} {p:DStmt→Prop} (hf:∀ s,p (f s).1):∀ (n i:Nat) (s:Cur),∀ x∈(zc1 f bs n i s).1,p x
 | 0,_,_,x,h=>by rw [zc1] at h;cases h
 | n+1,i,s,x,h=>by
   rw [zc1] at h
   split at h
   · rcases List.mem_cons.1 h with rfl | h
     · exact hf _
     exact zeb hf n _ _ x h
   cases h
theorem zij {f:Cur→DStmt×Cur} {bs:List UInt8}:∀ (n i:Nat) (s:Cur),(zc1 f bs n i s).1.length≤n
 | 0,_,_=>by rw [zc1];exact Nat.le_refl _
 | n+1,i,s=>by
   rw [zc1]
   split
   · have:=zij (f:=f) (bs:=bs) n (i+1) (f (zak bs 4 s)).2
     simp only [List.length_cons];omega
   simp
theorem zjh (bs:List UInt8):∀ (d:Nat) (s:Cur),StR (dS zk6) d (zbr bs d s).1
 | 0,s=>by rw [zbr];exact StR.base (znd bs _ _)
 | d+1,s=>by
   rw [zbr]
   split
   · exact StR.base (znd bs _ _)
   have ih:=zjh bs d
   unfold zjg
   split
   · exact StR.more (.inr ⟨rfl,rfl⟩) rfl (zfn bs (by omega) _) (zeb ih _ _ _) fun x hx=>by cases hx
   split
   · exact StR.more (.inl rfl) rfl (zfn bs (by omega) _) (zeb ih _ _ _) (zeb ih _ _ _)
   exact StR.more (.inl rfl) rfl (zfn bs (by omega) _) (zeb ih _ _ _) fun x hx=>by cases hx
theorem zji (bs:List UInt8) (d:Nat) (s:Cur):∀ x∈(zaU bs d s).1,StR (dS zk6) d x:=zeb (zjh bs d) _ _ _
mutual
def szS:DStmt→Nat
  | .mk _ _ _ b e=>1+szL b+szL e
def szL:List DStmt→Nat
  | []=>0
  | x :: l=>szS x+szL l
end
mutual
def zoC:DStmt→Int→Int
  | .mk _ _ _ b e,n=>zhs e (zhs b (n-1))
def zhs:List DStmt→Int→Int
  | [],n=>n
  | x :: l,n=>if 0≤n then zhs l (zoC x n) else n
end
mutual
theorem zpj:∀ (x:DStmt) (n:Int),0≤n→((szS x:Int)≤n→zoC x n=n-szS x)∧(n<szS x→zoC x n<0)
  | .mk k s t b e,n,hn=>by
    rw [szS,zoC]
    have h1:=zgX b (n-1)
    have h2:=zgX e (zhs b (n-1))
    refine ⟨fun h=>?_,fun h=>?_⟩
    · rw [h2.1 (by rw [h1.1 (by omega)];omega),h1.1 (by omega)];omega
    by_cases hb:(szL b:Int)≤n-1
    · exact h2.2.1 (by rw [h1.1 hb];omega)
    have:=h1.2.1 (by omega)
    by_cases h0:zhs b (n-1)<0
    · exact h2.2.2 h0
    omega
theorem zgX:∀ (l:List DStmt) (n:Int),((szL l:Int)≤n→zhs l n=n-szL l)∧(n<szL l→zhs l n<0)∧(n<0→zhs l n<0)
  | [],n=>by
    rw [szL,zhs]
    exact ⟨fun _=>by omega,fun h=>by omega,fun h=>h⟩
  | x :: l,n=>by
    rw [szL,zhs]
    refine ⟨fun h=>?_,fun h=>?_,fun h=>?_⟩
    · have h1:=zpj x n (by omega)
      have h2:=zgX l (zoC x n)
      rw [if_pos (by omega),h2.1 (by rw [h1.1 (by omega)];omega),h1.1 (by omega)];omega
    · split
      · rename_i h0
        have h1:=zpj x n h0
        have h2:=zgX l (zoC x n)
        by_cases hx:(szS x:Int)≤n
        · exact h2.2.1 (by rw [h1.1 hx];omega)
        exact h2.2.2 (h1.2 (by omega))
      omega
    rw [if_neg (by omega)];exact h
end
theorem zgY:∀ (l m:List DStmt),szL (l++m)=szL l+szL m
 | [],m=>by simp [szL]
 | x :: l,m=>by rw [List.cons_append,szL,szL,zgY l m];omega
theorem zj6:∀ (l:List DStmt),l.length≤szL l
 | []=>by simp
 | .mk k s t b e :: l=>by have:=zj6 l;rw [szL,szS,List.length_cons];omega
mutual
def zme (bs:List UInt8) (pr:List ByteArray):DStmt→Cur→DStmt×Cur
  | .mk k n t b e,s=>
    if k=4∨k=5 then
      (.mk k (zca bs pr s) t (zds bs pr b (zak bs (pr.length:Int) s)).1 (zds bs pr e (zds bs pr b (zak bs (pr.length:Int) s)).2).1,(zds bs pr e (zds bs pr b (zak bs (pr.length:Int) s)).2).2)
    else (.mk k n t (zds bs pr b s).1 (zds bs pr e (zds bs pr b s).2).1,(zds bs pr e (zds bs pr b s).2).2)
def zds (bs:List UInt8) (pr:List ByteArray):List DStmt→Cur→List DStmt×Cur
  | [],s=>([],s)
  | x :: l,s=>((zme bs pr x s).1 :: (zds bs pr l (zme bs pr x s).2).1,(zds bs pr l (zme bs pr x s).2).2)
end
mutual
theorem zr9 (bs:List UInt8) (pr:List ByteArray):∀ (x:DStmt) (s:Cur),szS (zme bs pr x s).1=szS x
  | .mk k n t b e,s=>by
    rw [zme]
    split
    · rw [szS,szS,zgZ bs pr b,zgZ bs pr e]
    rw [szS,szS,zgZ bs pr b,zgZ bs pr e]
theorem zgZ (bs:List UInt8) (pr:List ByteArray):∀ (l:List DStmt) (s:Cur),szL (zds bs pr l s).1=szL l
  | [],s=>by rw [zds]
  | x :: l,s=>by rw [zds,szL,szL,zr9 bs pr x,zgZ bs pr l]
end
theorem zne (bs:List UInt8) (pr:List ByteArray) (s:Cur):zds bs pr [] s=([],s):=by rw [zds]
theorem ztZ {bs:List UInt8} {pr pr0:List ByteArray} (hp:0<pr.length):∀ (n:Nat),(∀ (t:DStmt) (s:Cur),StR (dS pr0) n t→StR (dS pr) n (zme bs pr t s).1)∧∀ (l:List DStmt) (s:Cur),(∀ x∈l,StR (dS pr0) n x)→∀ x∈(zds bs pr l s).1,StR (dS pr) n x:=by
 have h0:∀ (t:DStmt) (s:Cur),St0 (dS pr0) t→St0 (dS pr) (zme bs pr t s).1:=by
   rintro ⟨k,nm,t,b,e⟩ s h
   have hb:b=[]:=by rcases h with h | h | h | h<;>exact h.2.2.2.1
   have he:e=[]:=by rcases h with h | h | h | h<;>exact h.2.2.2.2
   subst hb he
   rw [zme]
   simp only [zne]
   rcases h with h | h | h | h
   · have hk:k=1:=h.1
     rw [if_neg (by omega)]
     exact .inl h
   · have hk:k=4∨k=5:=h.1
     rw [if_pos hk]
     exact .inr (.inl ⟨hk,zcu bs hp s,h.2.2.1,rfl,rfl⟩)
   · have hk:k=6∨k=7:=h.1
     rw [if_neg (by omega)]
     exact .inr (.inr (.inl h))
   have hk:k=8:=h.1
   rw [if_neg (by omega)]
   exact .inr (.inr (.inr h))
 have hl:∀ n,(∀ (t:DStmt) (s:Cur),StR (dS pr0) n t→StR (dS pr) n (zme bs pr t s).1)→∀ (l:List DStmt) (s:Cur),(∀ x∈l,StR (dS pr0) n x)→∀ x∈(zds bs pr l s).1,StR (dS pr) n x:=by
   intro n hs l
   induction l with
   | nil=>intro s _ x hx;rw [zds] at hx;cases hx
   | cons y l ih=>
     intro s h x hx
     rw [zds] at hx
     rcases List.mem_cons.1 hx with rfl | hx
     · exact hs y s (h y (by simp))
     exact ih _ (fun z hz=>h z (by simp [hz])) x hx
 intro n
 induction n with
 | zero=>
   have h0':∀ (t:DStmt) (s:Cur),StR (dS pr0) 0 t→StR (dS pr) 0 (zme bs pr t s).1:=fun t s h=>StR.base (h0 t s h.zero)
   exact ⟨h0',hl 0 h0'⟩
 | succ n ih=>
   have hs:∀ (t:DStmt) (s:Cur),StR (dS pr0) (n+1) t→StR (dS pr) (n+1) (zme bs pr t s).1:=by
     intro t s h
     rcases h.succ with h | ⟨h1,h2,h3,h4,h5⟩
     · exact StR.base (h0 t s h)
     obtain ⟨k,nm,t,b,e⟩:=t
     have hk:k=2∨k=3∧e=[]:=h1
     rw [zme,if_neg (by omega)]
     refine StR.more ?_ h2 h3 (ih.2 b _ h4) (ih.2 e _ h5)
     rcases hk with hk | ⟨hk,rfl⟩
     · exact .inl hk
     exact .inr ⟨hk,by show (zds bs pr [] _).1=[];rw [zds]⟩
   exact ⟨hs,hl (n+1) hs⟩
def zsa:DStmt:=.mk 8 nO term0 [] []
def zec (n:ByteArray):DStmt:=.mk 6 n term0 [] []
def zc2 (n:ByteArray):DStmt:=.mk 7 n term0 [] []
def zrs (n:ByteArray):DStmt:=.mk 5 n term0 [] []
def zik (bs:List UInt8) (body:List DStmt) (s:Cur):List DStmt×Cur:=
 if zca bs lks s=zca bs lks (zak bs 3 s) then (zec (zca bs lks s) :: (body++[zc2 (zca bs lks s)]),zak bs 3 (zak bs 3 s))
 else if zaI bs 2 (zak bs 3 (zak bs 3 s))=0 then (zec (zca bs lks s) :: zec (zca bs lks (zak bs 3 s)) :: (body++[zc2 (zca bs lks s)]),zak bs 2 (zak bs 3 (zak bs 3 s)))
 else (zec (zca bs lks s) :: (body++[zc2 (zca bs lks s)]),zak bs 2 (zak bs 3 (zak bs 3 s)))
def ze2 (bs:List UInt8) (s:Cur):List DStmt×Cur:=
 (if zhs ((zaU bs 2 s).1++(zaU bs 1 (zaU bs 2 s).2).1) 50<0 then [zsa] else (zaU bs 2 s).1++(zaU bs 1 (zaU bs 2 s).2).1,(zaU bs 1 (zaU bs 2 s).2).2)
def zfP (bs:List UInt8) (r:List DStmt×Cur):List DStmt×Cur:=
 if zaI bs 2 r.2=0 then zik bs r.1 (zak bs 2 r.2) else (r.1,zak bs 2 r.2)
def zhz (bs:List UInt8) (i:Nat) (nm:ByteArray) (r:List DStmt×Cur):List DStmt×Cur:=
 if i=0 then (if zaI bs 2 r.2=0 then (zrs nm :: r.1,zak bs 2 r.2) else (r.1,zak bs 2 r.2)) else r
def zcJ (bs:List UInt8) (pr:List ByteArray) (i:Nat) (s:Cur):List DStmt×Cur:=
 zds bs pr (zhz bs i (pr.getD 0 nO) (zfP bs (ze2 bs s))).1 (zhz bs i (pr.getD 0 nO) (zfP bs (ze2 bs s))).2
def zbb (bs:List UInt8) (pr:List ByteArray):List ByteArray→Nat→Cur→List DProc×Cur
 | [],_,s=>([],s)
 | n :: l,i,s=>(⟨n,(zcJ bs pr i s).1⟩ :: (zbb bs pr l (i+1) (zcJ bs pr i s).2).1,(zbb bs pr l (i+1) (zcJ bs pr i s).2).2)
def zil (bs:List UInt8) (s:Cur):List ByteArray:=prc4.take (2+(zaI bs 3 s).toNat)
def zcm (bs:List UInt8) (s:Cur):DProg×Cur:=
 (⟨glb,lks,(zbb bs ((zil bs s).drop 1) (zil bs s) 0 (zak bs 3 s)).1⟩,(zbb bs ((zil bs s).drop 1) (zil bs s) 0 (zak bs 3 s)).2)
def zt0 (bs:List UInt8):Int:=(bs.take 4000).foldl (fun h b=>znZ (h*131+(b.toNat:Int)+7) 1073741823) (94701+(bs.length:Int))
def zcT (bs:List UInt8):Cur:=⟨0,zt0 bs⟩
def zmf (c:Scp) (l:List DStmt):Prop:=(∀ x∈l,StR c 2 x)∧szL l≤54
theorem ztl (pr:List ByteArray):StR (dS pr) 2 zsa:=StR.base (.inr (.inr (.inr ⟨rfl,rfl,rfl,rfl,rfl⟩)))
theorem znf (pr:List ByteArray) {n:ByteArray} (h:n∈lks):StR (dS pr) 2 (zec n):=StR.base (.inr (.inr (.inl ⟨.inl rfl,h,rfl,rfl,rfl⟩)))
theorem zqH (pr:List ByteArray) {n:ByteArray} (h:n∈lks):StR (dS pr) 2 (zc2 n):=StR.base (.inr (.inr (.inl ⟨.inr rfl,h,rfl,rfl,rfl⟩)))
theorem zmg (bs:List UInt8) (s:Cur):(∀ x∈(ze2 bs s).1,StR (dS zk6) 2 x)∧szL (ze2 bs s).1≤50:=by
 unfold ze2
 split
 · exact ⟨fun x hx=>by simp only [List.mem_cons,List.not_mem_nil,or_false] at hx;subst hx;exact ztl _,by simp [szL,szS,zsa]⟩
 rename_i h
 refine ⟨fun x hx=>?_,?_⟩
 · rcases List.mem_append.1 hx with hx | hx
   · exact zji bs 2 s x hx
   exact (zji bs 1 _ x hx).mono (by omega)
 have:=zgX ((zaU bs 2 s).1++(zaU bs 1 (zaU bs 2 s).2).1) 50
 have:=this.2.1
 show szL ((zaU bs 2 s).1++(zaU bs 1 (zaU bs 2 s).2).1)≤50
 omega
theorem zpk (bs:List UInt8) {r:List DStmt×Cur} (h:(∀ x∈r.1,StR (dS zk6) 2 x)∧szL r.1≤50):(∀ x∈(zfP bs r).1,StR (dS zk6) 2 x)∧szL (zfP bs r).1≤53:=by
 have hl:=fun s=>zcu bs (l:=lks) (by decide) s
 have key:∀ (pre:List DStmt) (n:ByteArray),n∈lks→(∀ x∈pre,StR (dS zk6) 2 x)→szL pre≤2→(∀ x∈pre++(r.1++[zc2 n]),StR (dS zk6) 2 x)∧szL (pre++(r.1++[zc2 n]))≤53:=by
   intro pre n hn hp hs
   refine ⟨fun x hx=>?_,?_⟩
   · rcases List.mem_append.1 hx with hx | hx
     · exact hp x hx
     rcases List.mem_append.1 hx with hx | hx
     · exact h.1 x hx
     simp only [List.mem_cons,List.not_mem_nil,or_false] at hx
     subst hx;exact zqH _ hn
   rw [zgY,zgY]
   have:szL [zc2 n]=1:=by simp [szL,szS,zc2]
   omega
 unfold zfP
 split
 · unfold zik
   split
   · exact key [zec _] _ (hl _) (fun x hx=>by simp only [List.mem_cons,List.not_mem_nil,or_false] at hx;subst hx;exact znf _ (hl _)) (by simp [szL,szS,zec])
   split
   · exact key [zec _,zec _] _ (hl _) (fun x hx=>by
       simp only [List.mem_cons,List.not_mem_nil,or_false] at hx
       rcases hx with rfl | rfl
       · exact znf _ (hl _)
       exact znf _ (hl _)) (by simp [szL,szS,zec])
   exact key [zec _] _ (hl _) (fun x hx=>by simp only [List.mem_cons,List.not_mem_nil,or_false] at hx;subst hx;exact znf _ (hl _)) (by simp [szL,szS,zec])
 exact ⟨h.1,by have:=h.2;show szL r.1≤53;omega⟩
theorem zsb (bs:List UInt8) (i:Nat) {nm:ByteArray} (hn:nm∈zk6) {r:List DStmt×Cur} (h:(∀ x∈r.1,StR (dS zk6) 2 x)∧szL r.1≤53):zmf (dS zk6) (zhz bs i nm r).1:=by
 unfold zhz
 split
 · split
   · refine ⟨fun x hx=>?_,?_⟩
     · rcases List.mem_cons.1 hx with rfl | hx
       · exact StR.base (.inr (.inl ⟨.inr rfl,hn,rfl,rfl,rfl⟩))
       exact h.1 x hx
     have:=h.2
     simp only [szL,szS,zrs];omega
   exact ⟨h.1,by have:=h.2;show szL r.1≤54;omega⟩
 exact ⟨h.1,by have:=h.2;omega⟩
theorem zn6 (bs:List UInt8) {pr:List ByteArray} (hp:0<pr.length) (h3:∀ x∈pr,x∈zk6) (i:Nat) (s:Cur):zmf (dS pr) (zcJ bs pr i s).1:=by
 have h:=zsb bs i (nm:=pr.getD 0 nO) (h3 _ (zj3 hp)) (zpk bs (zmg bs s))
 unfold zcJ
 exact ⟨(ztZ hp 2).2 _ _ h.1,by rw [zgZ];exact h.2⟩
structure ProgR (p:DProg):Prop where
 g:p.globals=glb∨p.globals=glb.take 1
 l:p.locks=lks∨p.locks=lks.take 1∨p.locks=lks.take 2
 n:∃ k,k<4∧p.procs.map DProc.name=prc4.take (1+k)
 b:∀ x∈p.procs,zmf ⟨p.globals,p.locks,(p.procs.map DProc.name).drop 1⟩ x.body
theorem zdE (bs:List UInt8) (pr:List ByteArray):∀ (l:List ByteArray) (i:Nat) (s:Cur),(zbb bs pr l i s).1.map DProc.name=l
 | [],_,_=>by rw [zbb];rfl
 | n :: l,i,s=>by rw [zbb,List.map_cons,zdE bs pr l]
theorem zim (bs:List UInt8) {pr:List ByteArray} (hp:0<pr.length) (h3:∀ x∈pr,x∈zk6):∀ (l:List ByteArray) (i:Nat) (s:Cur),∀ x∈(zbb bs pr l i s).1,zmf (dS pr) x.body
 | [],_,_,x,h=>by rw [zbb] at h;cases h
 | n :: l,i,s,x,h=>by
   rw [zbb] at h
   rcases List.mem_cons.1 h with rfl | h
   · exact zn6 bs hp h3 i s
   exact zim bs hp h3 l _ _ x h
theorem zpl (bs:List UInt8) (s:Cur):(zaI bs 3 s).toNat<3:=by
 have:=zbp bs (n:=3) (by omega) s;omega
theorem zj7:∀ k,k<3→0<((prc4.take (2+k)).drop 1).length∧∀ x∈(prc4.take (2+k)).drop 1,x∈zk6
 | 0,_=>⟨by decide,by intro x hx;simp only [prc4,List.take,List.drop,List.mem_cons,List.not_mem_nil,or_false] at hx;subst hx;decide⟩
 | 1,_=>⟨by decide,by intro x hx;simp only [prc4,List.take,List.drop,List.mem_cons,List.not_mem_nil,or_false] at hx;rcases hx with rfl | rfl<;>decide⟩
 | 2,_=>⟨by decide,by intro x hx;simp only [prc4,List.take,List.drop,List.mem_cons,List.not_mem_nil,or_false] at hx;rcases hx with rfl | rfl | rfl<;>decide⟩
 | k+3,h=>absurd h (by omega)
theorem zg0 (bs:List UInt8) (s:Cur):ProgR (zcm bs s).1:=by
 have hk:=zpl bs s
 have ht:=zj7 _ hk
 refine ⟨.inl rfl,.inl rfl,⟨1+(zaI bs 3 s).toNat,by omega,?_⟩,fun x hx=>?_⟩
 · rw [show 1+(1+(zaI bs 3 s).toNat)=2+(zaI bs 3 s).toNat by omega];exact zdE bs _ _ _ _
 have hn:((zcm bs s).1.procs.map DProc.name)=zil bs s:=zdE bs _ _ _ _
 rw [hn]
 exact zim bs ht.1 ht.2 _ _ _ x hx
end Go.Proofs.YtdmailcgaekimaaGreat
namespace Go.Sh
open Go.RowKit (Below)
open Rep (rep)
section
variable {P:Program} {w w0 w':World} {α β γ:Type} [Rep α] [Rep β]
theorem zqI {t e:TypeId} {by_:Nat} {F:List Nat} {v:Value} {l:List α} {k:Nat} {K:Value→Prop} (ht:P.underlying t=some (.slice e)) (he:tyI P e=some (Rep.size α,by_,Rep.agg α)) (hm:Mine F w v l) (hk:k<l.length)
   (kk:∀ b o G,Lens (MH v) F w b o G l[k] (fun y=>l.set k y)→K (.pointer (some ⟨b,o,none⟩))):RD P (Instr.indexAt t v (.int .i64 (k:Int))) w K:=by
 obtain ⟨b,a,cap,G,hv,hL⟩:=zoP hm hk
 refine zaV (v:=.pointer (some ⟨b,a+k*Rep.size α,none⟩)) (fun w' _=>?_) (kk _ _ _ hL)
 rw [hv,zbg ht he (by omega) (by omega)];simp
theorem zaA {ft by_ g e o:Nat} {cs:List Value} {v:Value} {K:Value→Prop} (hft:tyI P ft=some (1,by_,false)) (hB:Blk g e w cs) (ho:cs[o]?=some v) (k:K v) :
   RD P (Instr.loadAt ft (.pointer (some ⟨g,o,none⟩))) w K:=by
 refine zaV (fun w' hx'=>?_) k
 have h0:w'.cell? ⟨g,o,none⟩=some v:=by simpa using (zbW hB.range hx') o v ho
 have hA:=zb2 hft w'
 simp [Instr.loadAt,Instr.sureAddr,loadVar,hA,h0]
theorem zpm {t:TypeId} {cs:Array Value} {K:Value→World→Prop} (k:∀ w',Ext w w'→Blk w.heap.size t w' cs.toList→K (.pointer (some ⟨w.heap.size,0,none⟩)) w'):OP P (Instr.box t (.agg cs)) w K:=
 ⟨_,w.alloc (.cells cs t),by simp [Instr.box,newVar,newRow,Value.cells],k _ (zaN w _) (by unfold Blk;rw [heap_alloc_new w _])⟩
theorem zin {t by_ b o:Nat} {F G:List Nat} {v:Value} {y y':β} {upd:β→α} {u:Value} {K:World→Prop} (ht:tyI P t=some (Rep.size β,by_,Rep.agg β)) (h:Lens (MH v) F w b o G y upd)
   (hu:Mine [] w u y') (k:∀ w' F',Chg F w w'→Mine F' w' v (upd y')→(∀ c∈F',c∈F)→K w'):OPU P (Instr.storeAt t (.pointer (some ⟨b,o,none⟩)) u) w K:=
 zf9 ht h hu (by simp) fun w' hc ⟨F',h1,h2⟩=>k w' F' hc h1 fun c hc=>by
   rcases h2 c hc with h | h
   · exact h
   simp at h
theorem zcK {x:Int} (h:I64 x):Mine [] w (.int .i64 x) x:=⟨⟨_,⟨rfl,rfl,h⟩,rfl⟩,List.nodup_nil,Wr.nil w⟩
theorem zng {x:ByteArray} (h:x.size≤maxLen):Mine [] w (.string x) x:=⟨⟨_,⟨rfl,rfl,h⟩,rfl⟩,List.nodup_nil,Wr.nil w⟩
theorem Chg.sub {F G:List Nat} {a b c:World} (h:Chg F a b) (k:Chg G b c) (hs:∀ x∈G,x∈F):Chg F a c:=h.trans (k.mono hs)
theorem zrt {ts:Array TypeId} {ty:TypeId} {a b:Int} {K:Value→Prop} (k:K (.int .i64 (max a b))):RD P (Builtin.max_ ts ty [Value.int .i64 a,Value.int .i64 b].toArray) w K:=by
 refine zaV (fun w' _=>?_) k
 have:(if b>a then b else a)=max a b:=by split<;>omega
 simp only [Builtin.max_,List.toList_toArray,List.foldlM_cons,List.foldlM_nil,Builtin.max2,this]
 rfl
theorem ztm {ts:Array TypeId} {ty:TypeId} {a b:Int} {K:Value→Prop} (k:K (.int .i64 (min a b))):RD P (Builtin.min_ ts ty [Value.int .i64 a,Value.int .i64 b].toArray) w K:=by
 refine zaV (fun w' _=>?_) k
 have:(if b<a then b else a)=min a b:=by split<;>omega
 simp only [Builtin.min_,List.toList_toArray,List.foldlM_cons,List.foldlM_nil,Builtin.min2,this]
 rfl
theorem Mine.chgD {α:Type} [Rep α] {F G:List Nat} {w w':World} {v:Value} {x:α} (h:Mine F w v x) (hc:Chg G w w') (hd:∀ b∈F,b∉G):Mine F w' v x:=h.keep fun b hb=>hc.block b (h.lt b hb) (hd b hb)
end
end Go.Sh
namespace Go.Sh
open Rep (rep)
section
variable {P:Program} {w w0:World} {α:Type} [Rep α]
theorem zk7 [RepZ α] {z:Value} (hz:RepZ.zc α=[z]) (w:World):∀ n,Cells [] w (List.replicate n z) (List.replicate n (RepZ.zv:α))
 | 0=>⟨rfl,rfl⟩
 | n+1=>⟨[],[],[z],List.replicate n z,rfl,rfl,hz▸RepZ.zr w,zk7 hz w n⟩
theorem zqJ (z:Value) (n:Nat):(madeCells #[z] n).toList=List.replicate n z:=by
 apply List.ext_getElem
 · simp [madeCells]
 intro i h1 h2
 simp [madeCells,Nat.mod_one]
theorem znh [RepZ α] {t e:TypeId} {by_:Nat} {z:Value} {K:Value→World→Prop} {n:Nat} (ht:P.underlying t=some (.slice e)) (he:tyI P e=some (Rep.size α,by_,Rep.agg α)) (h1:Rep.size α=1) (hzc:RepZ.zc α=[z]) (hz:zb9 P e=some [z])
   (hb:by_*n≤281474976710656) (hm:n≤9223372036854775807)
   (k:∀ w',Ext w w'→RowI w.heap.size w'.heap.size e w' (.slice (some ⟨w.heap.size,0,none⟩) n n) (List.replicate n (RepZ.zv:α))→K (.slice (some ⟨w.heap.size,0,none⟩) n n) w') :
   OP P (Instr.makeSlice t (.int .i64 (n:Int)) (.int .i64 (n:Int))) w K:=by
 obtain ⟨i,d,hi,hd,hs,hby,hg⟩:=zcv he
 unfold zb9 at hz
 rw [hi] at hz
 obtain ⟨zz,hzz,hcz⟩:=Option.map_eq_some_iff.1 hz
 have hb':(i.bytes:Int)*(n:Int)≤281474976710656:=by
   have h:((i.bytes*n:Nat):Int)≤281474976710656:=by rw [hby];omega
   rwa [Int.natCast_mul] at h
 have hr:=run_make (P:=P) w t e i zz ht hi hzz .i64 .i64 n n (by omega) (Int.le_refl _) hb' (by omega)
 simp only [Int.toNat_natCast] at hr
 have hcells:zz.cells=#[z]:=by apply Array.ext';simpa using hcz
 have hlen:n*i.size=n:=by rw [hs,h1,Nat.mul_one]
 rw [hcells,hlen] at hr
 refine ⟨_,_,hr,k _ (zaN w _) (.inr ⟨[w.heap.size],⟨List.replicate n z,[],⟨?_,.inr ⟨w.heap.size,n,madeCells #[z] n,?_,Nat.zero_le _,heap_alloc_new w _,by simp,by rw [zam];omega,?_,?_⟩⟩,zk7 hzc _ n,rfl,Wr.nil _⟩,by simp,?_⟩)⟩
 · simp [h1]
 · simp
 · rw [h1];simp [madeCells]
 · rw [zqJ,List.length_replicate,h1,Nat.mul_one,List.take_of_length_le (by simp)]
 intro b hb
 simp only [List.mem_cons,List.not_mem_nil,or_false] at hb
 subst hb
 exact ⟨Nat.le_refl _,(Array.getElem?_eq_some_iff.1 (heap_alloc_new w _)).1⟩
theorem zaH {K:Value→Prop} {t:TypeId} {parts:Array (Nat×Value)} {cells:Array Value} (h:P.built t parts.toList=some cells) (k:K (.agg cells)):RD P (Instr.build t parts) w K:=
 zaV (fun w' _=>run_build w' t parts cells h) k
theorem zbP {t by_ g e:Nat} {cs:List Value} {K:Value→Prop} (hB:Blk g e w cs) (ht:tyI P t=some (cs.length,by_,true)) (k:K (.agg cs.toArray)):RD P (Instr.loadAt t (.pointer (some ⟨g,0,none⟩))) w K:=
 zan ⟨e,cs,by_,hB,rfl,ht⟩ (Ext.refl w) k
theorem zbx {t by_ g e:Nat} {cs:List Value} {K:Value→Prop} (hB:Blk g e w cs) (ht:tyI P t=some (cs.length,by_,true)) (k:K (.agg cs.toArray)):RD P (zar t (.pointer (some ⟨g,0,none⟩))) w K:=by
 obtain ⟨i,d,hi,hd,hs,_,hg⟩:=zcv ht
 refine zaV (fun w' hx'=>?_) k
 have:=run_loadAt_mid w' g 0 t cs d (hB.ext hx').range hd hg (by simp [hi,hs])
 simpa [zar,asAddr,Instr.loadAt,Instr.sureAddr] using this
theorem zaw {t by_ g e:Nat} {cs:List Value} {us:Array Value} {lo hi:Nat} {x:α} {K:World→Prop} (ht:tyI P t=some (Rep.size α,by_,true)) (ha:Rep.agg α=true) (hB:Blk g e w cs) (hl:cs.length=Rep.size α) (hu:OwnI lo hi w (.agg us) x)
   (k:∀ w',ChgI g (g+1) w w'→Blk g e w' us.toList→K w'):OPU P (Instr.storeAt t (.pointer (some ⟨g,0,none⟩)) (.agg us)) w K:=by
 obtain ⟨F,⟨⟨cs',hr,hv⟩,_⟩,_⟩:=hu
 have hus:us.toList=cs':=by
   simp only [mkv,ha,cond_true,Value.agg.injEq] at hv
   rw [hv]
 have hl':=Rep.len hr
 rw [hv]
 refine zoO (by rw [ha];exact ht) hB hr rfl (by omega) fun w' hc hB'=>k w' (hc.toI (by simp)) ?_
 rw [hus]
 rw [List.take_zero,List.nil_append,Nat.zero_add,List.drop_of_length_le (by omega),List.append_nil] at hB'
 exact hB'
theorem za6 {t by_ g e o:Nat} {cs:List Value} {u:Value} {lo hi:Nat} {x:α} {K:World→Prop} (ht:tyI P t=some (1,by_,false)) (h1:Rep.size α=1) (ha:Rep.agg α=false) (hB:Blk g e w cs) (ho:o<cs.length) (hu:OwnI lo hi w u x)
   (k:∀ w',ChgI g (g+1) w w'→Blk g e w' (cs.set o u)→K w'):OPU P (Instr.storeAt t (.pointer (some ⟨g,o,none⟩)) u) w K:=by
 obtain ⟨F,⟨⟨cs',hr,hv⟩,_⟩,_⟩:=hu
 have hl':=Rep.len hr
 rw [h1] at hl'
 obtain ⟨c,rfl⟩:=List.length_eq_one_iff.1 hl'
 have huc:u=c:=by simpa [mkv,ha] using hv
 subst huc
 refine zoO (by rw [h1,ha];exact ht) hB hr hv (by omega) fun w' hc hB'=>k w' (hc.toI (by simp)) ?_
 have:cs.set o u=cs.take o++[u]++cs.drop (o+1):=by
   rw [List.set_eq_take_append_cons_drop,if_pos ho];simp
 rw [this];exact hB'
theorem Blk.chgI {g e a b:Nat} {w':World} {cs:List Value} (h:Blk g e w cs) (hc:ChgI a b w w') (hd:g<a∨b≤g):Blk g e w' cs:=h.keep (hc.block g h.lt hd)
theorem zfo {a b c:Value} {s:DState} {lo hi l0 h0 l1 h1 l2 h2:Nat} (m0:OwnI l0 h0 w a s.vars) (m1:OwnI l1 h1 w b s.owner) (m2:OwnI l2 h2 w c s.stacks) (d01:h0≤l1∨h1≤l0) (d02:h0≤l2∨h2≤l0) (d12:h1≤l2∨h2≤l1)
   (b0:lo≤l0∧h0≤hi) (b1:lo≤l1∧h1≤hi) (b2:lo≤l2∧h2≤hi):OwnI lo hi w (.agg #[a,b,c]) s:=by
 obtain ⟨F0,M0,B0⟩:=m0
 obtain ⟨F1,M1,B1⟩:=m1
 obtain ⟨F2,M2,B2⟩:=m2
 refine ⟨F0++(F1++F2),znV M0 M1 M2 ?_,fun x hx=>?_⟩
 · rw [List.nodup_append,List.nodup_append]
   refine ⟨M0.nodup,⟨M1.nodup,M2.nodup,fun p hp q hq e=>?_⟩,fun p hp q hq e=>?_⟩
   · subst e;have:=B1 p hp;have:=B2 p hq;omega
   subst e
   have:=B0 p hp
   rcases List.mem_append.1 hq with hq | hq
   · have:=B1 p hq;omega
   have:=B2 p hq;omega
 rcases List.mem_append.1 hx with hx | hx
 · have:=B0 x hx;omega
 rcases List.mem_append.1 hx with hx | hx
 · have:=B1 x hx;omega
 have:=B2 x hx;omega
end
end Go.Sh
namespace Go.Sh
open Rep (rep)
section
variable {P:Program} {w:World} {α:Type} [Rep α] {e:Nat}
theorem zbF {w:World}:∀ {l:List ByteArray},(∀ x∈l,x.size≤maxLen)→Cells [] w (l.map Value.string) l
 | [],_=>⟨rfl,rfl⟩
 | x :: l,h=>⟨[],[],[.string x],l.map Value.string,rfl,rfl,⟨rfl,rfl,h x (by simp)⟩,zbF fun y hy=>h y (by simp [hy])⟩
theorem zfp {w:World}:∀ {l:List Int},(∀ x∈l,I64 x)→Cells [] w (l.map (Value.int .i64)) l
 | [],_=>⟨rfl,rfl⟩
 | x :: l,h=>⟨[],[],[.int .i64 x],l.map (Value.int .i64),rfl,rfl,⟨rfl,rfl,h x (by simp)⟩,zfp fun y hy=>h y (by simp [hy])⟩
theorem zdR {t:TypeId} {by_ n:Nat} {z:Value} {vs:List Value} {parts:Array (Nat×Value)} {l:List α} {K:Value→World→Prop} (ht:P.underlying t=some (.slice e)) (he:tyI P e=some (1,by_,false)) (hz:zb9 P e=some [z])
   (hn:0<n∧n≤1000) (hf:Instr.fill (fun i=>some (i*1,1)) ((Array.range (n*1)).map fun i=>(#[z])[i%1]!) parts.toList=some vs.toArray) (hl:l.length=n) (hc:∀ w,Cells [] w vs l)
   (k:∀ v w',Ext w w'→OwnI w.heap.size w'.heap.size w' v l→K v w'):OP P (Instr.buildSlice t n parts) w K:=by
 unfold zb9 at hz
 cases hi:P.info? e with
 | none=>simp [hi] at hz
 | some i=>
   simp only [hi] at hz
   obtain ⟨v,hv,hvc⟩:=Option.map_eq_some_iff.1 hz
   have hvc':v.cells=#[z]:=Array.ext' (by simpa using hvc)
   have hB:Blk w.heap.size e (w.alloc (.cells vs.toArray e)) vs:=heap_alloc_new w _
   have hlt:w.heap.size<(w.alloc (.cells vs.toArray e)).heap.size:=hB.lt
   refine ⟨.slice (some ⟨w.heap.size,0,none⟩) n n,w.alloc (.cells vs.toArray e),?_,k _ _ (zaN w _) ⟨[w.heap.size],⟨⟨_,⟨some ⟨w.heap.size,0,none⟩,n,[],vs,rfl,by omega,by rw [zam];omega,hc _,.inr ⟨_,_,rfl,rfl,hB.range,hlt⟩⟩,by rw [hl];rfl⟩,by simp,fun b hb=>?_⟩,fun b hb=>?_⟩⟩
   · have hne:¬n*1=0:=by omega
     have h24:¬2^24<n*1:=by omega
     have hzr:(zeroValue e).run P w=.ok v w:=by simp [zeroValue,typeInfo,hi,hv]
     simp only [Instr.buildSlice,Sem.run_bind,run_underlying ht,Result.andThen_ok,zaD he]
     simp only [h24,hne,if_false,Sem.run_bind,Sem.run_pure,Result.andThen_ok,hzr,hvc']
     rw [show (fun x=>(#[z]:Array Value)[x%(#[z]:Array Value).size]!)=fun i=>(#[z]:Array Value)[i%1]! from rfl,hf]
     rfl
   · simp only [List.mem_cons,List.not_mem_nil,or_false] at hb
     subst hb
     exact ⟨_,_,hB⟩
   simp only [List.mem_cons,List.not_mem_nil,or_false] at hb
   subst hb
   exact ⟨Nat.le_refl _,hlt⟩
theorem zqK (u v:Value) (cells:Array Value) (s:Nat) (hu:u.cells.size=s) (hv:v.cells.size=s) (hc:cells.size=2*s) :
   Instr.fill (fun i=>some (i*s,s)) cells [(0,u),(1,v)]=some (u.cells++v.cells):=by
 have key:∀ (x:Value) (off:Nat) (cs:Array Value),x.cells.zipIdx.foldl (fun (cs:Array Value) (p:Value×Nat)=>match p with | (c,j)=>cs.setIfInBounds (off+j) c) cs
     = (x.cells.toList.zipIdx 0).foldl (fun (cs:Array Value) (p:Value×Nat)=>cs.setIfInBounds (off+p.2) p.1) cs:=by
   intro x off cs
   rw [←Array.foldl_toList,Array.toList_zipIdx]
 unfold Instr.fill
 simp only [Nat.zero_mul]
 rw [if_neg (by simp;omega)]
 rw [key]
 obtain ⟨h1,h2⟩:=zhD 0 u.cells.toList 0 cells
 generalize (u.cells.toList.zipIdx 0).foldl (fun (cs:Array Value) (p:Value×Nat)=>cs.setIfInBounds (0+p.2) p.1) cells=c1 at *
 unfold Instr.fill
 simp only [Nat.one_mul]
 rw [if_neg (by simp;omega)]
 unfold Instr.fill
 rw [key]
 obtain ⟨h3,h4⟩:=zhD s v.cells.toList 0 c1
 generalize (v.cells.toList.zipIdx 0).foldl (fun (cs:Array Value) (p:Value×Nat)=>cs.setIfInBounds (s+p.2) p.1) c1=c2 at *
 congr 1
 apply Array.ext_getElem?
 intro i
 rw [h4,h2,Array.getElem?_append]
 simp only [Array.length_toList,Nat.add_zero,Nat.zero_add,Array.getElem?_toList,Nat.sub_zero]
 by_cases hi:i<s
 · rw [if_neg (by omega),if_pos (by omega),if_pos (by omega)]
 by_cases hi2:i<2*s
 · rw [if_pos (by omega),if_neg (by omega),hu]
 rw [if_neg (by omega),if_neg (by omega),if_neg (by omega),Array.getElem?_eq_none (by omega),Array.getElem?_eq_none (by omega)]
theorem zn7 {t:TypeId} {by_:Nat} {u v:Value} {x y:α} {lo l0 h0 l1 h1:Nat} {K:Value→World→Prop} (ht:P.underlying t=some (.slice e)) (he:tyI P e=some (Rep.size α,by_,Rep.agg α)) (hz:zbB P e=true) (hsz:Rep.size α≤1000)
   (hx:OwnI l0 h0 w u x) (hy:OwnI l1 h1 w v y) (hd:h0≤l1∨h1≤l0) (hl:lo≤l0∧lo≤l1∧lo≤w.heap.size)
   (k:∀ v' w',Ext w w'→OwnI lo w'.heap.size w' v' [x,y]→K v' w'):OP P (Instr.buildSlice t 2 #[(0,u),(1,v)]) w K:=by
 obtain ⟨F,⟨⟨cs,hr,rfl⟩,hn,hw⟩,hF⟩:=hx
 obtain ⟨G,⟨⟨ds,hr2,rfl⟩,hn2,hw2⟩,hG⟩:=hy
 have hlen:=Rep.len hr
 have hlen2:=Rep.len hr2
 have hcl:=zdy hr
 have hcl2:=zdy hr2
 have hvs:(mkv α cs).cells.size=Rep.size α:=by rw [←Array.length_toList,hcl,hlen]
 have hvs2:(mkv α ds).cells.size=Rep.size α:=by rw [←Array.length_toList,hcl2,hlen2]
 obtain ⟨i,d,hi,hd',hs,hby,hg⟩:=zcv he
 unfold zbB at hz
 rw [hi] at hz
 obtain ⟨z,hz⟩:=Option.isSome_iff_exists.1 hz
 have hpos:=Rep.pos (α:=α)
 have hxx:=zaN w (.cells ((mkv α cs).cells++(mkv α ds).cells) e)
 have hB:(w.alloc (.cells ((mkv α cs).cells++(mkv α ds).cells) e)).heap[w.heap.size]?=some (.cells ((mkv α cs).cells++(mkv α ds).cells) e (0,0)):=heap_alloc_new w _
 have hB':Blk w.heap.size e (w.alloc (.cells ((mkv α cs).cells++(mkv α ds).cells) e)) (cs++ds):=by
   unfold Blk;rw [hB];congr 2;apply Array.ext';simp [hcl,hcl2]
 have hlt:=hB'.lt
 have hFl:=Rep.lt hr
 have hGl:=Rep.lt hr2
 refine ⟨.slice (some ⟨w.heap.size,0,none⟩) 2 2,_,?_,k _ _ hxx ⟨w.heap.size :: (F++G),⟨⟨_,⟨some ⟨w.heap.size,0,none⟩,2,F++G,cs++ds,rfl,Nat.le_refl _,by rw [zam];omega,⟨F,G,cs,ds,rfl,rfl,zbV hr hxx,Cells.single (zbV hr2 hxx)⟩,.inr ⟨_,_,rfl,rfl,hB'.range,hlt⟩⟩,rfl⟩,?_,?_⟩,?_⟩⟩
 · have hne:¬2*Rep.size α=0:=by omega
   have h24:¬2^24<2*Rep.size α:=by omega
   have hzr:(zeroValue e).run P w=.ok z w:=by simp [zeroValue,typeInfo,hi,hz]
   simp only [Instr.buildSlice,Sem.run_bind,run_underlying ht,Result.andThen_ok,zaD he]
   simp only [h24,hne,if_false,Sem.run_bind,Sem.run_pure,Result.andThen_ok,hzr]
   rw [zqK _ _ _ _ hvs hvs2 (by simp)]
   rfl
 · rw [List.nodup_cons,List.nodup_append]
   refine ⟨fun hm=>?_,hn,hn2,fun p hp q hq e=>?_⟩
   · rcases List.mem_append.1 hm with hm | hm
     · exact Nat.lt_irrefl _ (hFl _ hm)
     exact Nat.lt_irrefl _ (hGl _ hm)
   subst e;have:=hF p hp;have:=hG p hq;omega
 · intro b hb
   rcases List.mem_cons.1 hb with rfl | hb
   · exact ⟨_,_,hB⟩
   rcases List.mem_append.1 hb with hb | hb
   · exact (hw.ext hxx) b hb
   exact (hw2.ext hxx) b hb
 intro b hb
 rcases List.mem_cons.1 hb with rfl | hb
 · exact ⟨hl.2.2,hlt⟩
 rcases List.mem_append.1 hb with hb | hb
 · have:=hF b hb;have:=hFl b hb;omega
 have:=hG b hb;have:=hGl b hb;omega
theorem zg1 {t ty:TypeId} {by_:Nat} {v src:Value} {l m:List α} {lo0 lo hi l1 h1:Nat} {K:Value→World→Prop} (ht:P.underlying t=some (.slice e)) (he:tyI P e=some (Rep.size α,by_,Rep.agg α))
   (hzc:(P.info? e).map (fun i=>(i.zero.map (·.cells.size)))=some (some (Rep.size α))) (hv:RowI lo hi e w v l) (hlo:lo≤w.heap.size) (hs:OwnI l1 h1 w src m) (hd:hi≤l1∨h1≤lo) (h0:lo0≤lo) (hl:lo0≤l1) (hm:l.length+m.length≤maxLen) (hb:(l.length+m.length)*by_≤140737488355328)
   (k:∀ v' w',ChgI lo hi w w'→RowI lo0 w'.heap.size e w' v' (l++m)→K v' w'):OP P (Builtin.append_ #[t,t] ty [v,src].toArray) w K:=by
 obtain ⟨Fs,⟨⟨cs,⟨a,cap,Fi,xs,rfl,g1,g2,hc,h4⟩,hveq⟩,hnd,hw⟩,hFs⟩:=hs
 simp only [mkv,Rep.agg,cond_false,List.headD_cons] at hveq
 subst hveq
 have hFi:(∀ b∈Fi,l1≤b∧b<h1)∧Fi.Nodup∧Wr Fi w:=by
   rcases h4 with ⟨rfl,rfl⟩ | ⟨b,o,rfl,rfl,hr,hb'⟩
   · obtain ⟨rfl,rfl⟩:=hc
     exact ⟨(fun b hb=>by cases hb),List.nodup_nil,Wr.nil w⟩
   exact ⟨fun c hc=>hFs c (by simp [hc]),(List.nodup_cons.1 hnd).2,hw.sub (by simp +contextual)⟩
 have key:∀ (v:Value) (F:List Nat),RowF F e w v l→F.Nodup→(∀ b∈F,lo≤b∧b<hi)→OP P (Builtin.append_ #[t,t] ty [v,.slice a m.length cap].toArray) w K:=by
   intro v F hF hFn hFl
   refine zeZ (m:=m) ht he hzc hF hFn rfl hc (by
     rcases h4 with h | ⟨b,o,ha,_,hr,_⟩
     · exact .inl h.1
     exact .inr ⟨b,o,ha,hr⟩) hFi.2.2 ?_ hm hb fun v' w' F' hch hfull hr' hn' hs'=>?_
   · rw [List.nodup_append]
     refine ⟨hFi.2.1,hFn,fun p hp q hq e=>?_⟩
     subst e;have:=hFi.1 p hp;have:=hFl p hq;omega
   have hown:∀ c∈v.ownBlock.toList,lo≤c∧c<hi:=fun c hc=>by
     obtain ⟨xs,Fi,_,_,rfl,_⟩:=hF
     exact hFl c (by simp only [List.mem_append];exact .inl hc)
   refine k v' w' (hch.toI hown) (.inr ⟨F',hr',hn',fun c hc=>⟨?_,hr'.lt c hc⟩⟩)
   rcases hs' c hc with h | h | h
   · have:=(hFl c h).1;omega
   · have:=hFi.1 c h;omega
   omega
 rcases hv with ⟨a0,rfl,rfl⟩ | ⟨F,hF,hFn,hFl⟩
 · have kn:=key (.slice none 0 0) [] (zgg e w) List.nodup_nil (by simp)
   cases a0 with
   | none=>exact kn
   | some x0=>
     by_cases hm0:m=[]
     · subst hm0
       refine ⟨.slice (some x0) 0 0,w,?_,k _ w (ChgI.refl w) (zcg _ _ _ _ _)⟩
       have hf:(Builtin.firstCells (Rep.size α) 0 (.slice a 0 cap)).run P w=.ok #[] w:=by
         cases a with
         | none=>rfl
         | some a=>simp [Builtin.firstCells,loadCells,loadCellsFrom]
       simp [Builtin.append_,run_underlying ht,zaD he,Builtin.lenOf,hf,storeCells]
     rcases h4 with h | ⟨b,o,rfl,_,hr,_⟩
     · exact absurd h.1 hm0
     exact zhE (zex (α:=α) ht he hzc (Cells.len hc) hr (List.length_pos_iff.2 hm0) (by simpa using hm) (by simpa using hb)) kn
 exact key v F hF hFn hFl
theorem zn8 {t ty:TypeId} {by_:Nat} {v src:Value} {l m:List α} {lo hi l1 h1:Nat} {K:Value→World→Prop} (ht:P.underlying t=some (.slice e)) (he:tyI P e=some (Rep.size α,by_,Rep.agg α))
   (hzc:(P.info? e).map (fun i=>(i.zero.map (·.cells.size)))=some (some (Rep.size α))) (hv:RowI lo hi e w v l) (hlo:lo≤w.heap.size) (hs:OwnI l1 h1 w src m) (hd:hi≤l1∨h1≤lo) (hl:lo≤l1) (hm:l.length+m.length≤maxLen) (hb:(l.length+m.length)*by_≤140737488355328)
   (k:∀ v' w',ChgI lo hi w w'→RowI lo w'.heap.size e w' v' (l++m)→K v' w'):OP P (Builtin.append_ #[t,t] ty [v,src].toArray) w K:=zg1 ht he hzc hv hlo hs hd (Nat.le_refl _) hl hm hb k
end
end Go.Sh
namespace Go.Sh
open Rep (rep)
instance:Rep UInt8 where
 size:=1
 agg:=false
 rep F _ cs x:=F=[]∧cs=[.int .u8 (x.toNat:Int)]
 pos:=by decide
 sz _:=rfl
 len:=by rintro _ _ _ _ ⟨_,rfl⟩;rfl
 one:=by rintro _ _ _ _ ⟨_,rfl⟩ v hv;simp at hv;subst hv;rfl
 keep:=by rintro _ _ _ _ _ h _;exact h
 lt:=by rintro _ _ _ _ ⟨rfl,_⟩ b hb;cases hb
instance:Flat UInt8:=⟨fun h=>h.1⟩
instance:RepZ UInt8:=⟨0,[.int .u8 0],fun _=>⟨rfl,rfl⟩⟩
section
variable {P:Program} {w w0:World} {K:Value→Prop} {t:TypeId} {x y:Operand}
theorem zt1 {v:Value} {b:UInt8}:Is w v b↔v=.int .u8 (b.toNat:Int):=by
 constructor
 · rintro ⟨F,cs,⟨_,rfl⟩,rfl⟩;rfl
 rintro rfl;exact ⟨[],_,⟨rfl,rfl⟩,rfl⟩
theorem zni {t by_ b o:Nat} {x:UInt8} (ht:tyI P t=some (1,by_,false)) (h:At w0 b o x) (hx:Ext w0 w) (k:K (.int .u8 (x.toNat:Int))) :
   RD P (Instr.loadAt t (.pointer (some ⟨b,o,none⟩))) w K:=
 zab (α:=UInt8) ht h hx fun v hv=>by obtain rfl:=zt1.1 hv;exact k
end
end Go.Sh
namespace Go.Proofs.YtdmailcgaekimaaGreat
open Go Go.Sh Go.Proofs
open Rep (rep)
def F77 (a0:Value) (w:World) (R:VW):Prop:=
 NIL a0 <|
 rF 123 a0 2 w fun x7=>
 rL 3 x7 w fun x8=>
 rB .mul 3 T0 U0 x8 (iV 6364136223846793005) w fun x9=>
 rA x9 (iV 1442695040888963407) w fun x10=>
 NIL a0 <|
 rF 123 a0 2 w fun x12=>
 oS 3 x12 x10 w fun w=>
 (fun w=>NIL a0 <|
 rF 123 a0 2 w fun x15=>
 rL 3 x15 w fun x16=>
 rB .shr 3 T0 U0 x16 (Value.int .u64 33) w fun x17=>
 NIL a0 <|
 rF 123 a0 2 w fun x20=>
 rL 3 x20 w fun x21=>
 rB .shr 3 T0 U0 x21 (Value.int .u64 45) w fun x22=>
 rB .xor 3 T0 T0 x17 x22 w fun x23=>
 rB .and 3 T0 U0 x23 (iV 255) w fun x24=>
 (fun w=>NIL a0 <|
 rF 123 a0 1 w fun x27=>
 rL 3 x27 w fun x28=>
 NIL a0 <|
 rF 123 a0 0 w fun x31=>
 rL 22 x31 w fun x32=>
 rN 22 3 x32 w fun x33=>
 rC x28 x33 w fun x34=>
 BR x34
 ((fun w=>NIL a0 <|
 rF 123 a0 0 w fun x38=>
 rL 22 x38 w fun x39=>
 NIL a0 <|
 rF 123 a0 1 w fun x42=>
 rL 3 x42 w fun x43=>
 rX 22 x39 x43 w fun x44=>
 rL 5 x44 w fun x45=>
 rD (convert 5 3 x45) w fun x46=>
 rB .add 3 T0 T0 x24 x46 w fun x47=>
 rB .and 3 T0 U0 x47 (iV 255) w fun x48=>
 NIL a0 <|
 rF 123 a0 1 w fun x52=>
 rL 3 x52 w fun x53=>
 rA x53 (iV 1) w fun x54=>
 NIL a0 <|
 rF 123 a0 1 w fun x56=>
 oS 3 x56 x54 w fun w=>
 R x48 w) (World.drew1 w))
 (R x24 w)) (World.drew1 w)) (World.drew1 w)
def cfg77:Cfg:=⟨extL,[],[],[(2,[0,1,2,3,4,5,6,7,8,9,10,11,12],0),(3,[0,1,2,3,4,5,6,7,8,9],0),(4,[0,1,2,3,4,5,6,7,8,9,10,11,12,13,14],0)],[],[],[]⟩
theorem F77_call {a0:Value} {w:World} {R:VW} (h:F77 a0 w R):cL 77 [a0] w R:=co (g:=cfg77) Tryz.func77 (by kernel_rfl) (by kernel_rfl) (by kernel_rfl) h
theorem zsc:zb9 Tryz.prog 3=some [.int .i64 0]:=by kernel_rfl
theorem zby:zb9 Tryz.prog 9=some [.string ByteArray.empty]:=by kernel_rfl
def CurAt (W:World) (g:Nat) (bs:List UInt8) (s:Cur) (w:World):Prop:=
 ∃ v,Is W v bs∧Ext W w∧W.heap.size≤g∧Blk g 123 w [v,.int .i64 (s.i:Int),.int .i64 s.h]∧s.i≤bs.length∧bs.length≤1048576
section
variable {W w w':World} {g a b:Nat} {bs:List UInt8} {s:Cur}
theorem CurAt.lt (h:CurAt W g bs s w):W.heap.size≤g∧g<w.heap.size:=by
 obtain ⟨v,_,_,h1,h2,_⟩:=h;exact ⟨h1,h2.lt⟩
theorem CurAt.ext (h:CurAt W g bs s w) (hx:Ext w w'):CurAt W g bs s w':=by
 obtain ⟨v,h0,h1,h2,h3,h4⟩:=h;exact ⟨v,h0,h1.trans hx,h2,h3.ext hx,h4⟩
theorem CurAt.chg (h:CurAt W g bs s w) (hc:ChgI a b w w') (h1:W.heap.size≤a) (hd:g<a∨b≤g):CurAt W g bs s w':=by
 obtain ⟨v,h0,hx,h2,h3,h4⟩:=h;exact ⟨v,h0,hx.chgI hc h1,h2,h3.chgI hc hd,h4⟩
theorem ChgI.out {c:World} {lo hi x y:Nat} (h:ChgI x y w w') (k:ChgI lo hi w' c) (hl:w.heap.size≤lo):ChgI x y w c:=
 ⟨k.os.trans h.os,k.tape.trans h.tape,k.output.trans h.output,Nat.le_trans h.size k.size,fun i hi ho=>(k.block i (Nat.lt_of_lt_of_le hi h.size) (by omega)).trans (h.block i hi ho)⟩
end
theorem zed {W w:World} {g:Nat} {bs:List UInt8} {s:Cur} (hC:CurAt W g bs s w) :
   CALL Tryz.prog 77 [.pointer (some ⟨g,0,none⟩)] w fun r w'=>ChgI g (g+1) w w'∧CurAt W g bs (zcN bs s) w'∧r=.int .i64 (zgV bs s):=by
 obtain ⟨v,hv,hx,hg,hB,hi,hl⟩:=hC
 refine F77_call ?_
 unfold F77
 refine NIL.mk rfl ?_
 refine zaa zjK ?_
 refine zaA ty3 hB rfl ?_
 refine zrY ?_
 refine zo1 ?_
 refine NIL.mk rfl ?_
 refine zaa zjK ?_
 refine za6 (α:=Int) ty3 rfl rfl hB (by simp) (zcc (lo:=0) (hi:=0) (zrX _)) fun w1 hc1 hB1=>?_
 have hx2:=zaj w1
 have hB2:=hB1.ext hx2
 have hc2:=hc1.trans hx2.toI
 have hvl:=zaf hv
 refine NIL.mk rfl ?_
 refine zaa zjK ?_
 refine zaA ty3 hB2 rfl ?_
 refine zo2 (n:=33) ?_
 refine NIL.mk rfl ?_
 refine zaa zjK ?_
 refine zaA ty3 hB2 rfl ?_
 refine zo2 (n:=45) ?_
 refine zrZ ?_
 refine zl4 ?_
 have hx3:=zaj (World.drew1 w1)
 have hB3:=hB2.ext hx3
 have hc3:=hc2.trans hx3.toI
 refine NIL.mk rfl ?_
 refine zaa zjJ ?_
 refine zaA ty3 hB3 rfl ?_
 refine NIL.mk rfl ?_
 refine zaa zo7 ?_
 refine zaA zuc hB3 rfl ?_
 refine zae u22 hv ?_
 have hx3':Ext W (World.drew1 (World.drew1 w1)):=hx.chgI hc3 hg
 obtain ⟨bx,hbx⟩:∃ x,x=zqF (zn3 s.h):=⟨_,rfl⟩
 have e0:znZ (ztQ (ztd (zlO (zlO (s.h*6364136223846793005)+1442695040888963407)) 33) (ztd (zlO (zlO (s.h*6364136223846793005)+1442695040888963407)) 45)) 255=bx:=hbx.symm
 have hbl:0≤bx∧bx≤255:=by rw [hbx];exact zjI _ (n:=255) (by omega)
 rw [e0]
 refine zai ?_
 refine br (fun hlt=>?_) (fun hge=>?_)
 · have hlt:s.i<bs.length:=by omega
   have hx4:=zaj (World.drew1 (World.drew1 w1))
   have hB4:=hB3.ext hx4
   have hc4:=hc3.trans hx4.toI
   have hx4':=hx3'.trans hx4
   refine NIL.mk rfl ?_
   refine zaa zo7 ?_
   refine zaA zuc hB4 rfl ?_
   refine NIL.mk rfl ?_
   refine zaa zjJ ?_
   refine zaA ty3 hB4 rfl ?_
   refine zad u22 ty5 (i:=s.i) hv hlt fun b o hA=>?_
   refine zni ty5 hA hx4' ?_
   have h256:=UInt8.toNat_lt (bs[s.i])
   refine zo3 (by kernel_rfl) u3 (by omega) ?_
   refine zo1 ?_
   refine zl4 ?_
   refine NIL.mk rfl ?_
   refine zaa zjJ ?_
   refine zaA ty3 hB4 rfl ?_
   refine zah (by omega) ?_
   refine NIL.mk rfl ?_
   refine zaa zjJ ?_
   refine za6 (α:=Int) ty3 rfl rfl hB4 (by simp) (zcc (lo:=0) (hi:=0) (by unfold I64;omega)) fun w5 hc5 hB5=>?_
   have hc6:=hc4.trans hc5
   refine ⟨hc6,⟨v,hv,hx.chgI hc6 hg,hg,?_,?_,hl⟩,?_⟩
   rotate_left 2
   · have hq:zgV bs s=znZ (bx+(bs[s.i].toNat:Int)) 255:=by
       unfold zgV;rw [List.getElem?_eq_getElem hlt,hbx]
     rw [hq,zo0 (by unfold I64;omega)]
   · have:zcN bs s=⟨s.i+1,zn3 s.h⟩:=by unfold zcN;rw [if_pos hlt]
     rw [this];exact hB5
   show (if s.i<bs.length then s.i+1 else s.i)≤_
   rw [if_pos hlt];omega
 have hge:¬s.i<bs.length:=by omega
 refine ⟨hc3,⟨v,hv,hx3',hg,?_,?_,hl⟩,?_⟩
 rotate_left 2
 · have hq:zgV bs s=bx:=by
     unfold zgV;rw [List.getElem?_eq_none (by omega),hbx]
   rw [hq]
 · have:zcN bs s=⟨s.i,zn3 s.h⟩:=by unfold zcN;rw [if_neg hge]
   rw [this];exact hB3
 show (if s.i<bs.length then s.i+1 else s.i)≤_
 rw [if_neg hge];exact hi
def F59 (a0 a1:Value) (w:World) (R:VW):Prop:=
 rB .leq 3 T0 U0 a1 (iV 0) w fun x10=>
 BR x10
 (R (iV 0) w)
 (rB .leq 3 T0 U0 a1 (iV 256) w fun x12=>
 BR x12
 (cL 77 [a0] w fun x14 w=>
 rB .rem 3 T0 T0 x14 a1 w fun x16=>
 R x16 w)
 (cL 77 [a0] w fun x18 w=>
 cL 77 [a0] w fun x20 w=>
 cL 77 [a0] w fun x22 w=>
 cL 77 [a0] w fun x24 w=>
 rB .mul 3 T0 U0 x18 (iV 16777216) w fun x26=>
 rB .mul 3 T0 U0 x20 (iV 65536) w fun x28=>
 rB .add 3 T0 T0 x26 x28 w fun x29=>
 rB .mul 3 T0 U0 x22 (iV 256) w fun x31=>
 rB .add 3 T0 T0 x29 x31 w fun x32=>
 rB .add 3 T0 T0 x32 x24 w fun x34=>
 rB .rem 3 T0 T0 x34 a1 w fun x36=>
 R x36 w))
def cfg59:Cfg:=⟨extL,[],[],[],[],[],[]⟩
theorem F59_call {a0 a1:Value} {w:World} {R:VW} (h:F59 a0 a1 w R):cL 59 [a0,a1] w R:=co (g:=cfg59) Tryz.func59 (by kernel_rfl) (by kernel_rfl) (by kernel_rfl) h
theorem zbm {w:World} {W:World} {g:Nat} {bs:List UInt8} {s:Cur} {n:Int}  (hC:CurAt W g bs s w) (hn:n≤1000000000000) :
   CALL Tryz.prog 59 [.pointer (some ⟨g,0,none⟩),.int .i64 n] w fun r w'=>ChgI g (g+1) w w'∧(CurAt W g bs (zak bs n s) w'∧r=.int .i64 (zaI bs n s)):=by
 refine F59_call ?_
 unfold F59
 have hgl:=hC.lt
 have b1:=zdQ bs s
 have b2:=zdQ bs (zcN bs s)
 have b3:=zdQ bs (zcN bs (zcN bs s))
 have b4:=zdQ bs (zcN bs (zcN bs (zcN bs s)))
 refine zcO ?_
 refine br (fun c1=>?_) (fun c1=>?_)
 · refine ⟨(ChgI.refl w),?_⟩
   unfold zak zaI
   rw [if_pos c1,if_pos c1]
   exact ⟨hC,rfl⟩
 refine zcO ?_
 refine br (fun c2=>?_) (fun c2=>?_)
 · refine (zed hC).mono ?_
   rintro _ w1_ ⟨hc1_,hC1_,rfl⟩
   have hs_hc1_:=hc1_.size
   have hs_hc1_:=hc1_.size
   refine zoM (by omega) ?_
   refine ⟨hc1_,?_⟩
   unfold zak zaI
   rw [if_neg c1,if_neg c1,if_pos c2,if_pos c2]
   exact ⟨hC1_,rfl⟩
 refine (zed hC).mono ?_
 rintro _ w2_ ⟨hc2_,hC2_,rfl⟩
 have hs_hc2_:=hc2_.size
 have hs_hc2_:=hc2_.size
 refine (zed hC2_).mono ?_
 rintro _ w3_ ⟨hc3_,hC3_,rfl⟩
 have hs_hc3_:=hc3_.size
 have hs_hc3_:=hc3_.size
 refine (zed hC3_).mono ?_
 rintro _ w4_ ⟨hc4_,hC4_,rfl⟩
 have hs_hc4_:=hc4_.size
 have hs_hc4_:=hc4_.size
 refine (zed hC4_).mono ?_
 rintro _ w5_ ⟨hc5_,hC5_,rfl⟩
 have hs_hc5_:=hc5_.size
 have hs_hc5_:=hc5_.size
 refine zkK (by unfold I64;omega) ?_
 refine zkK (by unfold I64;omega) ?_
 refine zcp (by unfold I64;omega) ?_
 refine zkK (by unfold I64;omega) ?_
 refine zcp (by unfold I64;omega) ?_
 refine zcp (by unfold I64;omega) ?_
 refine zoM (by omega) ?_
 refine ⟨(ChgI.trans (ChgI.trans (ChgI.trans hc2_ hc3_) hc4_) hc5_),?_⟩
 unfold zak zaI
 rw [if_neg c1,if_neg c1,if_neg c2,if_neg c2]
 exact ⟨hC5_,rfl⟩
def F51 (a0 a1:Value) (w:World) (R:VW):Prop:=
 cL 59 [a0,a1] w fun x7 w=>
 rB .eql 3 T0 U0 x7 (iV 0) w fun x8=>
 R x8 w
def cfg51:Cfg:=⟨extL,[],[],[],[],[],[]⟩
theorem F51_call {a0 a1:Value} {w:World} {R:VW} (h:F51 a0 a1 w R):cL 51 [a0,a1] w R:=co (g:=cfg51) Tryz.func51 (by kernel_rfl) (by kernel_rfl) (by kernel_rfl) h
theorem zee {w:World} {W:World} {g:Nat} {bs:List UInt8} {s:Cur} {n:Int}  (hC:CurAt W g bs s w) (hn:n≤1000000000000) :
   CALL Tryz.prog 51 [.pointer (some ⟨g,0,none⟩),.int .i64 n] w fun r w'=>ChgI g (g+1) w w'∧(CurAt W g bs (zak bs n s) w'∧r=.bool (decide (zaI bs n s=0))):=by
 refine F51_call ?_
 unfold F51
 refine (zbm hC (by omega)).mono ?_
 rintro _ w1_ ⟨hc1_,hC1_,rfl⟩
 refine zag ?_
 refine ⟨hc1_,?_⟩
 exact ⟨hC1_,rfl⟩
theorem zdF {α:Type} {l:List α} {i:Nat} {d:α} (h:i<l.length):l[i]=l.getD i d:=by rw [List.getD_eq_getElem?_getD,List.getElem?_eq_getElem h];rfl
def F54 (a0 a1:Value) (w:World) (R:VW):Prop:=
 rN 24 3 a1 w fun x8=>
 cL 59 [a0,x8] w fun x9 w=>
 rX 24 a1 x9 w fun x10=>
 rL 9 x10 w fun x11=>
 R x11 w
def cfg54:Cfg:=⟨extL,[],[],[],[],[],[]⟩
theorem F54_call {a0 a1:Value} {w:World} {R:VW} (h:F54 a0 a1 w R):cL 54 [a0,a1] w R:=co (g:=cfg54) Tryz.func54 (by kernel_rfl) (by kernel_rfl) (by kernel_rfl) h
theorem zcn {w:World} {W:World} {g:Nat} {bs:List UInt8} {s:Cur} {v1:Value} {lo1 hi1:Nat} {l:(List ByteArray)}  (hC:CurAt W g bs s w) (h1:OwnI lo1 hi1 w v1 l) (hlo1:lo1≤w.heap.size) (hhi1:hi1≤w.heap.size) (hg1:g<lo1∨hi1≤g) (h0:0<l.length) (hn:l.length≤1000) :
   CALL Tryz.prog 54 [.pointer (some ⟨g,0,none⟩),v1] w fun r w'=>ChgI g (g+1) w w'∧(CurAt W g bs (zak bs (l.length:Int) s) w'∧r=.string (zca bs l s)∧(zca bs l s).size≤maxLen):=by
 refine F54_call ?_
 unfold F54
 have hgl:=hC.lt
 have hbx:=zbp bs (n:=(l.length:Int)) (by omega) s
 have hln8:=zaf h1.is
 refine zae u24 h1.is ?_
 refine (zbm hC (by omega)).mono ?_
 rintro _ w1_ ⟨hc1_,hC1_,rfl⟩
 have hs_hc1_:=hc1_.size
 have hs_hc1_:=hc1_.size
 have h1_c1:=(h1.ext (Ext.refl w)).chg hc1_ (by omega)
 refine zat u24 ty9 h1_c1.is (by omega) (by omega) fun b10 o10 h10=>?_
 refine zao ty9 h10 (Ext.refl w1_) fun hS11=>?_
 refine ⟨hc1_,?_⟩
 refine ⟨hC1_,?_,?_⟩
 · unfold zca;rw [←zdF (by omega)]
 unfold zca;rw [←zdF (by omega)];assumption
def F182 (a0 a1:Value) (w:World) (R:VW):Prop:=
 rN 25 3 a1 w fun x8=>
 cL 59 [a0,x8] w fun x9 w=>
 rX 25 a1 x9 w fun x10=>
 rL 3 x10 w fun x11=>
 R x11 w
def cfg182:Cfg:=⟨extL,[],[],[],[],[],[]⟩
theorem F182_call {a0 a1:Value} {w:World} {R:VW} (h:F182 a0 a1 w R):cL 182 [a0,a1] w R:=co (g:=cfg182) Tryz.func182 (by kernel_rfl) (by kernel_rfl) (by kernel_rfl) h
theorem zgm {w:World} {W:World} {g:Nat} {bs:List UInt8} {s:Cur} {v1:Value} {lo1 hi1:Nat} {l:(List Int)}  (hC:CurAt W g bs s w) (h1:OwnI lo1 hi1 w v1 l) (hlo1:lo1≤w.heap.size) (hhi1:hi1≤w.heap.size) (hg1:g<lo1∨hi1≤g) (h0:0<l.length) (hn:l.length≤1000) :
   CALL Tryz.prog 182 [.pointer (some ⟨g,0,none⟩),v1] w fun r w'=>ChgI g (g+1) w w'∧(CurAt W g bs (zak bs (l.length:Int) s) w'∧r=.int .i64 (zgW bs l s)∧I64 (zgW bs l s)):=by
 refine F182_call ?_
 unfold F182
 have hgl:=hC.lt
 have hbx:=zbp bs (n:=(l.length:Int)) (by omega) s
 have hln8:=zaf h1.is
 refine zae u25 h1.is ?_
 refine (zbm hC (by omega)).mono ?_
 rintro _ w1_ ⟨hc1_,hC1_,rfl⟩
 have hs_hc1_:=hc1_.size
 have hs_hc1_:=hc1_.size
 have h1_c1:=(h1.ext (Ext.refl w)).chg hc1_ (by omega)
 refine zat u25 ty3 h1_c1.is (by omega) (by omega) fun b10 o10 h10=>?_
 refine zac ty3 h10 (Ext.refl w1_) fun hI11=>?_
 refine ⟨hc1_,?_⟩
 refine ⟨hC1_,?_,?_⟩
 · unfold zgW;rw [←zdF (by omega)]
 unfold zgW;rw [←zdF (by omega)];assumption
def F107 (a0 a1:Value) (w:World) (R:VW):Prop:=
 (fun w=>NIL a0 <|
 rF 129 a0 3 w fun x7=>
 rF 86 x7 0 w fun x8=>
 rL 3 x8 w fun x9=>
 rB .eql 3 T0 U0 x9 (iV 0) w fun x10=>
 BR x10
 (NIL a0 <|
 rF 129 a0 1 w fun x14=>
 rL 3 x14 w fun x15=>
 NIL a0 <|
 rF 129 a0 0 w fun x18=>
 rL 127 x18 w fun x19=>
 rN 127 3 x19 w fun x20=>
 rC x15 x20 w fun x21=>
 BR x21
 (NIL a0 <|
 rF 129 a0 0 w fun x26=>
 rL 127 x26 w fun x27=>
 NIL a0 <|
 rF 129 a0 1 w fun x30=>
 rL 3 x30 w fun x31=>
 rX 127 x27 x31 w fun x32=>
 rF 198 x32 1 w fun x33=>
 rL 9 x33 w fun x34=>
 rB .eql 9 T0 T0 x34 a1 w fun x36=>
 R x36 w)
 (R (Value.bool false) w))
 (R (Value.bool false) w)) (World.drew1 w)
def cfg107:Cfg:=⟨extL,[],[],[(1,[0,1,2,3,4,5,6,7,8,9,10,11,12,13,14,15,16,17,18,19,20,21,22,23,24,25,26,27,28,29,30,31,32,33],0)],[],[],[]⟩
theorem F107_call {a0 a1:Value} {w:World} {R:VW} (h:F107 a0 a1 w R):cL 107 [a0,a1] w R:=co (g:=cfg107) Tryz.func107 (by kernel_rfl) (by kernel_rfl) (by kernel_rfl) h
def F109 (a0 a1:Value) (w:World) (R:VW):Prop:=
 cL 107 [a0,a1] w fun x6 w=>
 rD (Op.unary .not x6) w fun x7=>
 BR x7
 (cL 108 [a0,(iV 3)] w fun x9 w=>
 R (Value.tuple #[]) w)
 (NIL a0 <|
 rF 129 a0 1 w fun x12=>
 rL 3 x12 w fun x13=>
 rA x13 (iV 1) w fun x14=>
 NIL a0 <|
 rF 129 a0 1 w fun x16=>
 oS 3 x16 x14 w fun w=>
 R (Value.tuple #[]) w)
def cfg109:Cfg:=⟨extL,[],[],[],[],[],[]⟩
theorem F109_call {a0 a1:Value} {w:World} {R:VW} (h:F109 a0 a1 w R):cL 109 [a0,a1] w R:=co (g:=cfg109) Tryz.func109 (by kernel_rfl) (by kernel_rfl) (by kernel_rfl) h
def F184 (a0:Value) (w:World) (R:VW):Prop:=
 (fun w=>NIL a0 <|
 rF 129 a0 3 w fun x5=>
 rF 86 x5 0 w fun x6=>
 rL 3 x6 w fun x7=>
 rB .eql 3 T0 U0 x7 (iV 0) w fun x8=>
 BR x8
 (NIL a0 <|
 rF 129 a0 1 w fun x12=>
 rL 3 x12 w fun x13=>
 NIL a0 <|
 rF 129 a0 0 w fun x16=>
 rL 127 x16 w fun x17=>
 rN 127 3 x17 w fun x18=>
 rC x13 x18 w fun x19=>
 BR x19
 (NIL a0 <|
 rF 129 a0 0 w fun x24=>
 rL 127 x24 w fun x25=>
 NIL a0 <|
 rF 129 a0 1 w fun x28=>
 rL 3 x28 w fun x29=>
 rX 127 x25 x29 w fun x30=>
 rF 198 x30 0 w fun x31=>
 rL 3 x31 w fun x32=>
 rB .eql 3 T0 U0 x32 (iV 1) w fun x33=>
 BR x33
 (NIL a0 <|
 rF 129 a0 0 w fun x38=>
 rL 127 x38 w fun x39=>
 NIL a0 <|
 rF 129 a0 1 w fun x42=>
 rL 3 x42 w fun x43=>
 rX 127 x39 x43 w fun x44=>
 rF 198 x44 1 w fun x45=>
 rL 9 x45 w fun x46=>
 cL 253 [x46] w fun x47 w=>
 R x47 w)
 (R (Value.bool false) w))
 (R (Value.bool false) w))
 (R (Value.bool false) w)) (World.drew1 w)
def cfg184:Cfg:=⟨extL,[],[],[(1,[0,1,2,3,4,5,6,7,8,9,10,11,12,13,14,15,16,17,18,19,20,21,22,23,24,25,26,27,28,29,30,31,32,33,34,35,36,37,38,39,40,41,42,43,44,45,46],0)],[],[],[]⟩
theorem F184_call {a0:Value} {w:World} {R:VW} (h:F184 a0 w R):cL 184 [a0] w R:=co (g:=cfg184) Tryz.func184 (by kernel_rfl) (by kernel_rfl) (by kernel_rfl) h
def F110 (a0:Value) (w:World) (R:VW):Prop:=
 cL 184 [a0] w fun x4 w=>
 rD (Op.unary .not x4) w fun x5=>
 BR x5
 (cL 108 [a0,(iV 3)] w fun x7 w=>
 R (Value.string (ByteArray.mk #[])) w)
 (NIL a0 <|
 rF 129 a0 1 w fun x10=>
 rL 3 x10 w fun x11=>
 rA x11 (iV 1) w fun x12=>
 NIL a0 <|
 rF 129 a0 1 w fun x14=>
 oS 3 x14 x12 w fun w=>
 (fun w=>NIL a0 <|
 rF 129 a0 0 w fun x17=>
 rL 127 x17 w fun x18=>
 NIL a0 <|
 rF 129 a0 1 w fun x21=>
 rL 3 x21 w fun x22=>
 rB .sub 3 T0 U0 x22 (iV 1) w fun x23=>
 rX 127 x18 x23 w fun x24=>
 rF 198 x24 1 w fun x25=>
 rL 9 x25 w fun x26=>
 R x26 w) (World.drew1 w))
def cfg110:Cfg:=⟨extL,[],[],[(5,[0,1,2,3,4,5,6,7,8,9,10,11,12],0)],[],[],[]⟩
theorem F110_call {a0:Value} {w:World} {R:VW} (h:F110 a0 w R):cL 110 [a0] w R:=co (g:=cfg110) Tryz.func110 (by kernel_rfl) (by kernel_rfl) (by kernel_rfl) h
open Rep (rep)
structure DSign where
 kind:Int
 text:ByteArray
 at_:Int
theorem DSign.ext_iff {x y:DSign}:x=y↔(x.kind=y.kind∧x.text=y.text∧x.at_=y.at_):=⟨fun h=>by rw [h];exact ⟨rfl,rfl,rfl⟩,fun h=>by obtain ⟨h0,h1,h2⟩:=h;cases x;cases y;simp only at h0 h1 h2;simp only [h0,h1,h2]⟩
instance:DecidableEq DSign:=fun x y=>decidable_of_iff (x.kind=y.kind∧x.text=y.text∧x.at_=y.at_) DSign.ext_iff.symm
instance:Rep DSign:=Rep.via fun x=>(x.kind,x.text,x.at_)
theorem zn9 {w:World} {b o:Nat} {x:DSign} (h:At w b o x):At w b (o+0) x.kind:=zbT (α:=Int) (β:=ByteArray×Int) (p:=(x.kind,x.text,x.at_)) h
theorem zg2 {w:World} {b o:Nat} {x:DSign} (h:At w b o x):At w b (o+1) x.text:=zbT (α:=ByteArray) (β:=Int) (p:=(x.text,x.at_)) (zaP (α:=Int) (β:=ByteArray×Int) (p:=(x.kind,x.text,x.at_)) h)
instance:RepZ DSign:=⟨⟨(RepZ.zv:Int),(RepZ.zv:ByteArray),(RepZ.zv:Int)⟩,RepZ.zc (Int×ByteArray×Int),fun w=>RepZ.zr (α:=Int×ByteArray×Int) w⟩
theorem zqL {w:World} {x:DSign} (h_kind:I64 x.kind) (h_text:x.text.size≤maxLen) (h_at_:I64 x.at_):Mine [] w (.agg #[.int .i64 x.kind,.string x.text,.int .i64 x.at_]) x:=⟨⟨[.int .i64 x.kind,.string x.text,.int .i64 x.at_],⟨[],[],[.int .i64 x.kind],[.string x.text,.int .i64 x.at_],rfl,rfl,⟨rfl,rfl,h_kind⟩,⟨[],[],[.string x.text],[.int .i64 x.at_],rfl,rfl,⟨rfl,rfl,h_text⟩,⟨rfl,rfl,h_at_⟩⟩⟩,rfl⟩,List.nodup_nil,Wr.nil w⟩
instance:Flat DSign:=⟨fun h=>Flat.flat (α:=Int×ByteArray×Int) h⟩
def zd1 (v:Value) (e:Int) (i left:Nat):List Value:=[v,.int .i64 (i:Int),.int .i64 e,.int .i64 0,.int .i64 0,.int .i64 (left:Int)]
structure RdS (W:World) (g:Nat) (L:List DSign) (v:Value) (e:Int) (i left:Nat) (w:World):Prop where
 is_:Is W v L
 ext:Ext W w
 lo:W.heap.size≤g
 blk:Blk g 129 w (zd1 v e i left)
 many:L.length≤1000000
theorem RdS.step {W w w':World} {g:Nat} {L:List DSign} {v:Value} {e:Int} {i left:Nat} (h:RdS W g L v e i left w) (hx:Ext w w'):RdS W g L v e i left w':=⟨h.is_,h.ext.trans hx,h.lo,h.blk.ext hx,h.many⟩
def sgT (L:List DSign) (i:Nat):ByteArray:=match L[i]? with | some x=>x.text | none=>ByteArray.empty
def sgK (L:List DSign) (i:Nat):Int:=match L[i]? with | some x=>x.kind | none=>0
theorem zmh {L:List DSign} {i:Nat} (h:i<L.length):L[i].text=sgT L i:=by unfold sgT;rw [List.getElem?_eq_getElem h]
theorem zsd {L:List DSign} {i:Nat} (h:i<L.length):L[i].kind=sgK L i:=by unfold sgK;rw [List.getElem?_eq_getElem h]
section
variable {W w:World} {g:Nat} {L:List DSign} {v:Value} {e:Int} {i left:Nat}
theorem zco {t:ByteArray} (h:RdS W g L v e i left w) :
   CALL Tryz.prog 107 [.pointer (some ⟨g,0,none⟩),.string t] w fun r w'=>Ext w w'∧r=.bool (decide (i<L.length∧sgT L i=t)):=by
 refine F107_call ?_
 unfold F107
 have hx1:=zaj w
 have hB:=h.blk.ext hx1
 have hW:=h.ext.trans hx1
 refine NIL.mk rfl ?_
 refine zaa zh5 ?_
 refine zaa zkZ ?_
 refine zaA ty3 hB rfl ?_
 refine zag ?_
 refine br (fun _=>?_) (fun hn=>absurd rfl hn)
 refine NIL.mk rfl ?_
 refine zaa zcY ?_
 refine zaA ty3 hB rfl ?_
 refine NIL.mk rfl ?_
 refine zaa zfG ?_
 refine zaA zl6 hB rfl ?_
 refine zae zqB h.is_ ?_
 refine zai ?_
 refine br (fun hlt=>?_) (fun hge=>⟨hx1,?_⟩)
 · have hi:i<L.length:=by omega
   refine NIL.mk rfl ?_
   refine zaa zfG ?_
   refine zaA zl6 hB rfl ?_
   refine NIL.mk rfl ?_
   refine zaa zcY ?_
   refine zaA ty3 hB rfl ?_
   refine zad zqB zk0 h.is_ hi fun b o hA=>?_
   refine zaa zjP ?_
   refine zao ty9 (zg2 hA) hW fun _=>?_
   refine zay ?_
   refine ⟨hx1,?_⟩
   rw [zmh hi]
   congr 1
   rw [decide_eq_decide]
   exact ⟨fun h=>⟨hi,h⟩,fun h=>h.2⟩
 rw [decide_eq_false (fun h=>hge (by omega))]
theorem zc4 {t:ByteArray} (h:RdS W g L v e i left w) (hi:i<L.length) (ht:sgT L i=t) :
   CALL Tryz.prog 109 [.pointer (some ⟨g,0,none⟩),.string t] w fun r w'=>ChgI g (g+1) w w'∧RdS W g L v e (i+1) left w':=by
 refine F109_call ?_
 unfold F109
 refine (zco (t:=t) h).mono ?_
 rintro _ w1 ⟨hx1,rfl⟩
 refine zas ?_
 refine br (fun hn=>absurd ⟨hi,ht⟩ hn) (fun _=>?_)
 have h1:=h.step hx1
 have hm:=h.many
 refine NIL.mk rfl ?_
 refine zaa zcY ?_
 refine zaA ty3 h1.blk rfl ?_
 refine zah (by omega) ?_
 refine NIL.mk rfl ?_
 refine zaa zcY ?_
 refine za6 (α:=Int) (lo:=0) (hi:=0) ty3 rfl rfl h1.blk (by simp [zd1]) (zcc (by unfold I64;omega)) fun w2 hc2 hB2=>?_
 exact ⟨hx1.toI.trans hc2,h.is_,h1.ext.chgI hc2 h.lo,h.lo,hB2,h.many⟩
def named (L:List DSign) (i:Nat):Bool:=decide (i<L.length∧sgK L i=1)&&zaZ (sgT L i)
theorem zfQ (h:RdS W g L v e i left w) :
   CALL Tryz.prog 184 [.pointer (some ⟨g,0,none⟩)] w fun r w'=>Ext w w'∧r=.bool (named L i):=by
 refine F184_call ?_
 unfold F184
 have hx1:=zaj w
 have hB:=h.blk.ext hx1
 have hW:=h.ext.trans hx1
 refine NIL.mk rfl ?_
 refine zaa zh5 ?_
 refine zaa zkZ ?_
 refine zaA ty3 hB rfl ?_
 refine zag ?_
 refine br (fun _=>?_) (fun hn=>absurd rfl hn)
 refine NIL.mk rfl ?_
 refine zaa zcY ?_
 refine zaA ty3 hB rfl ?_
 refine NIL.mk rfl ?_
 refine zaa zfG ?_
 refine zaA zl6 hB rfl ?_
 refine zae zqB h.is_ ?_
 refine zai ?_
 refine br (fun hlt=>?_) (fun hge=>⟨hx1,?_⟩)
 · have hi:i<L.length:=by omega
   refine NIL.mk rfl ?_
   refine zaa zfG ?_
   refine zaA zl6 hB rfl ?_
   refine NIL.mk rfl ?_
   refine zaa zcY ?_
   refine zaA ty3 hB rfl ?_
   refine zad zqB zk0 h.is_ hi fun b o hA=>?_
   refine zaa zo8 ?_
   refine zac ty3 (zn9 hA) hW fun _=>?_
   refine zag ?_
   rw [zsd hi]
   refine br (fun hk=>?_) (fun hk=>⟨hx1,?_⟩)
   · refine NIL.mk rfl ?_
     refine zaa zfG ?_
     refine zaA zl6 hB rfl ?_
     refine NIL.mk rfl ?_
     refine zaa zcY ?_
     refine zaA ty3 hB rfl ?_
     refine zad zqB zk0 h.is_ hi fun b o hA=>?_
     refine zaa zjP ?_
     refine zao ty9 (zg2 hA) hW fun _=>?_
     rw [zmh hi]
     refine specIsName_ok.mono ?_
     rintro _ w2 ⟨hx2,rfl⟩
     refine ⟨hx1.trans hx2,?_⟩
     unfold named
     rw [decide_eq_true (show i<L.length∧sgK L i=1 from ⟨hi,hk⟩)];rfl
   unfold named
   rw [decide_eq_false (fun h=>hk h.2)];rfl
 unfold named
 rw [decide_eq_false (fun h=>hge (by omega))];rfl
theorem zg3 (h:RdS W g L v e i left w) (hn:named L i=true) :
   CALL Tryz.prog 110 [.pointer (some ⟨g,0,none⟩)] w fun r w'=>ChgI g (g+1) w w'∧RdS W g L v e (i+1) left w'∧r=.string (sgT L i):=by
 have hi:i<L.length:=by
   unfold named at hn
   rw [Bool.and_eq_true] at hn
   exact (of_decide_eq_true hn.1).1
 refine F110_call ?_
 unfold F110
 refine (zfQ h).mono ?_
 rintro _ w1 ⟨hx1,rfl⟩
 refine zbs ?_
 rw [hn]
 refine zcM (fun h=>by cases h) (fun _=>?_)
 have h1:=h.step hx1
 have hm:=h.many
 refine NIL.mk rfl ?_
 refine zaa zcY ?_
 refine zaA ty3 h1.blk rfl ?_
 refine zah (by omega) ?_
 refine NIL.mk rfl ?_
 refine zaa zcY ?_
 refine za6 (α:=Int) (lo:=0) (hi:=0) ty3 rfl rfl h1.blk (by simp [zd1]) (zcc (by unfold I64;omega)) fun w2 hc2 hB2=>?_
 have h2:RdS W g L v e (i+1) left w2:=⟨h.is_,h1.ext.chgI hc2 h.lo,h.lo,hB2,h.many⟩
 have hx3:=zaj w2
 have h3:=h2.step hx3
 refine NIL.mk rfl ?_
 refine zaa zfG ?_
 refine zaA zl6 h3.blk rfl ?_
 refine NIL.mk rfl ?_
 refine zaa zcY ?_
 refine zaA ty3 h3.blk rfl ?_
 refine za2 (by unfold I64;omega) ?_
 rw [show ((i+1:Nat):Int)-1=(i:Int) by omega]
 refine zad zqB zk0 h.is_ hi fun b o hA=>?_
 refine zaa zjP ?_
 refine zao ty9 (zg2 hA) h3.ext fun _=>?_
 rw [zmh hi]
 exact ⟨(hx1.toI.trans hc2).trans hx3.toI,h3,rfl⟩
end
section
variable {w:World} {lo hi l0 h0 l1 h1:Nat} {K:Value→Prop}
theorem zbQ {α:Type} [Rep α] {v:Value} {l:List α} (h:OwnI lo hi w v l):∃ a cap,v=.slice a l.length cap:=by
 obtain ⟨F,⟨⟨cs,⟨a,cap,Fi,xs,rfl,_⟩,hv⟩,_⟩,_⟩:=h
 exact ⟨a,cap,by simpa [mkv,Rep.agg] using hv⟩
theorem zbc {α:Type} [Rep α]:OwnI (α:=List α) lo hi w (.slice none 0 0) []:=zct none
theorem zgn:I64 0:=by unfold I64;omega
theorem ze3:nO.size≤maxLen:=by decide
theorem zmi {a b:Int} (ha:I64 a) (hb:I64 b) (k:∀ v,OwnI lo hi w v (DTerm.mk a b nO [])→K v):RD Tryz.prog (Instr.build 78 #[(0,.int .i64 a),(1,.int .i64 b)]) w K:=
 zaH (cells:=#[.int .i64 a,.int .i64 b,.string nO,.slice none 0 0]) (by kernel_rfl) (k _ (zd6 ha hb ze3 zbc))
theorem zmj {a:Int} {s:ByteArray} (ha:I64 a) (hs:s.size≤maxLen) (k:∀ v,OwnI lo hi w v (DTerm.mk a 0 s [])→K v):RD Tryz.prog (Instr.build 78 #[(0,.int .i64 a),(2,.string s)]) w K:=
 zaH (cells:=#[.int .i64 a,.int .i64 0,.string s,.slice none 0 0]) (by kernel_rfl) (k _ (zd6 ha zgn hs zbc))
theorem zio {a:Int} {u:Value} {l:List DTerm} (ha:I64 a) (hu:OwnI lo hi w u l) (k:∀ v,OwnI lo hi w v (DTerm.mk a 0 nO l)→K v):RD Tryz.prog (Instr.build 78 #[(0,.int .i64 a),(3,u)]) w K:=by
 obtain ⟨p,q,rfl⟩:=zbQ hu
 exact zaH (cells:=#[.int .i64 a,.int .i64 0,.string nO,.slice p l.length q]) (by kernel_rfl) (k _ (zd6 ha zgn ze3 hu))
theorem zdt:OwnI lo hi w (.agg #[.int .i64 0,.int .i64 0,.string nO,.slice none 0 0]) term0:=zd6 zgn zgn ze3 zbc
theorem mkS {k:Int} {s:ByteArray} {t:DTerm} {c0 c1 c2 c3 vb ve:Value} {bs es:List DStmt} {l0 h0 l1 h1 l2 h2:Nat} (hk:I64 k) (hs:s.size≤maxLen) (ht:OwnI l0 h0 w (.agg #[c0,c1,c2,c3]) t) (hb:OwnI l1 h1 w vb bs) (he:OwnI l2 h2 w ve es)
   (d01:h0≤l1∨h1≤l0) (d02:h0≤l2∨h2≤l0) (d12:h1≤l2∨h2≤l1) (b0:lo≤l0∧h0≤hi) (b1:lo≤l1∧h1≤hi) (b2:lo≤l2∧h2≤hi) :
   OwnI lo hi w (.agg #[.int .i64 k,.string s,c0,c1,c2,c3,vb,ve]) (DStmt.mk k s t bs es):=zoZ hk hs ht hb he d01 d02 d12 b0 b1 b2
theorem zjj {a:Int} (hl:lo≤hi) (ha:I64 a) (k:∀ v,OwnI lo hi w v (DStmt.mk a nO term0 [] [])→K v):RD Tryz.prog (Instr.build 81 #[(0,.int .i64 a)]) w K:=
 zaH (cells:=#[.int .i64 a,.string nO,.int .i64 0,.int .i64 0,.string nO,.slice none 0 0,.slice none 0 0,.slice none 0 0]) (by kernel_rfl)
   (k _ (mkS (l0:=lo) (h0:=lo) (l1:=lo) (h1:=lo) (l2:=lo) (h2:=lo) ha ze3 zdt zbc zbc (by omega) (by omega) (by omega) (by omega) (by omega) (by omega)))
theorem zci {a:Int} {s:ByteArray} (hl:lo≤hi) (ha:I64 a) (hs:s.size≤maxLen) (k:∀ v,OwnI lo hi w v (DStmt.mk a s term0 [] [])→K v):RD Tryz.prog (Instr.build 81 #[(0,.int .i64 a),(1,.string s)]) w K:=
 zaH (cells:=#[.int .i64 a,.string s,.int .i64 0,.int .i64 0,.string nO,.slice none 0 0,.slice none 0 0,.slice none 0 0]) (by kernel_rfl)
   (k _ (mkS (l0:=lo) (h0:=lo) (l1:=lo) (h1:=lo) (l2:=lo) (h2:=lo) ha hs zdt zbc zbc (by omega) (by omega) (by omega) (by omega) (by omega) (by omega)))
theorem zk8 {a:Int} {s:ByteArray} {u:Value} {t:DTerm} (hl:lo≤hi) (ha:I64 a) (hs:s.size≤maxLen) (hu:OwnI lo hi w u t) (k:∀ v,OwnI lo hi w v (DStmt.mk a s t [] [])→K v):RD Tryz.prog (Instr.build 81 #[(0,.int .i64 a),(1,.string s),(2,u)]) w K:=by
 obtain ⟨p,q,rfl⟩:=zfm hu.is
 exact zaH (cells:=#[.int .i64 a,.string s,.int .i64 t.kind,.int .i64 t.num,.string t.name,.slice p t.kids.length q,.slice none 0 0,.slice none 0 0]) (by kernel_rfl)
   (k _ (mkS (l1:=lo) (h1:=lo) (l2:=lo) (h2:=lo) ha hs hu zbc zbc (by omega) (by omega) (by omega) (by omega) (by omega) (by omega)))
theorem zht {a:Int} {u v1:Value} {t:DTerm} {bs:List DStmt} (ha:I64 a) (hu:OwnI l0 h0 w u t) (hv:OwnI l1 h1 w v1 bs) (d:h0≤l1∨h1≤l0) (b0:lo≤l0∧h0≤hi) (b1:lo≤l1∧h1≤hi) (hl:lo≤hi)
   (k:∀ v,OwnI lo hi w v (DStmt.mk a nO t bs [])→K v):RD Tryz.prog (Instr.build 81 #[(0,.int .i64 a),(2,u),(3,v1)]) w K:=by
 obtain ⟨p,q,rfl⟩:=zfm hu.is
 obtain ⟨p2,q2,rfl⟩:=zbQ hv
 refine zaH (cells:=#[.int .i64 a,.string nO,.int .i64 t.kind,.int .i64 t.num,.string t.name,.slice p t.kids.length q,.slice p2 bs.length q2,.slice none 0 0]) (by kernel_rfl) (k _ ?_)
 rcases d with d | d
 · exact mkS (l2:=min lo l0) (h2:=min lo l0) ha ze3 hu hv zbc (.inl d) (by omega) (by omega) b0 b1 (by omega)
 exact mkS (l2:=min lo l0) (h2:=min lo l0) ha ze3 hu hv zbc (.inr d) (by omega) (by omega) b0 b1 (by omega)
end
section
variable {bs:List UInt8} {n:Nat} {s:Cur}
theorem zk9 (h:zdD bs n s<3):zap bs n s=(.mk 1 (zgW bs zr5 (zak bs 12 s)) nO [],zak bs 8 (zak bs 12 s)):=by
 cases n with
 | zero=>rw [zap,if_pos h]
 | succ n=>rw [zap,if_pos h]
theorem zla (h:¬zdD bs n s<3) (h2:zdD bs n s<6):zap bs n s=(.mk 2 0 (zca bs zoB (zak bs 12 s)) [],zak bs 5 (zak bs 12 s)):=by
 cases n with
 | zero=>rw [zap,if_neg h]
 | succ n=>rw [zap,if_neg h,if_pos h2]
theorem zdS (h2:¬zdD bs n s<6):0<n:=by
 cases n with
 | zero=>have:=zr6 bs s;omega
 | succ n=>omega
theorem zlb (h:¬zdD bs n s<3) (h2:¬zdD bs n s<6) (h3:zdD bs n s=6):zap bs n s=(.mk 8 0 nO [(zap bs (n-1) (zak bs 12 s)).1],(zap bs (n-1) (zak bs 12 s)).2):=by
 have:=zdS h2
 obtain ⟨m,rfl⟩:∃ m,n=m+1:=⟨n-1,by omega⟩
 rw [zap,if_neg h,if_neg h2,if_pos h3];rfl
theorem zlc (h:¬zdD bs n s<3) (h2:¬zdD bs n s<6) (h3:¬zdD bs n s=6):zap bs n s=(.mk (zgW bs opL (zak bs 12 s)) 0 nO [(zap bs (n-1) (zak bs 6 (zak bs 12 s))).1,(zap bs (n-1) (zap bs (n-1) (zak bs 6 (zak bs 12 s))).2).1],
     (zap bs (n-1) (zap bs (n-1) (zak bs 6 (zak bs 12 s))).2).2):=by
 have:=zdS h2
 obtain ⟨m,rfl⟩:∃ m,n=m+1:=⟨n-1,by omega⟩
 rw [zap,if_neg h,if_neg h2,if_neg h3];rfl
end
def zru (n:Nat):Prop:=∀ {W w:World} {g:Nat} {bs:List UInt8} {s:Cur} {d:Int},CurAt W g bs s w→d=(n:Int) →
 CALL Tryz.prog 104 [.pointer (some ⟨g,0,none⟩),.int .i64 d] w fun r w'=>ChgI g (g+1) w w'∧CurAt W g bs (zap bs n s).2 w'∧OwnI w.heap.size w'.heap.size w' r (zap bs n s).1
def F104 (a0 a1:Value) (w:World) (R:VW):Prop:=
 oP (Instr.alloc 78 true (.tuple #[])) w fun x4 w=>
 cL 59 [a0,(iV 12)] w fun x7 w=>
 JOIN [5] (fun J4=>
 rB .leq 3 T0 U0 a1 (iV 0) w fun x9=>
 BR x9
 (rB .geq 3 T0 U0 x7 (iV 6) w fun x12=>
 BR x12
 (rB .sub 3 T0 U0 x7 (iV 6) w fun x15=>
 J4 [x15] w)
 (J4 [x7] w))
 (J4 [x7] w)) (fun u4 w=>
 rB .lss 3 T0 U0 (u4 5) (iV 3) w fun x18=>
 BR x18
 (oP (Instr.buildSlice 25 8 #[(0,(iV 0)),(1,(iV 1)),(2,(iV 2)),(3,(iV 3)),(4,(iV 7)),(5,(iV 999)),(6,(iV 1000)),(7,(iV 1000000000))]) w fun x20 w=>
 cL 182 [a0,x20] w fun x21 w=>
 rD (Instr.build 78 #[(0,(iV 1)),(1,x21)]) w fun x22=>
 oS 78 x4 x22 w fun w=>
 rD (zar 78 x4) w fun r4=>R r4 w)
 (rB .lss 3 T0 U0 (u4 5) (iV 6) w fun x25=>
 BR x25
 (oP (Instr.buildSlice 24 5 #[(0,(Value.string (ByteArray.mk #[120]))),(1,(Value.string (ByteArray.mk #[121]))),(2,(Value.string (ByteArray.mk #[122]))),(3,(Value.string (ByteArray.mk #[120]))),(4,(Value.string (ByteArray.mk #[117])))]) w fun x27 w=>
 cL 54 [a0,x27] w fun x28 w=>
 rD (Instr.build 78 #[(0,(iV 2)),(2,x28)]) w fun x29=>
 oS 78 x4 x29 w fun w=>
 rD (zar 78 x4) w fun r4=>R r4 w)
 (rB .eql 3 T0 U0 (u4 5) (iV 6) w fun x32=>
 BR x32
 (rB .sub 3 T0 U0 a1 (iV 1) w fun x35=>
 cL 104 [a0,x35] w fun x36 w=>
 oP (Instr.buildSlice 76 1 #[(0,x36)]) w fun x37 w=>
 rD (Instr.build 78 #[(0,(iV 8)),(3,x37)]) w fun x38=>
 oS 78 x4 x38 w fun w=>
 rD (zar 78 x4) w fun r4=>R r4 w)
 (oP (Instr.buildSlice 25 6 #[(0,(iV 3)),(1,(iV 4)),(2,(iV 5)),(3,(iV 6)),(4,(iV 7)),(5,(iV 9))]) w fun x40 w=>
 cL 182 [a0,x40] w fun x41 w=>
 rB .sub 3 T0 U0 a1 (iV 1) w fun x44=>
 cL 104 [a0,x44] w fun x45 w=>
 rB .sub 3 T0 U0 a1 (iV 1) w fun x48=>
 cL 104 [a0,x48] w fun x49 w=>
 oP (Instr.buildSlice 76 2 #[(0,x45),(1,x49)]) w fun x50 w=>
 rD (Instr.build 78 #[(0,x41),(3,x50)]) w fun x51=>
 oS 78 x4 x51 w fun w=>
 rD (zar 78 x4) w fun r4=>R r4 w))))
def cfg104:Cfg:=⟨extL,[(4,65312,[5])],[],[],[],[],[]⟩
theorem F104_call {a0 a1:Value} {w:World} {R:VW} (h:F104 a0 a1 w R):cL 104 [a0,a1] w R:=co (g:=cfg104) Tryz.func104 (by kernel_rfl) (by kernel_rfl) (by kernel_rfl) h
theorem zld {w:World} {W:World} {g:Nat} {bs:List UInt8} {s:Cur} {d:Int} {n:Nat} (hC:CurAt W g bs s w) (hd:d=(n:Int)) (ih:∀ m,m+1=n→zru m) (hn:n≤10) :
   CALL Tryz.prog 104 [.pointer (some ⟨g,0,none⟩),.int .i64 d] w fun r w'=>ChgI g (g+1) w w'∧(CurAt W g bs (zap bs n s).2 w'∧OwnI w.heap.size w'.heap.size w' r (zap bs n s).1):=by
 refine F104_call ?_
 unfold F104
 have hgl:=hC.lt
 have hb12:=zbp bs (n:=12) (by omega) s
 refine zdz (α:=DTerm) zsX fun w1_ hx1_ hv4=>?_
 have hg4:=hv4.lt
 have hs_hx1_:=hx1_.size
 refine (zbm (CurAt.ext hC hx1_) (by omega)).mono ?_
 rintro _ w2_ ⟨hc2_,hC2_,rfl⟩
 have hs_hc2_:=hc2_.size
 have hs_hc2_:=hc2_.size
 have hv4_c2:=(hv4.ext (Ext.refl w1_)).chg hc2_ (by omega) (by omega)
 refine JOIN.mk (fun us w'=>us=[.int .i64 (zdD bs n s)]∧Ext w2_ w'∧(True)) ?_ ?_
 · refine zcO ?_
   refine br (fun c1=>?_) (fun c1=>?_)
   · refine zb1 ?_
     refine br (fun c2=>?_) (fun c2=>?_)
     · refine za2 (by unfold I64;omega) ?_
       refine ⟨by unfold zdD;rw [if_pos (by omega)],Ext.refl w2_,?_⟩
       trivial
     refine ⟨by unfold zdD;rw [if_neg (by omega)],Ext.refl w2_,?_⟩
     trivial
   refine ⟨by unfold zdD;rw [if_neg (by omega)],Ext.refl w2_,?_⟩
   trivial
 rintro uj4 w3_ ⟨hu,hx3_,_⟩
 have hs_hx3_:=hx3_.size
 simp only [List.map_cons,List.map_nil,List.cons.injEq,and_true] at hu
 try rw [hu]
 try clear hu
 refine zai ?_
 refine br (fun c3=>?_) (fun c3=>?_)
 · refine zdR (vs:=([0,1,2,3,7,999,1000,1000000000]:List Int).map (Value.int .i64)) u25 ty3 zsc (by decide) (by kernel_rfl) rfl (fun w=>zfp (by simp [I64])) fun v20 w4_ hx4_ o20=>?_
   have hs_hx4_:=hx4_.size
   refine (zgm (CurAt.ext (CurAt.ext hC2_ hx3_) hx4_) (o20.ext (Ext.refl w4_)) (by omega) (by omega) (by omega) (by decide) (by decide)).mono ?_
   rintro _ w5_ ⟨hc5_,hC5_,rfl,hI21⟩
   have hs_hc5_:=hc5_.size
   have hs_hc5_:=hc5_.size
   have hv4_c5:=(hv4_c2.ext (hx3_.trans hx4_)).chg hc5_ (by omega) (by omega)
   have o20_c5:=(o20.ext (Ext.refl w4_)).chg hc5_ (by omega)
   refine zmi (lo:=w5_.heap.size) (hi:=w5_.heap.size) (by first | assumption | (unfold I64;omega)) (by first | assumption | (unfold I64;omega)) fun v22 o22=>?_
   refine za9 zcs (hv4_c5.ext (Ext.refl w5_)) (o22.ext (Ext.refl w5_)) (by omega) fun w6_ hc6_ hv4_s6=>?_
   have hs_hc6_:=hc6_.size
   have o20_c6:=(o20_c5.ext (Ext.refl w5_)).chg hc6_ (by omega)
   have o22_c6:=(o22.ext (Ext.refl w5_)).chg hc6_ (by omega)
   refine zbX zcs hv4_s6 (Ext.refl w6_) fun r4 hr4=>?_
   replace hr4:=hr4.ext (Ext.refl w6_)
   refine ⟨(ChgI.out (ChgI.trans (ChgI.trans (ChgI.trans (ChgI.trans (Ext.toI hx1_) hc2_) (Ext.toI hx3_)) (Ext.toI hx4_)) hc5_) hc6_ (by omega)),?_⟩
   rw [zk9 (by omega)]
   exact ⟨(CurAt.chg hC5_ hc6_ (by omega) (by omega)),hr4.mono (by omega) (by omega)⟩
 refine zai ?_
 refine br (fun c4=>?_) (fun c4=>?_)
 · refine zdR (vs:=([ByteArray.mk #[120],ByteArray.mk #[121],ByteArray.mk #[122],ByteArray.mk #[120],ByteArray.mk #[117]]:List ByteArray).map Value.string) u24 ty9 zby (by decide) (by kernel_rfl) rfl (fun w=>zbF (by decide)) fun v27 w7_ hx7_ o27=>?_
   have hs_hx7_:=hx7_.size
   refine (zcn (CurAt.ext (CurAt.ext hC2_ hx3_) hx7_) (o27.ext (Ext.refl w7_)) (by omega) (by omega) (by omega) (by decide) (by decide)).mono ?_
   rintro _ w8_ ⟨hc8_,hC8_,rfl,hS28⟩
   have hs_hc8_:=hc8_.size
   have hs_hc8_:=hc8_.size
   have hv4_c8:=(hv4_c2.ext (hx3_.trans hx7_)).chg hc8_ (by omega) (by omega)
   have o27_c8:=(o27.ext (Ext.refl w7_)).chg hc8_ (by omega)
   refine zmj (lo:=w8_.heap.size) (hi:=w8_.heap.size) (by first | assumption | (unfold I64;omega)) (by first | assumption | decide) fun v29 o29=>?_
   refine za9 zcs (hv4_c8.ext (Ext.refl w8_)) (o29.ext (Ext.refl w8_)) (by omega) fun w9_ hc9_ hv4_s9=>?_
   have hs_hc9_:=hc9_.size
   have o27_c9:=(o27_c8.ext (Ext.refl w8_)).chg hc9_ (by omega)
   have o29_c9:=(o29.ext (Ext.refl w8_)).chg hc9_ (by omega)
   refine zbX zcs hv4_s9 (Ext.refl w9_) fun r4 hr4=>?_
   replace hr4:=hr4.ext (Ext.refl w9_)
   refine ⟨(ChgI.out (ChgI.trans (ChgI.trans (ChgI.trans (ChgI.trans (Ext.toI hx1_) hc2_) (Ext.toI hx3_)) (Ext.toI hx7_)) hc8_) hc9_ (by omega)),?_⟩
   rw [zla (by omega) (by omega)]
   exact ⟨(CurAt.chg hC8_ hc9_ (by omega) (by omega)),hr4.mono (by omega) (by omega)⟩
 refine zag ?_
 refine br (fun c5=>?_) (fun c5=>?_)
 · refine za2 (by unfold I64;omega) ?_
   have hnp:=zdS (show ¬zdD bs n s<6 by omega)
   refine (ih (n-1) (by omega) (CurAt.ext hC2_ hx3_) (by omega)).mono ?_
   rintro r36 w10_ ⟨hc10_,hC10_,o36⟩
   have hs_hc10_:=hc10_.size
   have hs_hc10_:=hc10_.size
   have hv4_c10:=(hv4_c2.ext hx3_).chg hc10_ (by omega) (by omega)
   refine zgO (α:=DTerm) u76 zcs z78 (by decide) (o36.ext (Ext.refl w10_)) (by omega) fun v37 w11_ hx11_ o37=>?_
   have hs_hx11_:=hx11_.size
   refine zio (lo:=w3_.heap.size) (hi:=w11_.heap.size) (by first | assumption | (unfold I64;omega)) (o37.ext (Ext.refl w11_)) fun v38 o38=>?_
   refine za9 zcs (hv4_c10.ext hx11_) (o38.ext (Ext.refl w11_)) (by omega) fun w12_ hc12_ hv4_s12=>?_
   have hs_hc12_:=hc12_.size
   have o36_c12:=(o36.ext hx11_).chg hc12_ (by omega)
   have o37_c12:=(o37.ext (Ext.refl w11_)).chg hc12_ (by omega)
   have o38_c12:=(o38.ext (Ext.refl w11_)).chg hc12_ (by omega)
   refine zbX zcs hv4_s12 (Ext.refl w12_) fun r4 hr4=>?_
   replace hr4:=hr4.ext (Ext.refl w12_)
   refine ⟨(ChgI.out (ChgI.trans (ChgI.trans (ChgI.trans (ChgI.trans (Ext.toI hx1_) hc2_) (Ext.toI hx3_)) hc10_) (Ext.toI hx11_)) hc12_ (by omega)),?_⟩
   rw [zlb (by omega) (by omega) (by omega)]
   exact ⟨(CurAt.chg (CurAt.ext hC10_ hx11_) hc12_ (by omega) (by omega)),hr4.mono (by omega) (by omega)⟩
 refine zdR (vs:=([3,4,5,6,7,9]:List Int).map (Value.int .i64)) u25 ty3 zsc (by decide) (by kernel_rfl) rfl (fun w=>zfp (by simp [I64])) fun v40 w13_ hx13_ o40=>?_
 have hs_hx13_:=hx13_.size
 refine (zgm (CurAt.ext (CurAt.ext hC2_ hx3_) hx13_) (o40.ext (Ext.refl w13_)) (by omega) (by omega) (by omega) (by decide) (by decide)).mono ?_
 rintro _ w14_ ⟨hc14_,hC14_,rfl,hI41⟩
 have hs_hc14_:=hc14_.size
 have hs_hc14_:=hc14_.size
 have hv4_c14:=(hv4_c2.ext (hx3_.trans hx13_)).chg hc14_ (by omega) (by omega)
 have o40_c14:=(o40.ext (Ext.refl w13_)).chg hc14_ (by omega)
 refine za2 (by unfold I64;omega) ?_
 have hnp:=zdS (show ¬zdD bs n s<6 by omega)
 refine (ih (n-1) (by omega) hC14_ (by omega)).mono ?_
 rintro r45 w15_ ⟨hc15_,hC15_,o45⟩
 have hs_hc15_:=hc15_.size
 have hs_hc15_:=hc15_.size
 have hv4_c15:=(hv4_c14.ext (Ext.refl w14_)).chg hc15_ (by omega) (by omega)
 have o40_c15:=(o40_c14.ext (Ext.refl w14_)).chg hc15_ (by omega)
 refine za2 (by unfold I64;omega) ?_
 refine (ih (n-1) (by omega) hC15_ (by omega)).mono ?_
 rintro r49 w16_ ⟨hc16_,hC16_,o49⟩
 have hs_hc16_:=hc16_.size
 have hs_hc16_:=hc16_.size
 have hv4_c16:=(hv4_c15.ext (Ext.refl w15_)).chg hc16_ (by omega) (by omega)
 have o40_c16:=(o40_c15.ext (Ext.refl w15_)).chg hc16_ (by omega)
 have o45_c16:=(o45.ext (Ext.refl w15_)).chg hc16_ (by omega)
 refine zn7 (α:=DTerm) (lo:=w14_.heap.size) u76 zcs z78 (by decide) (o45_c16.ext (Ext.refl w16_)) (o49.ext (Ext.refl w16_)) (by omega) (by omega) fun v50 w17_ hx17_ o50=>?_
 have hs_hx17_:=hx17_.size
 refine zio (lo:=w14_.heap.size) (hi:=w17_.heap.size) (by first | assumption | (unfold I64;omega)) (o50.ext (Ext.refl w17_)) fun v51 o51=>?_
 refine za9 zcs (hv4_c16.ext hx17_) (o51.ext (Ext.refl w17_)) (by omega) fun w18_ hc18_ hv4_s18=>?_
 have hs_hc18_:=hc18_.size
 have o40_c18:=(o40_c16.ext hx17_).chg hc18_ (by omega)
 have o45_c18:=(o45_c16.ext hx17_).chg hc18_ (by omega)
 have o49_c18:=(o49.ext hx17_).chg hc18_ (by omega)
 have o50_c18:=(o50.ext (Ext.refl w17_)).chg hc18_ (by omega)
 have o51_c18:=(o51.ext (Ext.refl w17_)).chg hc18_ (by omega)
 refine zbX zcs hv4_s18 (Ext.refl w18_) fun r4 hr4=>?_
 replace hr4:=hr4.ext (Ext.refl w18_)
 refine ⟨(ChgI.out (ChgI.trans (ChgI.trans (ChgI.trans (ChgI.trans (ChgI.trans (ChgI.trans (ChgI.trans (Ext.toI hx1_) hc2_) (Ext.toI hx3_)) (Ext.toI hx13_)) hc14_) hc15_) hc16_) (Ext.toI hx17_)) hc18_ (by omega)),?_⟩
 rw [zlc (by omega) (by omega) (by omega)]
 exact ⟨(CurAt.chg (CurAt.ext hC16_ hx17_) hc18_ (by omega) (by omega)),hr4.mono (by omega) (by omega)⟩
theorem zfq:∀ (n:Nat),n≤10→zru n
 | n,hn=>by
   intro h hd
   exact zld h hd (fun m hm=>zfq m (by omega)) hn
end Go.Proofs.YtdmailcgaekimaaGreat
