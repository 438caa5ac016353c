/-
  Parts of the proof, put together by program.
-/
import Derived.Test.YtcnglfeoglgebaaGreatPFnSerial2
set_option linter.unusedVariables false
set_option linter.unusedSimpArgs false
set_option linter.unusedSectionVars false
namespace Go.Proofs.YtcnglfeoglgebaaGreat
open Go Go.Sh Go.Proofs
open Rep (rep)
def zwq:DIns:=⟨0,0,term0,0⟩
def en (c:DCode) (i:Nat):Int:=c.entry.getD i 0
def zap (c:DCode) (j:Nat):DIns:=c.ins.getD j zwq
theorem zbm {c:DCode} {i:Nat} (h:i<c.entry.length):c.entry[i]=en c i:=by unfold en;rw [List.getD_eq_getElem?_getD,List.getElem?_eq_getElem h];rfl
theorem zaP {c:DCode} {i:Nat} (h:i<c.ins.length):c.ins[i]=zap c i:=by unfold zap;rw [List.getD_eq_getElem?_getD,List.getElem?_eq_getElem h];rfl
def prc (c:DCode) (a:Int):Nat→Int
 | 0=>-1
 | n+1=>if en c n≤a then n else prc c a n
def zar (c:DCode) (a:Int):Int:=prc c a c.entry.length
theorem zh8 {c:DCode} {a:Int} {m:Nat}:∀ {n:Nat},m≤n→(∀ j,m≤j→j<n→a<en c j)→prc c a n=prc c a m
 | 0,h,_=>by rw [Nat.le_zero.1 h]
 | n+1,h,hj=>by
   by_cases e:m=n+1
   · rw [e]
   rw [prc,if_neg (by have:=hj n (by omega) (by omega);omega)]
   exact zh8 (by omega) fun j h1 h2=>hj j h1 (by omega)
theorem ztm {c:DCode} {a:Int}:∀ (n:Nat),-1≤prc c a n∧prc c a n<n
 | 0=>by simp [prc]
 | n+1=>by
   have:=ztm (c:=c) (a:=a) n
   rw [prc]
   split<;>omega
theorem zgF {c:DCode} {a:Int}:-1≤zar c a∧zar c a<c.entry.length:=ztm _
def zen (c:DCode) (p:Int):Int:=if p+1<c.entry.length then en c (p+1).toNat-1 else (c.ins.length:Int)-1
def zdl (c:DCode) (i:Nat):Int:=if i+1<c.entry.length then en c (i+1) else c.ins.length
theorem zcV (c:DCode) (i:Nat):zen c i=zdl c i-1:=by
 unfold zen zdl
 have e:((i:Int)+1).toNat=i+1:=by omega
 by_cases h:i+1<c.entry.length
 · rw [if_pos (by omega),if_pos h,e]
 rw [if_neg (by omega),if_neg h]
def F140 (a0 a1:Value) (w:World) (R:VW):Prop:=
 oP (Instr.box 36 a0) w fun x2 w=>
 rF 36 x2 3 w fun x6=>
 rL 33 x6 w fun x7=>
 rN 33 3 x7 w fun x8=>
 rB .sub 3 T0 U0 x8 (iV 1) w fun x9=>
 LOOPI [5] [x9] w fun u2 w next2=>
 rB .geq 3 T0 U0 (u2 5) (iV 0) w fun x11=>
 BR x11
 (rF 36 x2 3 w fun x14=>
 rL 33 x14 w fun x15=>
 rX 33 x15 (u2 5) w fun x17=>
 rL 3 x17 w fun x18=>
 rB .leq 3 T0 T0 x18 a1 w fun x20=>
 BR x20
 (R (u2 5) w)
 (rB .sub 3 T0 U0 (u2 5) (iV 1) w fun x13=>
 next2 [x13] w))
 (R (iV (-1)) w)
def cfg140:Cfg:=⟨extL,[],[(2,4193328,[5])],[],[],[],[]⟩
theorem F140_call {a0 a1:Value} {w:World} {R:VW} (h:F140 a0 a1 w R):cL 140 [a0,a1] w R:=co (g:=cfg140) Tryz.func140 (by kernel_rfl) (by kernel_rfl) (by kernel_rfl) h
theorem zjH {w:World} {v0:Value} {W0:World} {c:DCode} {a:Int}  (h0:Is W0 v0 c) (e0:Ext W0 w)  :
   CALL Tryz.prog 140 [v0,.int .i64 a] w fun r w'=>Ext w w'∧(r=.int .i64 (zar c a)):=by
 refine F140_call ?_
 unfold F140
 refine zaz zdW rfl h0 e0 fun w1_ hx1_ hA2 hV2=>?_
 refine zaa za5 ?_
 refine zab za1 (zan hA2) (Ext.refl w1_) fun v7 h7=>?_
 have hln8:=zah h7
 refine zae u33 h7 ?_
 refine za3 (by unfold I64;omega) ?_
 refine zaB (c.entry.length) (fun k us w'=>us=[.int .i64 ((c.entry.length:Int)-1-(k:Int))]∧Ext w1_ w'∧(∀ j,c.entry.length-k≤j→j<c.entry.length→a<en c j)) (0) (by omega) ⟨by simp,Ext.refl w1_,fun j h1 h2=>by omega⟩ ?_
 rintro k m2 uu2 w2_ hk2 ⟨hu,hx2_,hinv⟩
 simp only [List.map_cons,List.map_nil,List.cons.injEq,and_true] at hu
 try rw [hu]
 try clear hu
 have hln:=zah h7
 refine zb5 ?_
 refine br (fun c1=>?_) (fun c1=>?_)
 · refine zaa za5 ?_
   refine zab za1 (zan hA2) hx2_ fun v15 h15=>?_
   refine zav u33 ty3 h15 (by omega) (by omega) fun b17 o17 h17=>?_
   have hn17:((c.entry.length:Int)-1-(k:Int)).toNat=c.entry.length-k-1:=by omega
   simp only [hn17] at h17
   refine zac ty3 h17 hx2_ fun hI18=>?_
   refine zdD ?_
   refine br (fun c2=>?_) (fun c2=>?_)
   · refine ⟨(hx1_.trans hx2_),?_⟩
     rw [zbm] at c2
     unfold zar
     rw [zh8 (m:=c.entry.length-k) (by omega) hinv,show c.entry.length-k=(c.entry.length-k-1)+1 by omega,prc,if_pos c2]
     congr 1
     omega
   refine za3 (by unfold I64;omega) ?_
   refine ⟨m2-1,by omega,k+1,by omega,by simp;omega,hx2_,?_⟩
   intro j h1 h2
   by_cases hj:j=c.entry.length-k-1
   · subst hj
     rw [zbm] at c2
     omega
   exact hinv j (by omega) h2
 refine ⟨(hx1_.trans hx2_),?_⟩
 unfold zar
 rw [zh8 (m:=c.entry.length-k) (by omega) hinv,show c.entry.length-k=0 by omega]
 rfl
def F196 (a0 a1:Value) (w:World) (R:VW):Prop:=
 oP (Instr.box 36 a0) w fun x2 w=>
 rA a1 (iV 1) w fun x6=>
 rF 36 x2 3 w fun x7=>
 rL 33 x7 w fun x8=>
 rN 33 3 x8 w fun x9=>
 rC x6 x9 w fun x10=>
 BR x10
 (rF 36 x2 3 w fun x11=>
 rL 33 x11 w fun x12=>
 rA a1 (iV 1) w fun x14=>
 rX 33 x12 x14 w fun x15=>
 rL 3 x15 w fun x16=>
 rB .sub 3 T0 U0 x16 (iV 1) w fun x17=>
 R x17 w)
 (rF 36 x2 4 w fun x18=>
 rL 34 x18 w fun x19=>
 rN 34 3 x19 w fun x20=>
 rB .sub 3 T0 U0 x20 (iV 1) w fun x21=>
 R x21 w)
def cfg196:Cfg:=⟨extL,[],[],[],[],[],[]⟩
theorem F196_call {a0 a1:Value} {w:World} {R:VW} (h:F196 a0 a1 w R):cL 196 [a0,a1] w R:=co (g:=cfg196) Tryz.func196 (by kernel_rfl) (by kernel_rfl) (by kernel_rfl) h
theorem zlC {w:World} {v0:Value} {W0:World} {c:DCode} {p:Int}  (h0:Is W0 v0 c) (e0:Ext W0 w) (hp0:-1≤p) (hp1:p<1000000000000) (hE:∀ i,i<c.entry.length→0≤en c i) :
   CALL Tryz.prog 196 [v0,.int .i64 p] w fun r w'=>Ext w w'∧(r=.int .i64 (zen c p)):=by
 refine F196_call ?_
 unfold F196
 refine zaz zdW rfl h0 e0 fun w1_ hx1_ hA2 hV2=>?_
 refine zc4 (by unfold I64;omega) ?_
 refine zaa za5 ?_
 refine zab za1 (zan hA2) (Ext.refl w1_) fun v8 h8=>?_
 have hln9:=zah h8
 refine zae u33 h8 ?_
 refine zai ?_
 refine br (fun c1=>?_) (fun c1=>?_)
 · refine zaa za5 ?_
   refine zab za1 (zan hA2) (Ext.refl w1_) fun v12 h12=>?_
   refine zc4 (by unfold I64;omega) ?_
   refine zav u33 ty3 h12 (by omega) (by omega) fun b15 o15 h15=>?_
   refine zac ty3 h15 (Ext.refl w1_) fun hI16=>?_
   have hE1:=hE (p+1).toNat (by omega)
   rw [←zbm (by omega)] at hE1
   refine za3 (by unfold I64 at *;omega) ?_
   refine ⟨hx1_,?_⟩
   unfold zen
   rw [if_pos c1,zbm]
 refine zaa zaG ?_
 refine zab zdi (zao hA2) (Ext.refl w1_) fun v19 h19=>?_
 have hln20:=zah h19
 refine zae u34 h19 ?_
 refine za3 (by unfold I64;have:=zah h19;omega) ?_
 refine ⟨hx1_,?_⟩
 unfold zen
 rw [if_neg c1]
def zgd:ByteArray:=ByteArray.mk #[109,97,105,110]
def NamesR (c:DCode):Prop:=(decide ((c.globals.length:Int)≤6)&&c.globals.all zbb)=true∧(decide ((c.locks.length:Int)≤6)&&c.locks.all zbb)=true∧(decide ((c.procs.length:Int)≤8)&&c.procs.all zbb)=true ∧
 c.globals.Nodup∧c.locks.Nodup∧c.procs.Nodup∧zgd∈c.procs
instance (c:DCode):Decidable (NamesR c):=by unfold NamesR;infer_instance
def EntS (c:DCode):Prop:=c.entry.length=c.procs.length∧c.ins.length≤1500∧(∀ i,i<c.entry.length→(i=0→en c 0=0)∧(0<i→en c (i-1)<en c i)∧en c i<c.ins.length) ∧
 ∀ j,j<c.ins.length→((zap c j).op=9↔zen c (zar c j)=j)
instance (c:DCode):Decidable (EntS c):=by unfold EntS;infer_instance
theorem zgG {P:Nat→Prop} {k:Nat} (h:∀ i,i<k→P i) (hk:P k):∀ i,i<k+1→P i:=fun i hi=>by
 by_cases e:i=k
 · rw [e];exact hk
 exact h i (by omega)
theorem zhg {c:DCode} {n:Nat} {m:Int} (h:∀ i,i<n→(i=0→en c 0=0)∧(0<i→en c (i-1)<en c i)∧en c i<m):∀ i,i<n→0≤en c i
 | 0,hi=>by rw [(h 0 hi).1 rfl];omega
 | i+1,hi=>by
   have h1:=zhg h i (by omega)
   have h2:=(h (i+1) hi).2.1 (by omega)
   simp only [Nat.add_sub_cancel] at h2
   omega
def F124 (a0:Value) (w:World) (R:VW):Prop:=
 oP (Instr.box 36 a0) w fun x1 w=>
 rF 36 x1 0 w fun x5=>
 rL 24 x5 w fun x6=>
 cL 194 [x6,(iV 6)] w fun x7 w=>
 rD (Op.unary .not x7) w fun x8=>
 BR x8
 (R (Value.bool false) w)
 (rF 36 x1 1 w fun x10=>
 rL 24 x10 w fun x11=>
 cL 194 [x11,(iV 6)] w fun x12 w=>
 rD (Op.unary .not x12) w fun x13=>
 BR x13
 (R (Value.bool false) w)
 (rF 36 x1 2 w fun x16=>
 rL 24 x16 w fun x17=>
 cL 194 [x17,(iV 8)] w fun x18 w=>
 rD (Op.unary .not x18) w fun x19=>
 BR x19
 (R (Value.bool false) w)
 (rF 36 x1 0 w fun x22=>
 rL 24 x22 w fun x23=>
 cL 195 [x23] w fun x24 w=>
 BR x24
 (R (Value.bool false) w)
 (rF 36 x1 1 w fun x27=>
 rL 24 x27 w fun x28=>
 cL 195 [x28] w fun x29 w=>
 BR x29
 (R (Value.bool false) w)
 (rF 36 x1 2 w fun x32=>
 rL 24 x32 w fun x33=>
 cL 195 [x33] w fun x34 w=>
 BR x34
 (R (Value.bool false) w)
 (rF 36 x1 3 w fun x37=>
 rL 33 x37 w fun x38=>
 rN 33 3 x38 w fun x39=>
 rF 36 x1 2 w fun x40=>
 rL 24 x40 w fun x41=>
 rN 24 3 x41 w fun x42=>
 rB .neq 3 T0 T0 x39 x42 w fun x43=>
 BR x43
 (R (Value.bool false) w)
 (rF 36 x1 4 w fun x46=>
 rL 34 x46 w fun x47=>
 rN 34 3 x47 w fun x48=>
 rB .gtr 3 T0 U0 x48 (iV 1500) w fun x49=>
 BR x49
 (R (Value.bool false) w)
 (rF 36 x1 2 w fun x52=>
 rL 24 x52 w fun x53=>
 cL 193 [x53,(Value.string (ByteArray.mk #[109,97,105,110]))] w fun x54 w=>
 rB .lss 3 T0 U0 x54 (iV 0) w fun x55=>
 BR x55
 (R (Value.bool false) w)
 (LOOPI [3] [(iV 0)] w fun u4 w next4=>
 rF 36 x1 3 w fun x58=>
 rL 33 x58 w fun x59=>
 rN 33 3 x59 w fun x60=>
 rC (u4 3) x60 w fun x61=>
 BR x61
 ((fun w=>rB .eql 3 T0 U0 (u4 3) (iV 0) w fun x65=>
 BR x65
 (rF 36 x1 3 w fun x67=>
 rL 33 x67 w fun x68=>
 rX 33 x68 (iV 0) w fun x69=>
 rL 3 x69 w fun x70=>
 rB .neq 3 T0 U0 x70 (iV 0) w fun x71=>
 BR x71
 (R (Value.bool false) w)
 (rB .gtr 3 T0 U0 (u4 3) (iV 0) w fun x75=>
 GBR x75
 (rF 36 x1 3 w fun x77=>
 rL 33 x77 w fun x78=>
 rX 33 x78 (u4 3) w fun x80=>
 rL 3 x80 w fun x81=>
 rF 36 x1 3 w fun x82=>
 rL 33 x82 w fun x83=>
 rB .sub 3 T0 U0 (u4 3) (iV 1) w fun x85=>
 rX 33 x83 x85 w fun x86=>
 rL 3 x86 w fun x87=>
 rB .leq 3 T0 T0 x81 x87 w fun x88=>
 BR x88
 (R (Value.bool false) w)
 (rF 36 x1 3 w fun x92=>
 rL 33 x92 w fun x93=>
 rX 33 x93 (u4 3) w fun x95=>
 rL 3 x95 w fun x96=>
 rF 36 x1 4 w fun x97=>
 rL 34 x97 w fun x98=>
 rN 34 3 x98 w fun x99=>
 rB .geq 3 T0 T0 x96 x99 w fun x100=>
 BR x100
 (R (Value.bool false) w)
 (rA (u4 3) (iV 1) w fun x63=>
 next4 [x63] w)))
 (rF 36 x1 3 w fun x92=>
 rL 33 x92 w fun x93=>
 rX 33 x93 (u4 3) w fun x95=>
 rL 3 x95 w fun x96=>
 rF 36 x1 4 w fun x97=>
 rL 34 x97 w fun x98=>
 rN 34 3 x98 w fun x99=>
 rB .geq 3 T0 T0 x96 x99 w fun x100=>
 BR x100
 (R (Value.bool false) w)
 (rA (u4 3) (iV 1) w fun x63=>
 next4 [x63] w))
 (BR undef
 (BR undef
 (R (Value.bool false) w)
 (rF 36 x1 3 w fun x92=>
 rL 33 x92 w fun x93=>
 rX 33 x93 (u4 3) w fun x95=>
 rL 3 x95 w fun x96=>
 rF 36 x1 4 w fun x97=>
 rL 34 x97 w fun x98=>
 rN 34 3 x98 w fun x99=>
 rB .geq 3 T0 T0 x96 x99 w fun x100=>
 BR x100
 (R (Value.bool false) w)
 (rA (u4 3) (iV 1) w fun x63=>
 next4 [x63] w)))
 (rF 36 x1 3 w fun x92=>
 rL 33 x92 w fun x93=>
 rX 33 x93 (u4 3) w fun x95=>
 rL 3 x95 w fun x96=>
 rF 36 x1 4 w fun x97=>
 rL 34 x97 w fun x98=>
 rN 34 3 x98 w fun x99=>
 rB .geq 3 T0 T0 x96 x99 w fun x100=>
 BR x100
 (R (Value.bool false) w)
 (rA (u4 3) (iV 1) w fun x63=>
 next4 [x63] w)))))
 (rB .gtr 3 T0 U0 (u4 3) (iV 0) w fun x75=>
 GBR x75
 (rF 36 x1 3 w fun x77=>
 rL 33 x77 w fun x78=>
 rX 33 x78 (u4 3) w fun x80=>
 rL 3 x80 w fun x81=>
 rF 36 x1 3 w fun x82=>
 rL 33 x82 w fun x83=>
 rB .sub 3 T0 U0 (u4 3) (iV 1) w fun x85=>
 rX 33 x83 x85 w fun x86=>
 rL 3 x86 w fun x87=>
 rB .leq 3 T0 T0 x81 x87 w fun x88=>
 BR x88
 (R (Value.bool false) w)
 (rF 36 x1 3 w fun x92=>
 rL 33 x92 w fun x93=>
 rX 33 x93 (u4 3) w fun x95=>
 rL 3 x95 w fun x96=>
 rF 36 x1 4 w fun x97=>
 rL 34 x97 w fun x98=>
 rN 34 3 x98 w fun x99=>
 rB .geq 3 T0 T0 x96 x99 w fun x100=>
 BR x100
 (R (Value.bool false) w)
 (rA (u4 3) (iV 1) w fun x63=>
 next4 [x63] w)))
 (rF 36 x1 3 w fun x92=>
 rL 33 x92 w fun x93=>
 rX 33 x93 (u4 3) w fun x95=>
 rL 3 x95 w fun x96=>
 rF 36 x1 4 w fun x97=>
 rL 34 x97 w fun x98=>
 rN 34 3 x98 w fun x99=>
 rB .geq 3 T0 T0 x96 x99 w fun x100=>
 BR x100
 (R (Value.bool false) w)
 (rA (u4 3) (iV 1) w fun x63=>
 next4 [x63] w))
 (BR undef
 (BR undef
 (R (Value.bool false) w)
 (rF 36 x1 3 w fun x92=>
 rL 33 x92 w fun x93=>
 rX 33 x93 (u4 3) w fun x95=>
 rL 3 x95 w fun x96=>
 rF 36 x1 4 w fun x97=>
 rL 34 x97 w fun x98=>
 rN 34 3 x98 w fun x99=>
 rB .geq 3 T0 T0 x96 x99 w fun x100=>
 BR x100
 (R (Value.bool false) w)
 (rA (u4 3) (iV 1) w fun x63=>
 next4 [x63] w)))
 (rF 36 x1 3 w fun x92=>
 rL 33 x92 w fun x93=>
 rX 33 x93 (u4 3) w fun x95=>
 rL 3 x95 w fun x96=>
 rF 36 x1 4 w fun x97=>
 rL 34 x97 w fun x98=>
 rN 34 3 x98 w fun x99=>
 rB .geq 3 T0 T0 x96 x99 w fun x100=>
 BR x100
 (R (Value.bool false) w)
 (rA (u4 3) (iV 1) w fun x63=>
 next4 [x63] w))))) (World.drew1 w))
 (LOOPI [4] [(iV 0)] w fun u9 w next9=>
 rF 36 x1 4 w fun x103=>
 rL 34 x103 w fun x104=>
 rN 34 3 x104 w fun x105=>
 rC (u9 4) x105 w fun x106=>
 BR x106
 ((fun w=>rF 36 x1 4 w fun x109=>
 rL 34 x109 w fun x110=>
 rX 34 x110 (u9 4) w fun x112=>
 rF 84 x112 0 w fun x113=>
 rL 3 x113 w fun x114=>
 rB .eql 3 T0 U0 x114 (iV 9) w fun x115=>
 rL 36 x1 w fun x116=>
 rL 36 x1 w fun x117=>
 (fun w_=>cL 140 [x117,(u9 4)] w_ fun x119 w=>
 Ext w_ w ∧
 (fun w_=>cL 196 [x116,x119] w_ fun x120 w=>
 Ext w_ w ∧
 rB .eql 3 T0 T0 x120 (u9 4) w fun x122=>
 rB .neq 4 T0 T0 x115 x122 w fun x123=>
 BR x123
 (R (Value.bool false) w)
 (rA (u9 4) (iV 1) w fun x108=>
 next9 [x108] w)) w) w) (World.drew1 w))
 (R (Value.bool true) w)))))))))))
def cfg124:Cfg:=⟨extL,[],[(4,5070602400912773490798736965644,[3]),(9,21267642861956253053543306977672691732,[4])],[(6,[0,1,2,3,4,5,6,7,8,9,10,11,12,13,14,15,16,17,18,19,20,21,22,23,24,25,26,27,28,29,30,31,32,33,34,35,36,37],0),(11,[0,1,2,3,4,5,6,7,8,9,12,10,11,13,14],3072)],[],[],[]⟩
theorem F124_call {a0:Value} {w:World} {R:VW} (h:F124 a0 w R):cL 124 [a0] w R:=co (g:=cfg124) Tryz.func124 (by kernel_rfl) (by kernel_rfl) (by kernel_rfl) h
theorem zm1 {w:World} {v0:Value} {W0:World} {c:DCode}  (h0:Is W0 v0 c) (e0:Ext W0 w)  :
   CALL Tryz.prog 124 [v0] w fun r w'=>Ext w w'∧(r=.bool (decide (NamesR c∧EntS c))):=by
 refine F124_call ?_
 unfold F124
 refine zaz zdW rfl h0 e0 fun w1_ hx1_ hA1 hV1=>?_
 refine zaa zc5 ?_
 refine zab zcQ (za9 hA1) (Ext.refl w1_) fun v6 h6=>?_
 refine (zgb h6 (Ext.refl w1_)).mono ?_
 rintro _ w2_ ⟨hx2_,rfl⟩
 refine zaU ?_
 refine zb4 (fun c1=>?_) (fun c1=>?_)
 · refine ⟨(hx1_.trans hx2_),?_⟩
   have:¬(NamesR c∧EntS c):=fun h=>by rw [h.1.1] at c1;cases c1
   simp only [this,decide_false]
 refine zaa ze5 ?_
 refine zab zcQ (zca hA1) hx2_ fun v11 h11=>?_
 refine (zgb h11 hx2_).mono ?_
 rintro _ w3_ ⟨hx3_,rfl⟩
 refine zaU ?_
 refine zb4 (fun c2=>?_) (fun c2=>?_)
 · refine ⟨(hx1_.trans (hx2_.trans hx3_)),?_⟩
   have:¬(NamesR c∧EntS c):=fun h=>by rw [h.1.2.1] at c2;cases c2
   simp only [this,decide_false]
 refine zaa zcC ?_
 refine zab zcQ (zaW hA1) (hx2_.trans hx3_) fun v17 h17=>?_
 refine (zgb h17 (hx2_.trans hx3_)).mono ?_
 rintro _ w4_ ⟨hx4_,rfl⟩
 refine zaU ?_
 refine zb4 (fun c3=>?_) (fun c3=>?_)
 · refine ⟨(hx1_.trans (hx2_.trans (hx3_.trans hx4_))),?_⟩
   have:¬(NamesR c∧EntS c):=fun h=>by rw [h.1.2.2.1] at c3;cases c3
   simp only [this,decide_false]
 refine zaa zc5 ?_
 refine zab zcQ (za9 hA1) (hx2_.trans (hx3_.trans hx4_)) fun v23 h23=>?_
 refine (zgc h23 (hx2_.trans (hx3_.trans hx4_))).mono ?_
 rintro _ w5_ ⟨hx5_,rfl⟩
 refine br (fun c4=>?_) (fun c4=>?_)
 · refine ⟨(hx1_.trans (hx2_.trans (hx3_.trans (hx4_.trans hx5_)))),?_⟩
   have:¬(NamesR c∧EntS c):=fun h=>c4 h.1.2.2.2.1
   simp only [this,decide_false]
 refine zaa ze5 ?_
 refine zab zcQ (zca hA1) (hx2_.trans (hx3_.trans (hx4_.trans hx5_))) fun v28 h28=>?_
 refine (zgc h28 (hx2_.trans (hx3_.trans (hx4_.trans hx5_)))).mono ?_
 rintro _ w6_ ⟨hx6_,rfl⟩
 refine br (fun c5=>?_) (fun c5=>?_)
 · refine ⟨(hx1_.trans (hx2_.trans (hx3_.trans (hx4_.trans (hx5_.trans hx6_))))),?_⟩
   have:¬(NamesR c∧EntS c):=fun h=>c5 h.1.2.2.2.2.1
   simp only [this,decide_false]
 refine zaa zcC ?_
 refine zab zcQ (zaW hA1) (hx2_.trans (hx3_.trans (hx4_.trans (hx5_.trans hx6_)))) fun v33 h33=>?_
 refine (zgc h33 (hx2_.trans (hx3_.trans (hx4_.trans (hx5_.trans hx6_))))).mono ?_
 rintro _ w7_ ⟨hx7_,rfl⟩
 refine br (fun c6=>?_) (fun c6=>?_)
 · refine ⟨(hx1_.trans (hx2_.trans (hx3_.trans (hx4_.trans (hx5_.trans (hx6_.trans hx7_)))))),?_⟩
   have:¬(NamesR c∧EntS c):=fun h=>c6 h.1.2.2.2.2.2.1
   simp only [this,decide_false]
 refine zaa za5 ?_
 refine zab za1 (zan hA1) (hx2_.trans (hx3_.trans (hx4_.trans (hx5_.trans (hx6_.trans hx7_))))) fun v38 h38=>?_
 have hln39:=zah h38
 refine zae u33 h38 ?_
 refine zaa zcC ?_
 refine zab zcQ (zaW hA1) (hx2_.trans (hx3_.trans (hx4_.trans (hx5_.trans (hx6_.trans hx7_))))) fun v41 h41=>?_
 have hln42:=zah h41
 refine zae u24 h41 ?_
 refine zaO ?_
 refine br (fun c7=>?_) (fun c7=>?_)
 · refine ⟨(hx1_.trans (hx2_.trans (hx3_.trans (hx4_.trans (hx5_.trans (hx6_.trans hx7_)))))),?_⟩
   have:¬(NamesR c∧EntS c):=fun h=>c7 (by rw [h.2.1])
   simp only [this,decide_false]
 refine zaa zaG ?_
 refine zab zdi (zao hA1) (hx2_.trans (hx3_.trans (hx4_.trans (hx5_.trans (hx6_.trans hx7_))))) fun v47 h47=>?_
 have hln48:=zah h47
 refine zae u34 h47 ?_
 refine zcT ?_
 refine br (fun c8=>?_) (fun c8=>?_)
 · refine ⟨(hx1_.trans (hx2_.trans (hx3_.trans (hx4_.trans (hx5_.trans (hx6_.trans hx7_)))))),?_⟩
   have:¬(NamesR c∧EntS c):=fun h=>by have:=h.2.2.1;omega
   simp only [this,decide_false]
 refine zaa zcC ?_
 refine zab zcQ (zaW hA1) (hx2_.trans (hx3_.trans (hx4_.trans (hx5_.trans (hx6_.trans hx7_))))) fun v53 h53=>?_
 refine (zdj h53 (hx2_.trans (hx3_.trans (hx4_.trans (hx5_.trans (hx6_.trans hx7_)))))).mono ?_
 rintro _ w8_ ⟨hx8_,rfl⟩
 refine zai ?_
 refine br (fun c9=>?_) (fun c9=>?_)
 · refine ⟨(hx1_.trans (hx2_.trans (hx3_.trans (hx4_.trans (hx5_.trans (hx6_.trans (hx7_.trans hx8_))))))),?_⟩
   have:¬(NamesR c∧EntS c):=fun h=>by have:=zeV.2 h.1.2.2.2.2.2.2;unfold zgd at this;omega
   simp only [this,decide_false]
 refine zaB (c.entry.length) (fun k us w'=>us=[.int .i64 (k:Int)]∧Ext w8_ w'∧(∀ i,i<k→(i=0→en c 0=0)∧(0<i→en c (i-1)<en c i)∧en c i<c.ins.length)) (0) (by omega) ⟨by simp,Ext.refl w8_,fun i h=>by omega⟩ ?_
 rintro k m4 uu4 w9_ hk4 ⟨hu,hx9_,hent⟩
 simp only [List.map_cons,List.map_nil,List.cons.injEq,and_true] at hu
 try rw [hu]
 try clear hu
 refine zaa za5 ?_
 refine zab za1 (zan hA1) (hx2_.trans (hx3_.trans (hx4_.trans (hx5_.trans (hx6_.trans (hx7_.trans (hx8_.trans hx9_))))))) fun v59 h59=>?_
 have hln60:=zah h59
 refine zae u33 h59 ?_
 refine zai ?_
 refine br (fun c10=>?_) (fun c10=>?_)
 · have hx10_:=zak w9_
   refine zaf ?_
   refine br (fun c11=>?_) (fun c11=>?_)
   · refine zaa za5 ?_
     refine zab za1 (zan hA1) (hx2_.trans (hx3_.trans (hx4_.trans (hx5_.trans (hx6_.trans (hx7_.trans (hx8_.trans (hx9_.trans hx10_)))))))) fun v68 h68=>?_
     refine zav u33 ty3 h68 (by omega) (by omega) fun b69 o69 h69=>?_
     refine zac ty3 h69 (hx2_.trans (hx3_.trans (hx4_.trans (hx5_.trans (hx6_.trans (hx7_.trans (hx8_.trans (hx9_.trans hx10_)))))))) fun hI70=>?_
     refine zaO ?_
     refine br (fun c12=>?_) (fun c12=>?_)
     · refine ⟨(hx1_.trans (hx2_.trans (hx3_.trans (hx4_.trans (hx5_.trans (hx6_.trans (hx7_.trans (hx8_.trans (hx9_.trans hx10_))))))))),?_⟩
       rw [zbm] at c12
       have:¬(NamesR c∧EntS c):=fun h=>c12 ((h.2.2.2.1 0 (by omega)).1 rfl)
       simp only [this,decide_false]
     refine zcT ?_
     refine gbr (fun c13=>?_) (fun c13=>?_)
     · refine zaa za5 ?_
       refine zab za1 (zan hA1) (hx2_.trans (hx3_.trans (hx4_.trans (hx5_.trans (hx6_.trans (hx7_.trans (hx8_.trans (hx9_.trans hx10_)))))))) fun v78 h78=>?_
       refine zad u33 ty3 h78 (by omega) fun b80 o80 h80=>?_
       refine zac ty3 h80 (hx2_.trans (hx3_.trans (hx4_.trans (hx5_.trans (hx6_.trans (hx7_.trans (hx8_.trans (hx9_.trans hx10_)))))))) fun hI81=>?_
       refine zaa za5 ?_
       refine zab za1 (zan hA1) (hx2_.trans (hx3_.trans (hx4_.trans (hx5_.trans (hx6_.trans (hx7_.trans (hx8_.trans (hx9_.trans hx10_)))))))) fun v83 h83=>?_
       refine za3 (by unfold I64;omega) ?_
       refine zav u33 ty3 h83 (by omega) (by omega) fun b86 o86 h86=>?_
       refine zac ty3 h86 (hx2_.trans (hx3_.trans (hx4_.trans (hx5_.trans (hx6_.trans (hx7_.trans (hx8_.trans (hx9_.trans hx10_)))))))) fun hI87=>?_
       have hn86:((k:Int)-1).toNat=k-1:=by omega
       refine zdD ?_
       refine br (fun c14=>?_) (fun c14=>?_)
       · refine ⟨(hx1_.trans (hx2_.trans (hx3_.trans (hx4_.trans (hx5_.trans (hx6_.trans (hx7_.trans (hx8_.trans (hx9_.trans hx10_))))))))),?_⟩
         exact absurd c11 (by omega)
       refine zaa za5 ?_
       refine zab za1 (zan hA1) (hx2_.trans (hx3_.trans (hx4_.trans (hx5_.trans (hx6_.trans (hx7_.trans (hx8_.trans (hx9_.trans hx10_)))))))) fun v93 h93=>?_
       refine zad u33 ty3 h93 (by omega) fun b95 o95 h95=>?_
       refine zac ty3 h95 (hx2_.trans (hx3_.trans (hx4_.trans (hx5_.trans (hx6_.trans (hx7_.trans (hx8_.trans (hx9_.trans hx10_)))))))) fun hI96=>?_
       refine zaa zaG ?_
       refine zab zdi (zao hA1) (hx2_.trans (hx3_.trans (hx4_.trans (hx5_.trans (hx6_.trans (hx7_.trans (hx8_.trans (hx9_.trans hx10_)))))))) fun v98 h98=>?_
       have hln99:=zah h98
       refine zae u34 h98 ?_
       refine zb5 ?_
       refine br (fun c15=>?_) (fun c15=>?_)
       · refine ⟨(hx1_.trans (hx2_.trans (hx3_.trans (hx4_.trans (hx5_.trans (hx6_.trans (hx7_.trans (hx8_.trans (hx9_.trans hx10_))))))))),?_⟩
         exact absurd c11 (by omega)
       refine zag (by omega) ?_
       refine ⟨m4-1,by omega,k+1,by omega,by simp,(hx9_.trans hx10_),?_⟩
       exact absurd c11 (by omega)
     refine zaa za5 ?_
     refine zab za1 (zan hA1) (hx2_.trans (hx3_.trans (hx4_.trans (hx5_.trans (hx6_.trans (hx7_.trans (hx8_.trans (hx9_.trans hx10_)))))))) fun v93 h93=>?_
     refine zad u33 ty3 h93 (by omega) fun b95 o95 h95=>?_
     refine zac ty3 h95 (hx2_.trans (hx3_.trans (hx4_.trans (hx5_.trans (hx6_.trans (hx7_.trans (hx8_.trans (hx9_.trans hx10_)))))))) fun hI96=>?_
     refine zaa zaG ?_
     refine zab zdi (zao hA1) (hx2_.trans (hx3_.trans (hx4_.trans (hx5_.trans (hx6_.trans (hx7_.trans (hx8_.trans (hx9_.trans hx10_)))))))) fun v98 h98=>?_
     have hln99:=zah h98
     refine zae u34 h98 ?_
     refine zb5 ?_
     refine br (fun c16=>?_) (fun c16=>?_)
     · refine ⟨(hx1_.trans (hx2_.trans (hx3_.trans (hx4_.trans (hx5_.trans (hx6_.trans (hx7_.trans (hx8_.trans (hx9_.trans hx10_))))))))),?_⟩
       rw [zbm] at c16
       have:¬(NamesR c∧EntS c):=fun h=>by have:=(h.2.2.2.1 k (by omega)).2.2;omega
       simp only [this,decide_false]
     refine zag (by omega) ?_
     refine ⟨m4-1,by omega,k+1,by omega,by simp,(hx9_.trans hx10_),?_⟩
     rw [zbm] at c16 c12
     have hk0:k=0:=by omega
     subst hk0
     exact zgG hent ⟨fun _=>Decidable.not_not.1 c12,fun h=>by omega,by omega⟩
   refine zcT ?_
   refine gbr (fun c17=>?_) (fun c17=>?_)
   · refine zaa za5 ?_
     refine zab za1 (zan hA1) (hx2_.trans (hx3_.trans (hx4_.trans (hx5_.trans (hx6_.trans (hx7_.trans (hx8_.trans (hx9_.trans hx10_)))))))) fun v78 h78=>?_
     refine zad u33 ty3 h78 (by omega) fun b80 o80 h80=>?_
     refine zac ty3 h80 (hx2_.trans (hx3_.trans (hx4_.trans (hx5_.trans (hx6_.trans (hx7_.trans (hx8_.trans (hx9_.trans hx10_)))))))) fun hI81=>?_
     refine zaa za5 ?_
     refine zab za1 (zan hA1) (hx2_.trans (hx3_.trans (hx4_.trans (hx5_.trans (hx6_.trans (hx7_.trans (hx8_.trans (hx9_.trans hx10_)))))))) fun v83 h83=>?_
     refine za3 (by unfold I64;omega) ?_
     refine zav u33 ty3 h83 (by omega) (by omega) fun b86 o86 h86=>?_
     refine zac ty3 h86 (hx2_.trans (hx3_.trans (hx4_.trans (hx5_.trans (hx6_.trans (hx7_.trans (hx8_.trans (hx9_.trans hx10_)))))))) fun hI87=>?_
     have hn86:((k:Int)-1).toNat=k-1:=by omega
     refine zdD ?_
     refine br (fun c18=>?_) (fun c18=>?_)
     · refine ⟨(hx1_.trans (hx2_.trans (hx3_.trans (hx4_.trans (hx5_.trans (hx6_.trans (hx7_.trans (hx8_.trans (hx9_.trans hx10_))))))))),?_⟩
       rw [zbm,zbm] at c18
       simp only [hn86] at c18
       have:¬(NamesR c∧EntS c):=fun h=>by have:=(h.2.2.2.1 k (by omega)).2.1 (by omega);omega
       simp only [this,decide_false]
     refine zaa za5 ?_
     refine zab za1 (zan hA1) (hx2_.trans (hx3_.trans (hx4_.trans (hx5_.trans (hx6_.trans (hx7_.trans (hx8_.trans (hx9_.trans hx10_)))))))) fun v93 h93=>?_
     refine zad u33 ty3 h93 (by omega) fun b95 o95 h95=>?_
     refine zac ty3 h95 (hx2_.trans (hx3_.trans (hx4_.trans (hx5_.trans (hx6_.trans (hx7_.trans (hx8_.trans (hx9_.trans hx10_)))))))) fun hI96=>?_
     refine zaa zaG ?_
     refine zab zdi (zao hA1) (hx2_.trans (hx3_.trans (hx4_.trans (hx5_.trans (hx6_.trans (hx7_.trans (hx8_.trans (hx9_.trans hx10_)))))))) fun v98 h98=>?_
     have hln99:=zah h98
     refine zae u34 h98 ?_
     refine zb5 ?_
     refine br (fun c19=>?_) (fun c19=>?_)
     · refine ⟨(hx1_.trans (hx2_.trans (hx3_.trans (hx4_.trans (hx5_.trans (hx6_.trans (hx7_.trans (hx8_.trans (hx9_.trans hx10_))))))))),?_⟩
       rw [zbm] at c19
       have:¬(NamesR c∧EntS c):=fun h=>by have:=(h.2.2.2.1 k (by omega)).2.2;omega
       simp only [this,decide_false]
     refine zag (by omega) ?_
     refine ⟨m4-1,by omega,k+1,by omega,by simp,(hx9_.trans hx10_),?_⟩
     rw [zbm] at c19
     rw [zbm,zbm] at c18
     simp only [hn86] at c18
     exact zgG hent ⟨fun h=>by omega,fun _=>by omega,by omega⟩
   refine zaa za5 ?_
   refine zab za1 (zan hA1) (hx2_.trans (hx3_.trans (hx4_.trans (hx5_.trans (hx6_.trans (hx7_.trans (hx8_.trans (hx9_.trans hx10_)))))))) fun v93 h93=>?_
   refine zad u33 ty3 h93 (by omega) fun b95 o95 h95=>?_
   refine zac ty3 h95 (hx2_.trans (hx3_.trans (hx4_.trans (hx5_.trans (hx6_.trans (hx7_.trans (hx8_.trans (hx9_.trans hx10_)))))))) fun hI96=>?_
   refine zaa zaG ?_
   refine zab zdi (zao hA1) (hx2_.trans (hx3_.trans (hx4_.trans (hx5_.trans (hx6_.trans (hx7_.trans (hx8_.trans (hx9_.trans hx10_)))))))) fun v98 h98=>?_
   have hln99:=zah h98
   refine zae u34 h98 ?_
   refine zb5 ?_
   refine br (fun c20=>?_) (fun c20=>?_)
   · refine ⟨(hx1_.trans (hx2_.trans (hx3_.trans (hx4_.trans (hx5_.trans (hx6_.trans (hx7_.trans (hx8_.trans (hx9_.trans hx10_))))))))),?_⟩
     exact absurd c11 (by omega)
   refine zag (by omega) ?_
   refine ⟨m4-1,by omega,k+1,by omega,by simp,(hx9_.trans hx10_),?_⟩
   exact absurd c11 (by omega)
 refine zaB (c.ins.length) (fun k us w'=>us=[.int .i64 (k:Int)]∧Ext w9_ w'∧(∀ j,j<k→((zap c j).op=9↔zen c (zar c j)=j))) (0) (by omega) ⟨by simp,Ext.refl w9_,fun i h=>by omega⟩ ?_
 rintro k m9 uu9 w11_ hk9 ⟨hu,hx11_,hinv⟩
 simp only [List.map_cons,List.map_nil,List.cons.injEq,and_true] at hu
 try rw [hu]
 try clear hu
 refine zaa zaG ?_
 refine zab zdi (zao hA1) (hx2_.trans (hx3_.trans (hx4_.trans (hx5_.trans (hx6_.trans (hx7_.trans (hx8_.trans (hx9_.trans hx11_)))))))) fun v104 h104=>?_
 have hln105:=zah h104
 refine zae u34 h104 ?_
 refine zai ?_
 refine br (fun c21=>?_) (fun c21=>?_)
 · have hx12_:=zak w11_
   refine zaa zaG ?_
   refine zab zdi (zao hA1) (hx2_.trans (hx3_.trans (hx4_.trans (hx5_.trans (hx6_.trans (hx7_.trans (hx8_.trans (hx9_.trans (hx11_.trans hx12_))))))))) fun v110 h110=>?_
   refine zad u34 zdY h110 (by omega) fun b112 o112 h112=>?_
   refine zaa zbx ?_
   refine zac ty3 (zaC h112) (hx2_.trans (hx3_.trans (hx4_.trans (hx5_.trans (hx6_.trans (hx7_.trans (hx8_.trans (hx9_.trans (hx11_.trans hx12_))))))))) fun hI114=>?_
   refine zaf ?_
   refine zbd hV1 (hx2_.trans (hx3_.trans (hx4_.trans (hx5_.trans (hx6_.trans (hx7_.trans (hx8_.trans (hx9_.trans (hx11_.trans hx12_))))))))) ?_
   refine zbd hV1 (hx2_.trans (hx3_.trans (hx4_.trans (hx5_.trans (hx6_.trans (hx7_.trans (hx8_.trans (hx9_.trans (hx11_.trans hx12_))))))))) ?_
   have h8:c.entry.length≤8:=by
     simp only [Bool.not_eq_false',Bool.and_eq_true,decide_eq_true_eq] at c3
     have:=c3.1
     omega
   refine (zjH h0 (e0.trans (hx1_.trans (hx2_.trans (hx3_.trans (hx4_.trans (hx5_.trans (hx6_.trans (hx7_.trans (hx8_.trans (hx9_.trans (hx11_.trans hx12_)))))))))))).mono ?_
   rintro _ w13_ ⟨hx13_,rfl⟩
   refine ⟨hx13_,?_⟩
   refine (zlC h0 (e0.trans (hx1_.trans (hx2_.trans (hx3_.trans (hx4_.trans (hx5_.trans (hx6_.trans (hx7_.trans (hx8_.trans (hx9_.trans (hx11_.trans (hx12_.trans hx13_)))))))))))) (by have:=zgF (c:=c) (a:=k);omega) (by have:=zgF (c:=c) (a:=k);omega) (zhg fun i hi=>hent i (by omega))).mono ?_
   rintro _ w14_ ⟨hx14_,rfl⟩
   refine ⟨hx14_,?_⟩
   refine zaf ?_
   refine zt1 u4 ?_
   refine br (fun c22=>?_) (fun c22=>?_)
   · refine ⟨(hx1_.trans (hx2_.trans (hx3_.trans (hx4_.trans (hx5_.trans (hx6_.trans (hx7_.trans (hx8_.trans (hx9_.trans (hx11_.trans (hx12_.trans (hx13_.trans hx14_)))))))))))),?_⟩
     rw [zaP] at c22
     have:¬(NamesR c∧EntS c):=fun h=>c22 (decide_eq_decide.2 (h.2.2.2.2 k (by omega)))
     simp only [this,decide_false]
   refine zag (by omega) ?_
   refine ⟨m9-1,by omega,k+1,by omega,by simp,(hx11_.trans (hx12_.trans (hx13_.trans hx14_))),?_⟩
   rw [zaP] at c22
   exact zgG hinv (decide_eq_decide.1 (Decidable.not_not.1 c22))
 refine ⟨(hx1_.trans (hx2_.trans (hx3_.trans (hx4_.trans (hx5_.trans (hx6_.trans (hx7_.trans (hx8_.trans (hx9_.trans hx11_))))))))),?_⟩
 have:NamesR c∧EntS c:=by
   refine ⟨⟨by simpa using c1,by simpa using c2,by simpa using c3,Decidable.not_not.1 c4,Decidable.not_not.1 c5,Decidable.not_not.1 c6,zeV.1 (by unfold zgd;omega)⟩,by omega,by omega,fun i hi=>hent i (by omega),fun j hj=>hinv j (by omega)⟩
 simp only [this,and_self,decide_true]
def zbG (c:DCode) (op:Int):Int:=if op=1 then c.globals.length else if op=4∨op=5 then c.procs.length else if op=6∨op=7 then c.locks.length else 1
def zf6 (c:DCode) (a:DIns) (b e:Int):Prop:=(1≤a.op∧a.op≤9)∧(0≤a.arg∧a.arg<zbG c a.op) ∧
 (if a.op=1∨a.op=2 then zaL 6 a.term=true∧(∀ s∈zbl a.term,s∈c.globals) else a.term=term0)∧(if a.op=2∨a.op=3 then b≤a.to∧a.to<e else a.to=0)
instance (c:DCode) (a:DIns) (b e:Int):Decidable (zf6 c a b e):=by unfold zf6;infer_instance
def F125 (a0 a1:Value) (w:World) (R:VW):Prop:=
 oP (Instr.box 36 a0) w fun x2 w=>
 rF 36 x2 4 w fun x10=>
 rL 34 x10 w fun x11=>
 rX 34 x11 a1 w fun x13=>
 rL 84 x13 w fun x14=>
 oP (Instr.alloc 84 true (.tuple #[])) w fun x5 w=>
 oS 84 x5 x14 w fun w=>
 JOIN [6] (fun J12=>
 rF 84 x5 0 w fun x15=>
 rL 3 x15 w fun x16=>
 rB .eql 3 T0 U0 x16 (iV 1) w fun x18=>
 BR x18
 (rF 36 x2 0 w fun x19=>
 rL 24 x19 w fun x20=>
 rN 24 3 x20 w fun x21=>
 rB .sub 3 T0 U0 x21 (iV 1) w fun x22=>
 J12 [x22] w)
 (rB .eql 3 T0 U0 x16 (iV 6) w fun x24=>
 BR x24
 (rF 36 x2 1 w fun x26=>
 rL 24 x26 w fun x27=>
 rN 24 3 x27 w fun x28=>
 rB .sub 3 T0 U0 x28 (iV 1) w fun x29=>
 J12 [x29] w)
 (rB .eql 3 T0 U0 x16 (iV 7) w fun x25=>
 BR x25
 (rF 36 x2 1 w fun x26=>
 rL 24 x26 w fun x27=>
 rN 24 3 x27 w fun x28=>
 rB .sub 3 T0 U0 x28 (iV 1) w fun x29=>
 J12 [x29] w)
 (rB .eql 3 T0 U0 x16 (iV 4) w fun x31=>
 BR x31
 (rF 36 x2 2 w fun x33=>
 rL 24 x33 w fun x34=>
 rN 24 3 x34 w fun x35=>
 rB .sub 3 T0 U0 x35 (iV 1) w fun x36=>
 J12 [x36] w)
 (rB .eql 3 T0 U0 x16 (iV 5) w fun x32=>
 BR x32
 (rF 36 x2 2 w fun x33=>
 rL 24 x33 w fun x34=>
 rN 24 3 x34 w fun x35=>
 rB .sub 3 T0 U0 x35 (iV 1) w fun x36=>
 J12 [x36] w)
 (J12 [(iV 0)] w)))))) (fun u12 w=>
 rF 84 x5 0 w fun x37=>
 rL 3 x37 w fun x38=>
 cL 197 [x38,(iV 1),(iV 9)] w fun x39 w=>
 rD (Op.unary .not x39) w fun x40=>
 BR x40
 (R (Value.bool false) w)
 (rF 84 x5 1 w fun x42=>
 rL 3 x42 w fun x43=>
 cL 197 [x43,(iV 0),(u12 6)] w fun x45 w=>
 rD (Op.unary .not x45) w fun x46=>
 BR x46
 (R (Value.bool false) w)
 (JOIN [] (fun J25=>
 rF 84 x5 0 w fun x48=>
 rL 3 x48 w fun x49=>
 rB .eql 3 T0 U0 x49 (iV 1) w fun x50=>
 BR x50
 (rF 84 x5 2 w fun x56=>
 rL 53 x56 w fun x57=>
 cL 198 [x57] w fun x58 w=>
 rD (Op.unary .not x58) w fun x59=>
 BR x59
 (R (Value.bool false) w)
 (rF 84 x5 2 w fun x60=>
 rL 53 x60 w fun x61=>
 cL 199 [x61] w fun x62 w=>
 LOOPI [8] [(iV 0)] w fun u19 w next19=>
 rN 24 3 x62 w fun x65=>
 rC (u19 8) x65 w fun x66=>
 BR x66
 ((fun w=>rF 36 x2 0 w fun x69=>
 rL 24 x69 w fun x70=>
 rX 24 x62 (u19 8) w fun x73=>
 rL 9 x73 w fun x74=>
 cL 193 [x70,x74] w fun x75 w=>
 rB .lss 3 T0 U0 x75 (iV 0) w fun x76=>
 BR x76
 (R (Value.bool false) w)
 (rA (u19 8) (iV 1) w fun x68=>
 next19 [x68] w)) (World.drew1 w))
 (J25 [] w)))
 (rF 84 x5 0 w fun x52=>
 rL 3 x52 w fun x53=>
 rB .eql 3 T0 U0 x53 (iV 2) w fun x54=>
 BR x54
 (rF 84 x5 2 w fun x56=>
 rL 53 x56 w fun x57=>
 cL 198 [x57] w fun x58 w=>
 rD (Op.unary .not x58) w fun x59=>
 BR x59
 (R (Value.bool false) w)
 (rF 84 x5 2 w fun x60=>
 rL 53 x60 w fun x61=>
 cL 199 [x61] w fun x62 w=>
 LOOPI [8] [(iV 0)] w fun u19 w next19=>
 rN 24 3 x62 w fun x65=>
 rC (u19 8) x65 w fun x66=>
 BR x66
 ((fun w=>rF 36 x2 0 w fun x69=>
 rL 24 x69 w fun x70=>
 rX 24 x62 (u19 8) w fun x73=>
 rL 9 x73 w fun x74=>
 cL 193 [x70,x74] w fun x75 w=>
 rB .lss 3 T0 U0 x75 (iV 0) w fun x76=>
 BR x76
 (R (Value.bool false) w)
 (rA (u19 8) (iV 1) w fun x68=>
 next19 [x68] w)) (World.drew1 w))
 (J25 [] w)))
 (rF 84 x5 2 w fun x77=>
 rL 53 x77 w fun x78=>
 rD (Instr.build 53 #[]) w fun x79=>
 cL 200 [x78,x79] w fun x80 w=>
 rD (Op.unary .not x80) w fun x81=>
 BR x81
 (R (Value.bool false) w)
 (J25 [] w)))) (fun u25 w=>
 JOIN [] (fun J27=>
 rF 84 x5 0 w fun x82=>
 rL 3 x82 w fun x83=>
 rB .neq 3 T0 U0 x83 (iV 2) w fun x84=>
 BR x84
 (rF 84 x5 0 w fun x86=>
 rL 3 x86 w fun x87=>
 rB .neq 3 T0 U0 x87 (iV 3) w fun x88=>
 BR x88
 (rF 84 x5 3 w fun x90=>
 rL 3 x90 w fun x91=>
 rB .eql 3 T0 U0 x91 (iV 0) w fun x92=>
 R x92 w)
 (J27 [] w))
 (J27 [] w)) (fun u27 w=>
 rL 36 x2 w fun x93=>
 cL 140 [x93,a1] w fun x95 w=>
 (fun w=>rF 84 x5 3 w fun x96=>
 rL 3 x96 w fun x97=>
 rF 36 x2 3 w fun x98=>
 rL 33 x98 w fun x99=>
 rX 33 x99 x95 w fun x101=>
 rL 3 x101 w fun x102=>
 rL 36 x2 w fun x103=>
 (fun w_=>cL 196 [x103,x95] w_ fun x105 w=>
 Ext w_ w ∧
 cL 197 [x97,x102,x105] w fun x106 w=>
 R x106 w) w) (World.drew1 w))))))
def cfg125:Cfg:=⟨extL,[(12,137438920768,[6]),(25,4835703278177041722114448,[]),(27,9898684611004583682494169104,[])],[(19,151106504079791792062736,[8])],[(21,[0,1,2,3,4,5,6,7],0),(28,[0,1,2,3,4,5,6,7,8,9,10,11],512)],[],[],[]⟩
theorem F125_call {a0 a1:Value} {w:World} {R:VW} (h:F125 a0 a1 w R):cL 125 [a0,a1] w R:=co (g:=cfg125) Tryz.func125 (by kernel_rfl) (by kernel_rfl) (by kernel_rfl) h
theorem zqs {w:World} {v0:Value} {W0:World} {c:DCode} {j:Nat}  (h0:Is W0 v0 c) (e0:Ext W0 w) (hj:j<c.ins.length) (hE:∀ i,i<c.entry.length→0≤en c i) (h8:c.entry.length≤8) (hp:0≤zar c j) :
   CALL Tryz.prog 125 [v0,.int .i64 (j:Int)] w fun r w'=>Ext w w'∧(r=.bool (decide (zf6 c (zap c j) (en c (zar c j).toNat) (zen c (zar c j)+1)))):=by
 refine F125_call ?_
 unfold F125
 have hpl:=zgF (c:=c) (a:=j)
 refine zaz zdW rfl h0 e0 fun w1_ hx1_ hA2 hV2=>?_
 refine zaa zaG ?_
 refine zab zdi (zao hA2) (Ext.refl w1_) fun v11 h11=>?_
 refine zad u34 zdY h11 (by omega) fun b13 o13 h13=>?_
 refine zab zdY h13 (Ext.refl w1_) fun v14 h14=>?_
 rw [zaP] at h14
 obtain ⟨a,ha⟩:∃ a,a=zap c j:=⟨_,rfl⟩
 rw [←ha] at h14 ⊢
 refine zcA zr2 rfl zdY rfl h14 (Ext.refl w1_) fun w2_ hx2_ hA5 hV5=>?_
 refine JOIN.mk (fun us w'=>us=[.int .i64 (zbG c a.op-1)]∧Ext w2_ w'∧(True)) ?_ ?_
 · refine zaa zbx ?_
   refine zac ty3 (zaC hA5) (Ext.refl w2_) fun hI16=>?_
   refine zaf ?_
   refine br (fun c1=>?_) (fun c1=>?_)
   · refine zaa zc5 ?_
     refine zab zcQ (za9 hA2) hx2_ fun v20 h20=>?_
     have hln21:=zah h20
     refine zae u24 h20 ?_
     refine za3 (by unfold I64;have:=zah h20;omega) ?_
     refine ⟨by unfold zbG;rw [if_pos c1],Ext.refl w2_,?_⟩
     trivial
   refine zaf ?_
   refine br (fun c2=>?_) (fun c2=>?_)
   · refine zaa ze5 ?_
     refine zab zcQ (zca hA2) hx2_ fun v27 h27=>?_
     have hln28:=zah h27
     refine zae u24 h27 ?_
     refine za3 (by unfold I64;have:=zah h27;omega) ?_
     refine ⟨by unfold zbG;rw [if_neg (by omega),if_neg (by omega),if_pos (by omega)],Ext.refl w2_,?_⟩
     trivial
   refine zaf ?_
   refine br (fun c3=>?_) (fun c3=>?_)
   · refine zaa ze5 ?_
     refine zab zcQ (zca hA2) hx2_ fun v27 h27=>?_
     have hln28:=zah h27
     refine zae u24 h27 ?_
     refine za3 (by unfold I64;have:=zah h27;omega) ?_
     refine ⟨by unfold zbG;rw [if_neg (by omega),if_neg (by omega),if_pos (by omega)],Ext.refl w2_,?_⟩
     trivial
   refine zaf ?_
   refine br (fun c4=>?_) (fun c4=>?_)
   · refine zaa zcC ?_
     refine zab zcQ (zaW hA2) hx2_ fun v34 h34=>?_
     have hln35:=zah h34
     refine zae u24 h34 ?_
     refine za3 (by unfold I64;have:=zah h34;omega) ?_
     refine ⟨by unfold zbG;rw [if_neg (by omega),if_pos (by omega)],Ext.refl w2_,?_⟩
     trivial
   refine zaf ?_
   refine br (fun c5=>?_) (fun c5=>?_)
   · refine zaa zcC ?_
     refine zab zcQ (zaW hA2) hx2_ fun v34 h34=>?_
     have hln35:=zah h34
     refine zae u24 h34 ?_
     refine za3 (by unfold I64;have:=zah h34;omega) ?_
     refine ⟨by unfold zbG;rw [if_neg (by omega),if_pos (by omega)],Ext.refl w2_,?_⟩
     trivial
   refine ⟨by unfold zbG;rw [if_neg (by omega),if_neg (by omega),if_neg (by omega)];rfl,Ext.refl w2_,?_⟩
   trivial
 rintro uj12 w3_ ⟨hu,hx3_,hinv⟩
 simp only [List.map_cons,List.map_nil,List.cons.injEq,and_true] at hu
 try rw [hu]
 try clear hu
 refine zaa zbx ?_
 refine zac ty3 (zaC hA5) hx3_ fun hI38=>?_
 refine (zfC ).mono ?_
 rintro _ w4_ ⟨hx4_,rfl⟩
 refine zaS ?_
 refine br (fun c6=>?_) (fun c6=>?_)
 · refine ⟨(hx1_.trans (hx2_.trans (hx3_.trans hx4_))),?_⟩
   have:¬zf6 c a (en c (zar c j).toNat) (zen c (zar c j)+1):=fun h=>c6 h.1
   simp only [this,decide_false]
 refine zaa zby ?_
 refine zac ty3 (zaD hA5) (hx3_.trans hx4_) fun hI43=>?_
 refine (zfC ).mono ?_
 rintro _ w5_ ⟨hx5_,rfl⟩
 refine zaS ?_
 refine br (fun c7=>?_) (fun c7=>?_)
 · refine ⟨(hx1_.trans (hx2_.trans (hx3_.trans (hx4_.trans hx5_)))),?_⟩
   have:¬zf6 c a (en c (zar c j).toNat) (zen c (zar c j)+1):=fun h=>c7 (by have:=h.2.1;omega)
   simp only [this,decide_false]
 refine JOIN.mk (fun us w'=>us=[]∧Ext w5_ w'∧(if a.op=1∨a.op=2 then zaL 6 a.term=true∧(∀ s∈zbl a.term,s∈c.globals) else a.term=term0)) ?_ ?_
 · refine zaa zbx ?_
   refine zac ty3 (zaC hA5) (hx3_.trans (hx4_.trans hx5_)) fun hI49=>?_
   refine zaf ?_
   refine br (fun c8=>?_) (fun c8=>?_)
   · refine zaa zdZ ?_
     refine zab zcd (zbz hA5) (hx3_.trans (hx4_.trans hx5_)) fun v57 h57=>?_
     refine (zdJ h57 (hx3_.trans (hx4_.trans hx5_))).mono ?_
     rintro _ w7_ ⟨hx7_,rfl⟩
     refine zaU ?_
     refine zb4 (fun c9=>?_) (fun c9=>?_)
     · refine ⟨(hx1_.trans (hx2_.trans (hx3_.trans (hx4_.trans (hx5_.trans hx7_))))),?_⟩
       have:¬zf6 c a (en c (zar c j).toNat) (zen c (zar c j)+1):=fun h=>by have:=h.2.2.1;rw [if_pos (.inl c8)] at this;rw [this.1] at c9;cases c9
       simp only [this,decide_false]
     refine zaa zdZ ?_
     refine zab zcd (zbz hA5) (hx3_.trans (hx4_.trans (hx5_.trans hx7_))) fun v61 h61=>?_
     refine (zf5 h61 (hx3_.trans (hx4_.trans (hx5_.trans hx7_)))).mono ?_
     rintro r62 w8_ ⟨hx8_,h62⟩
     refine zaB ((zbl a.term).length) (fun k us w'=>us=[.int .i64 (k:Int)]∧Ext w8_ w'∧(∀ s∈(zbl a.term).take k,s∈c.globals)) (0) (by omega) ⟨by simp,Ext.refl w8_,by simp⟩ ?_
     rintro k m19 uu19 w9_ hk19 ⟨hu,hx9_,hinv⟩
     simp only [List.map_cons,List.map_nil,List.cons.injEq,and_true] at hu
     try rw [hu]
     try clear hu
     have hln65:=zah h62
     refine zae u24 h62 ?_
     refine zai ?_
     refine br (fun c10=>?_) (fun c10=>?_)
     · have hx10_:=zak w9_
       refine zaa zc5 ?_
       refine zab zcQ (za9 hA2) (hx2_.trans (hx3_.trans (hx4_.trans (hx5_.trans (hx7_.trans (hx8_.trans (hx9_.trans hx10_))))))) fun v70 h70=>?_
       refine zad u24 ty9 h62 (by omega) fun b73 o73 h73=>?_
       refine zas ty9 h73 (hx9_.trans hx10_) fun hS74=>?_
       refine (zdj h70 (hx2_.trans (hx3_.trans (hx4_.trans (hx5_.trans (hx7_.trans (hx8_.trans (hx9_.trans hx10_)))))))).mono ?_
       rintro _ w11_ ⟨hx11_,rfl⟩
       refine zai ?_
       refine br (fun c11=>?_) (fun c11=>?_)
       · refine ⟨(hx1_.trans (hx2_.trans (hx3_.trans (hx4_.trans (hx5_.trans (hx7_.trans (hx8_.trans (hx9_.trans (hx10_.trans hx11_))))))))),?_⟩
         have:¬zf6 c a (en c (zar c j).toNat) (zen c (zar c j)+1):=fun h=>by
           have:=h.2.2.1;rw [if_pos (.inl c8)] at this
           have:=zeV.2 (this.2 _ (List.getElem_mem (n:=k) (by omega)));omega
         simp only [this,decide_false]
       refine zag (by omega) ?_
       refine ⟨m19-1,by omega,k+1,by omega,by simp,(hx9_.trans (hx10_.trans hx11_)),?_⟩
       intro s hs
       rw [List.take_succ_eq_append_getElem (by omega)] at hs
       rcases List.mem_append.1 hs with hs | hs
       · exact hinv s hs
       simp only [List.mem_cons,List.not_mem_nil,or_false] at hs
       subst hs
       exact zeV.1 (by omega)
     refine ⟨by simp,(hx7_.trans (hx8_.trans hx9_)),?_⟩
     rw [if_pos (.inl c8)]
     rw [List.take_of_length_le (by omega)] at hinv
     exact ⟨by simpa using c9,hinv⟩
   refine zaa zbx ?_
   refine zac ty3 (zaC hA5) (hx3_.trans (hx4_.trans hx5_)) fun hI53=>?_
   refine zaf ?_
   refine br (fun c12=>?_) (fun c12=>?_)
   · refine zaa zdZ ?_
     refine zab zcd (zbz hA5) (hx3_.trans (hx4_.trans hx5_)) fun v57 h57=>?_
     refine (zdJ h57 (hx3_.trans (hx4_.trans hx5_))).mono ?_
     rintro _ w12_ ⟨hx12_,rfl⟩
     refine zaU ?_
     refine zb4 (fun c13=>?_) (fun c13=>?_)
     · refine ⟨(hx1_.trans (hx2_.trans (hx3_.trans (hx4_.trans (hx5_.trans hx12_))))),?_⟩
       have:¬zf6 c a (en c (zar c j).toNat) (zen c (zar c j)+1):=fun h=>by have:=h.2.2.1;rw [if_pos (.inr c12)] at this;rw [this.1] at c13;cases c13
       simp only [this,decide_false]
     refine zaa zdZ ?_
     refine zab zcd (zbz hA5) (hx3_.trans (hx4_.trans (hx5_.trans hx12_))) fun v61 h61=>?_
     refine (zf5 h61 (hx3_.trans (hx4_.trans (hx5_.trans hx12_)))).mono ?_
     rintro r62 w13_ ⟨hx13_,h62⟩
     refine zaB ((zbl a.term).length) (fun k us w'=>us=[.int .i64 (k:Int)]∧Ext w13_ w'∧(∀ s∈(zbl a.term).take k,s∈c.globals)) (0) (by omega) ⟨by simp,Ext.refl w13_,by simp⟩ ?_
     rintro k m19 uu19 w14_ hk19 ⟨hu,hx14_,hinv⟩
     simp only [List.map_cons,List.map_nil,List.cons.injEq,and_true] at hu
     try rw [hu]
     try clear hu
     have hln65:=zah h62
     refine zae u24 h62 ?_
     refine zai ?_
     refine br (fun c14=>?_) (fun c14=>?_)
     · have hx15_:=zak w14_
       refine zaa zc5 ?_
       refine zab zcQ (za9 hA2) (hx2_.trans (hx3_.trans (hx4_.trans (hx5_.trans (hx12_.trans (hx13_.trans (hx14_.trans hx15_))))))) fun v70 h70=>?_
       refine zad u24 ty9 h62 (by omega) fun b73 o73 h73=>?_
       refine zas ty9 h73 (hx14_.trans hx15_) fun hS74=>?_
       refine (zdj h70 (hx2_.trans (hx3_.trans (hx4_.trans (hx5_.trans (hx12_.trans (hx13_.trans (hx14_.trans hx15_)))))))).mono ?_
       rintro _ w16_ ⟨hx16_,rfl⟩
       refine zai ?_
       refine br (fun c15=>?_) (fun c15=>?_)
       · refine ⟨(hx1_.trans (hx2_.trans (hx3_.trans (hx4_.trans (hx5_.trans (hx12_.trans (hx13_.trans (hx14_.trans (hx15_.trans hx16_))))))))),?_⟩
         have:¬zf6 c a (en c (zar c j).toNat) (zen c (zar c j)+1):=fun h=>by
           have:=h.2.2.1;rw [if_pos (.inr c12)] at this
           have:=zeV.2 (this.2 _ (List.getElem_mem (n:=k) (by omega)));omega
         simp only [this,decide_false]
       refine zag (by omega) ?_
       refine ⟨m19-1,by omega,k+1,by omega,by simp,(hx14_.trans (hx15_.trans hx16_)),?_⟩
       intro s hs
       rw [List.take_succ_eq_append_getElem (by omega)] at hs
       rcases List.mem_append.1 hs with hs | hs
       · exact hinv s hs
       simp only [List.mem_cons,List.not_mem_nil,or_false] at hs
       subst hs
       exact zeV.1 (by omega)
     refine ⟨by simp,(hx12_.trans (hx13_.trans hx14_)),?_⟩
     rw [if_pos (.inr c12)]
     rw [List.take_of_length_le (by omega)] at hinv
     exact ⟨by simpa using c13,hinv⟩
   refine zaa zdZ ?_
   refine zab zcd (zbz hA5) (hx3_.trans (hx4_.trans hx5_)) fun v78 h78=>?_
   refine zqo (α:=DTerm) zwD zuU (by kernel_rfl) rfl fun v79 h79=>?_
   refine (zlz h78 (hx3_.trans (hx4_.trans hx5_)) h79 (Ext.refl w5_) rfl).mono ?_
   rintro _ w17_ ⟨hx17_,rfl⟩
   refine zaS ?_
   refine br (fun c16=>?_) (fun c16=>?_)
   · refine ⟨(hx1_.trans (hx2_.trans (hx3_.trans (hx4_.trans (hx5_.trans hx17_))))),?_⟩
     have:¬zf6 c a (en c (zar c j).toNat) (zen c (zar c j)+1):=fun h=>by have:=h.2.2.1;rw [if_neg (by omega)] at this;exact c16 this
     simp only [this,decide_false]
   refine ⟨by simp,hx17_,?_⟩
   rw [if_neg (by omega)]
   exact Decidable.not_not.1 c16
 rintro uj25 w6_ ⟨hu,hx17_,hT⟩
 simp only [List.map_cons,List.map_nil,List.cons.injEq,and_true] at hu
 clear hu
 refine JOIN.mk (fun us w'=>us=[]∧Ext w6_ w'∧(a.op=2∨a.op=3)) ?_ ?_
 · refine zaa zbx ?_
   refine zac ty3 (zaC hA5) (hx3_.trans (hx4_.trans (hx5_.trans hx17_))) fun hI83=>?_
   refine zaO ?_
   refine br (fun c17=>?_) (fun c17=>?_)
   · refine zaa zbx ?_
     refine zac ty3 (zaC hA5) (hx3_.trans (hx4_.trans (hx5_.trans hx17_))) fun hI87=>?_
     refine zaO ?_
     refine br (fun c18=>?_) (fun c18=>?_)
     · refine zaa zd0 ?_
       refine zac ty3 (zbI hA5) (hx3_.trans (hx4_.trans (hx5_.trans hx17_))) fun hI91=>?_
       refine zaf ?_
       refine ⟨(hx1_.trans (hx2_.trans (hx3_.trans (hx4_.trans (hx5_.trans hx17_))))),?_⟩
       congr 1
       rw [decide_eq_decide]
       constructor
       · exact fun h=>⟨Decidable.not_not.1 c6,by omega,hT,by rw [if_neg (by omega)];exact h⟩
       intro h;have:=h.2.2.2;rw [if_neg (by omega)] at this;exact this
     refine ⟨by simp,Ext.refl w6_,?_⟩
     omega
   refine ⟨by simp,Ext.refl w6_,?_⟩
   omega
 rintro uj27 w18_ ⟨hu,hx18_,hop⟩
 simp only [List.map_cons,List.map_nil,List.cons.injEq,and_true] at hu
 clear hu
 refine zbd hV2 (hx2_.trans (hx3_.trans (hx4_.trans (hx5_.trans (hx17_.trans hx18_))))) ?_
 refine (zjH h0 (e0.trans (hx1_.trans (hx2_.trans (hx3_.trans (hx4_.trans (hx5_.trans (hx17_.trans hx18_)))))))).mono ?_
 rintro _ w19_ ⟨hx19_,rfl⟩
 have hx20_:=zak w19_
 refine zaa zd0 ?_
 refine zac ty3 (zbI hA5) (hx3_.trans (hx4_.trans (hx5_.trans (hx17_.trans (hx18_.trans (hx19_.trans hx20_)))))) fun hI97=>?_
 refine zaa za5 ?_
 refine zab za1 (zan hA2) (hx2_.trans (hx3_.trans (hx4_.trans (hx5_.trans (hx17_.trans (hx18_.trans (hx19_.trans hx20_))))))) fun v99 h99=>?_
 refine zav u33 ty3 h99 (by omega) (by omega) fun b101 o101 h101=>?_
 refine zac ty3 h101 (hx2_.trans (hx3_.trans (hx4_.trans (hx5_.trans (hx17_.trans (hx18_.trans (hx19_.trans hx20_))))))) fun hI102=>?_
 refine zbd hV2 (hx2_.trans (hx3_.trans (hx4_.trans (hx5_.trans (hx17_.trans (hx18_.trans (hx19_.trans hx20_))))))) ?_
 refine (zlC h0 (e0.trans (hx1_.trans (hx2_.trans (hx3_.trans (hx4_.trans (hx5_.trans (hx17_.trans (hx18_.trans (hx19_.trans hx20_))))))))) (by omega) (by omega) (by assumption)).mono ?_
 rintro _ w21_ ⟨hx21_,rfl⟩
 refine ⟨hx21_,?_⟩
 refine (zfC ).mono ?_
 rintro _ w22_ ⟨hx22_,rfl⟩
 refine ⟨(hx1_.trans (hx2_.trans (hx3_.trans (hx4_.trans (hx5_.trans (hx17_.trans (hx18_.trans (hx19_.trans (hx20_.trans (hx21_.trans hx22_)))))))))),?_⟩
 congr 1
 rw [decide_eq_decide,zbm]
 constructor
 · exact fun h=>⟨Decidable.not_not.1 c6,by omega,hT,by rw [if_pos hop];omega⟩
 intro h;have:=h.2.2.2;rw [if_pos hop] at this;omega
def CodeR (c:DCode):Prop:=NamesR c∧EntS c∧∀ j,j<c.ins.length→zf6 c (zap c j) (en c (zar c j).toNat) (zen c (zar c j)+1)
instance (c:DCode):Decidable (CodeR c):=by unfold CodeR;infer_instance
theorem EntS.nonneg {c:DCode} (h:EntS c):∀ i,i<c.entry.length→0≤en c i:=zhg h.2.2.1
theorem NamesR.procs8 {c:DCode} (h:NamesR c):c.procs.length≤8∧0<c.procs.length:=by
 have h1:=h.2.2.1
 simp only [Bool.and_eq_true,decide_eq_true_eq] at h1
 have h2:=List.length_pos_of_mem h.2.2.2.2.2.2
 omega
theorem zhh {c:DCode} {a:Int} (h0:en c 0≤a):∀ {n:Nat},0<n→0≤prc c a n
 | 1,_=>by rw [prc,if_pos h0];omega
 | n+2,_=>by
   rw [prc]
   split
   · omega
   exact zhh h0 (by omega)
theorem zkv {c:DCode} (hn:NamesR c) (h:EntS c) {a:Int} (ha:0≤a):0≤zar c a:=by
 have h1:=hn.procs8
 have h2:=h.1
 exact zhh (by have:=(h.2.2.1 0 (by omega)).1 rfl;omega) (by omega)
def F57 (a0:Value) (w:World) (R:VW):Prop:=
 oP (Instr.box 36 a0) w fun x1 w=>
 rL 36 x1 w fun x4=>
 cL 124 [x4] w fun x5 w=>
 rD (Op.unary .not x5) w fun x6=>
 BR x6
 (R (Value.bool false) w)
 (LOOPI [3] [(iV 0)] w fun u4 w next4=>
 rF 36 x1 4 w fun x8=>
 rL 34 x8 w fun x9=>
 rN 34 3 x9 w fun x10=>
 rC (u4 3) x10 w fun x11=>
 BR x11
 (rL 36 x1 w fun x14=>
 cL 125 [x14,(u4 3)] w fun x16 w=>
 rD (Op.unary .not x16) w fun x17=>
 BR x17
 (R (Value.bool false) w)
 (rA (u4 3) (iV 1) w fun x13=>
 next4 [x13] w))
 (R (Value.bool true) w))
def cfg57:Cfg:=⟨extL,[],[(4,262028,[3])],[],[],[],[]⟩
theorem F57_call {a0:Value} {w:World} {R:VW} (h:F57 a0 w R):cL 57 [a0] w R:=co (g:=cfg57) Tryz.func57 (by kernel_rfl) (by kernel_rfl) (by kernel_rfl) h
theorem zgH {w:World} {v0:Value} {W0:World} {c:DCode}  (h0:Is W0 v0 c) (e0:Ext W0 w)  :
   CALL Tryz.prog 57 [v0] w fun r w'=>Ext w w'∧(r=.bool (decide (CodeR c))):=by
 refine F57_call ?_
 unfold F57
 refine zaz zdW rfl h0 e0 fun w1_ hx1_ hA1 hV1=>?_
 refine zbd hV1 (Ext.refl w1_) ?_
 refine (zm1 h0 (e0.trans hx1_)).mono ?_
 rintro _ w2_ ⟨hx2_,rfl⟩
 skip
 refine zaS ?_
 refine br (fun c1=>?_) (fun c1=>?_)
 · refine ⟨(hx1_.trans hx2_),?_⟩
   have:¬CodeR c:=fun h=>c1 ⟨h.1,h.2.1⟩
   simp only [this,decide_false]
 refine zaB (c.ins.length) (fun k us w'=>us=[.int .i64 (k:Int)]∧Ext w2_ w'∧(∀ j,j<k→zf6 c (zap c j) (en c (zar c j).toNat) (zen c (zar c j)+1))) (0) (by omega) ⟨by simp,Ext.refl w2_,fun i h=>by omega⟩ ?_
 rintro k m4 uu4 w3_ hk4 ⟨hu,hx3_,hinv⟩
 simp only [List.map_cons,List.map_nil,List.cons.injEq,and_true] at hu
 try rw [hu]
 try clear hu
 replace c1:=Decidable.not_not.1 c1
 refine zaa zaG ?_
 refine zab zdi (zao hA1) (hx2_.trans hx3_) fun v9 h9=>?_
 have hln10:=zah h9
 refine zae u34 h9 ?_
 refine zai ?_
 refine br (fun c2=>?_) (fun c2=>?_)
 · refine zbd hV1 (hx2_.trans hx3_) ?_
   refine (zqs h0 (e0.trans (hx1_.trans (hx2_.trans hx3_))) (by omega) c1.2.nonneg (by have:=c1.1.procs8;have:=c1.2.1;omega) (zkv c1.1 c1.2 (by omega))).mono ?_
   rintro _ w4_ ⟨hx4_,rfl⟩
   refine zaS ?_
   refine br (fun c3=>?_) (fun c3=>?_)
   · refine ⟨(hx1_.trans (hx2_.trans (hx3_.trans hx4_))),?_⟩
     have:¬CodeR c:=fun h=>c3 (h.2.2 k (by omega))
     simp only [this,decide_false]
   refine zag (by omega) ?_
   refine ⟨m4-1,by omega,k+1,by omega,by simp,(hx3_.trans hx4_),?_⟩
   exact zgG hinv (Decidable.not_not.1 c3)
 refine ⟨(hx1_.trans (hx2_.trans hx3_)),?_⟩
 have:CodeR c:=⟨c1.1,c1.2,fun j hj=>hinv j (by omega)⟩
 simp only [this,decide_true]
def F117 (a0:Value) (w:World) (R:VW):Prop:=
 oP (Instr.box 36 a0) w fun x1 w=>
 rF 36 x1 0 w fun x3=>
 rL 24 x3 w fun x4=>
 cL 175 [x4,(iV 6)] w fun x5 w=>
 rD (Op.unary .not x5) w fun x6=>
 BR x6
 (R (Value.bool false) w)
 (rF 36 x1 1 w fun x8=>
 rL 24 x8 w fun x9=>
 cL 175 [x9,(iV 6)] w fun x10 w=>
 rD (Op.unary .not x10) w fun x11=>
 BR x11
 (R (Value.bool false) w)
 (rF 36 x1 2 w fun x14=>
 rL 24 x14 w fun x15=>
 cL 175 [x15,(iV 8)] w fun x16 w=>
 rD (Op.unary .not x16) w fun x17=>
 BR x17
 (R (Value.bool false) w)
 (rF 36 x1 0 w fun x19=>
 rL 24 x19 w fun x20=>
 cL 97 [x20] w fun x21 w=>
 BR x21
 (R (Value.bool false) w)
 (rF 36 x1 1 w fun x23=>
 rL 24 x23 w fun x24=>
 cL 97 [x24] w fun x25 w=>
 BR x25
 (R (Value.bool false) w)
 (rF 36 x1 2 w fun x28=>
 rL 24 x28 w fun x29=>
 cL 97 [x29] w fun x30 w=>
 BR x30
 (R (Value.bool false) w)
 (rF 36 x1 2 w fun x32=>
 rL 24 x32 w fun x33=>
 cL 99 [x33,(Value.string (ByteArray.mk #[109,97,105,110]))] w fun x34 w=>
 R x34 w))))))
def cfg117:Cfg:=⟨extL,[],[],[],[],[],[]⟩
theorem F117_call {a0:Value} {w:World} {R:VW} (h:F117 a0 w R):cL 117 [a0] w R:=co (g:=cfg117) Tryz.func117 (by kernel_rfl) (by kernel_rfl) (by kernel_rfl) h
theorem zkw {w:World} {v0:Value} {W0:World} {c:DCode}  (h0:Is W0 v0 c) (e0:Ext W0 w)  :
   CALL Tryz.prog 117 [v0] w fun r w'=>Ext w w'∧(r=.bool (decide (NamesR c))):=by
 refine F117_call ?_
 unfold F117
 refine zaz zdW rfl h0 e0 fun w1_ hx1_ hA1 hV1=>?_
 refine zaa zc5 ?_
 refine zab zcQ (za9 hA1) (Ext.refl w1_) fun v4 h4=>?_
 refine (zd3 h4 (Ext.refl w1_)).mono ?_
 rintro _ w2_ ⟨hx2_,rfl⟩
 refine zaU ?_
 refine zb4 (fun c1=>?_) (fun c1=>?_)
 · refine ⟨(hx1_.trans hx2_),?_⟩
   have:¬NamesR c:=fun h=>by rw [h.1] at c1;cases c1
   simp only [this,decide_false]
 refine zaa ze5 ?_
 refine zab zcQ (zca hA1) hx2_ fun v9 h9=>?_
 refine (zd3 h9 hx2_).mono ?_
 rintro _ w3_ ⟨hx3_,rfl⟩
 refine zaU ?_
 refine zb4 (fun c2=>?_) (fun c2=>?_)
 · refine ⟨(hx1_.trans (hx2_.trans hx3_)),?_⟩
   have:¬NamesR c:=fun h=>by rw [h.2.1] at c2;cases c2
   simp only [this,decide_false]
 refine zaa zcC ?_
 refine zab zcQ (zaW hA1) (hx2_.trans hx3_) fun v15 h15=>?_
 refine (zd3 h15 (hx2_.trans hx3_)).mono ?_
 rintro _ w4_ ⟨hx4_,rfl⟩
 refine zaU ?_
 refine zb4 (fun c3=>?_) (fun c3=>?_)
 · refine ⟨(hx1_.trans (hx2_.trans (hx3_.trans hx4_))),?_⟩
   have:¬NamesR c:=fun h=>by rw [h.2.2.1] at c3;cases c3
   simp only [this,decide_false]
 refine zaa zc5 ?_
 refine zab zcQ (za9 hA1) (hx2_.trans (hx3_.trans hx4_)) fun v20 h20=>?_
 refine (zc8 h20 (hx2_.trans (hx3_.trans hx4_))).mono ?_
 rintro _ w5_ ⟨hx5_,rfl⟩
 refine br (fun c4=>?_) (fun c4=>?_)
 · refine ⟨(hx1_.trans (hx2_.trans (hx3_.trans (hx4_.trans hx5_)))),?_⟩
   have:¬NamesR c:=fun h=>c4 h.2.2.2.1
   simp only [this,decide_false]
 refine zaa ze5 ?_
 refine zab zcQ (zca hA1) (hx2_.trans (hx3_.trans (hx4_.trans hx5_))) fun v24 h24=>?_
 refine (zc8 h24 (hx2_.trans (hx3_.trans (hx4_.trans hx5_)))).mono ?_
 rintro _ w6_ ⟨hx6_,rfl⟩
 refine br (fun c5=>?_) (fun c5=>?_)
 · refine ⟨(hx1_.trans (hx2_.trans (hx3_.trans (hx4_.trans (hx5_.trans hx6_))))),?_⟩
   have:¬NamesR c:=fun h=>c5 h.2.2.2.2.1
   simp only [this,decide_false]
 refine zaa zcC ?_
 refine zab zcQ (zaW hA1) (hx2_.trans (hx3_.trans (hx4_.trans (hx5_.trans hx6_)))) fun v29 h29=>?_
 refine (zc8 h29 (hx2_.trans (hx3_.trans (hx4_.trans (hx5_.trans hx6_))))).mono ?_
 rintro _ w7_ ⟨hx7_,rfl⟩
 refine br (fun c6=>?_) (fun c6=>?_)
 · refine ⟨(hx1_.trans (hx2_.trans (hx3_.trans (hx4_.trans (hx5_.trans (hx6_.trans hx7_)))))),?_⟩
   have:¬NamesR c:=fun h=>c6 h.2.2.2.2.2.1
   simp only [this,decide_false]
 refine zaa zcC ?_
 refine zab zcQ (zaW hA1) (hx2_.trans (hx3_.trans (hx4_.trans (hx5_.trans (hx6_.trans hx7_))))) fun v33 h33=>?_
 refine (zbt h33 (hx2_.trans (hx3_.trans (hx4_.trans (hx5_.trans (hx6_.trans hx7_)))))).mono ?_
 rintro _ w8_ ⟨hx8_,rfl⟩
 refine ⟨(hx1_.trans (hx2_.trans (hx3_.trans (hx4_.trans (hx5_.trans (hx6_.trans (hx7_.trans hx8_))))))),?_⟩
 congr 1
 rw [decide_eq_decide]
 exact ⟨fun h=>⟨by simpa using c1,by simpa using c2,by simpa using c3,Decidable.not_not.1 c4,Decidable.not_not.1 c5,Decidable.not_not.1 c6,h⟩,fun h=>h.2.2.2.2.2.2⟩
def zkx (c:DCode):Nat→Nat
 | 0=>0
 | k+1=>zkx c k+if (zap c k).op=9 then 1 else 0
theorem zqt (c:DCode):∀ k,zkx c k≤k
 | 0=>Nat.le_refl _
 | k+1=>by have:=zqt c k;rw [zkx];split<;>omega
def EntI (c:DCode):Prop:=c.ins.length≤1500∧c.entry.length=c.procs.length∧en c 0=0∧zkx c c.ins.length=c.entry.length ∧
 ∀ i,i<c.entry.length→en c i<zdl c i∧zdl c i≤c.ins.length∧(zap c (zdl c i-1).toNat).op=9
instance (c:DCode):Decidable (EntI c):=by unfold EntI;infer_instance
theorem zge {c:DCode} (h0:en c 0=0):∀ {q:Nat},q<c.entry.length→(∀ i,i<q→en c i<zdl c i)→0≤en c q
 | 0,_,_=>by omega
 | q+1,hq,h=>by
   have h1:=zge h0 (q:=q) (by omega) fun i hi=>h i (by omega)
   have h2:=h q (by omega)
   unfold zdl at h2
   rw [if_pos hq] at h2
   omega
def F118 (a0:Value) (w:World) (R:VW):Prop:=
 oP (Instr.box 36 a0) w fun x1 w=>
 rF 36 x1 4 w fun x9=>
 rL 34 x9 w fun x10=>
 rN 34 3 x10 w fun x11=>
 rB .gtr 3 T0 U0 x11 (iV 1500) w fun x12=>
 BR x12
 (R (Value.bool false) w)
 (rF 36 x1 3 w fun x14=>
 rL 33 x14 w fun x15=>
 rN 33 3 x15 w fun x16=>
 rF 36 x1 2 w fun x17=>
 rL 24 x17 w fun x18=>
 rN 24 3 x18 w fun x19=>
 rB .neq 3 T0 T0 x16 x19 w fun x20=>
 BR x20
 (R (Value.bool false) w)
 (rF 36 x1 3 w fun x23=>
 rL 33 x23 w fun x24=>
 rX 33 x24 (iV 0) w fun x25=>
 rL 3 x25 w fun x26=>
 rB .neq 3 T0 U0 x26 (iV 0) w fun x27=>
 BR x27
 (R (Value.bool false) w)
 (rF 36 x1 4 w fun x29=>
 rL 34 x29 w fun x30=>
 rN 34 3 x30 w fun x31=>
 LOOPI [3,32] [(iV 0),(iV 0)] w fun u5 w next5=>
 rC (u5 32) x31 w fun x33=>
 BR x33
 (rX 34 x30 (u5 32) w fun x34=>
 rL 84 x34 w fun x35=>
 oP (Instr.alloc 84 true (.tuple #[])) w fun x5 w=>
 oS 84 x5 x35 w fun w=>
 rF 84 x5 0 w fun x36=>
 rL 3 x36 w fun x37=>
 rB .eql 3 T0 U0 x37 (iV 9) w fun x38=>
 BR x38
 (rA (u5 3) (iV 1) w fun x40=>
 rA (u5 32) (iV 1) w fun x41=>
 next5 [x40,x41] w)
 (rA (u5 32) (iV 1) w fun x41=>
 next5 [(u5 3),x41] w))
 (rF 36 x1 3 w fun x43=>
 rL 33 x43 w fun x44=>
 rN 33 3 x44 w fun x45=>
 rB .neq 3 T0 T0 (u5 3) x45 w fun x46=>
 BR x46
 (R (Value.bool false) w)
 (rF 36 x1 3 w fun x47=>
 rL 33 x47 w fun x48=>
 rN 33 3 x48 w fun x49=>
 LOOPI [50] [(iV 0)] w fun u13 w next13=>
 rC (u13 50) x49 w fun x51=>
 BR x51
 ((fun w=>rF 36 x1 3 w fun x53=>
 rL 33 x53 w fun x54=>
 rX 33 x54 (u13 50) w fun x56=>
 rL 3 x56 w fun x57=>
 rF 36 x1 4 w fun x58=>
 rL 34 x58 w fun x59=>
 rN 34 3 x59 w fun x60=>
 JOIN [8] (fun J18=>
 rA (u13 50) (iV 1) w fun x62=>
 rF 36 x1 3 w fun x63=>
 rL 33 x63 w fun x64=>
 rN 33 3 x64 w fun x65=>
 rC x62 x65 w fun x66=>
 BR x66
 (rF 36 x1 3 w fun x67=>
 rL 33 x67 w fun x68=>
 rA (u13 50) (iV 1) w fun x70=>
 rX 33 x68 x70 w fun x71=>
 rL 3 x71 w fun x72=>
 J18 [x72] w)
 (J18 [x60] w)) (fun u18 w=>
 rB .leq 3 T0 T0 (u18 8) x57 w fun x75=>
 BR x75
 (R (Value.bool false) w)
 (rF 36 x1 4 w fun x78=>
 rL 34 x78 w fun x79=>
 rN 34 3 x79 w fun x80=>
 rB .gtr 3 T0 T0 (u18 8) x80 w fun x81=>
 BR x81
 (R (Value.bool false) w)
 (rF 36 x1 4 w fun x84=>
 rL 34 x84 w fun x85=>
 rB .sub 3 T0 U0 (u18 8) (iV 1) w fun x87=>
 rX 34 x85 x87 w fun x88=>
 rF 84 x88 0 w fun x89=>
 rL 3 x89 w fun x90=>
 rB .neq 3 T0 U0 x90 (iV 9) w fun x91=>
 BR x91
 (R (Value.bool false) w)
 (rA (u13 50) (iV 1) w fun x93=>
 next13 [x93] w))))) (World.drew1 w))
 (R (Value.bool true) w))))))
def cfg118:Cfg:=⟨extL,[(18,9442427122730076733696,[8])],[(5,4393751543848,[3,32]),(13,19807040628564958498479145412,[50])],[(15,[0,1,2,3,4,5,6,7,8,9],0)],[],[],[]⟩
theorem F118_call {a0:Value} {w:World} {R:VW} (h:F118 a0 w R):cL 118 [a0] w R:=co (g:=cfg118) Tryz.func118 (by kernel_rfl) (by kernel_rfl) (by kernel_rfl) h
theorem ziG {w:World} {v0:Value} {W0:World} {c:DCode}  (h0:Is W0 v0 c) (e0:Ext W0 w) (hp:0<c.procs.length) :
   CALL Tryz.prog 118 [v0] w fun r w'=>Ext w w'∧(r=.bool (decide (EntI c))):=by
 refine F118_call ?_
 unfold F118
 refine zaz zdW rfl h0 e0 fun w1_ hx1_ hA1 hV1=>?_
 refine zaa zaG ?_
 refine zab zdi (zao hA1) (Ext.refl w1_) fun v10 h10=>?_
 have hln11:=zah h10
 refine zae u34 h10 ?_
 refine zcT ?_
 refine br (fun c1=>?_) (fun c1=>?_)
 · refine ⟨hx1_,?_⟩
   have:¬EntI c:=fun h=>by have:=h.1;omega
   simp only [this,decide_false]
 refine zaa za5 ?_
 refine zab za1 (zan hA1) (Ext.refl w1_) fun v15 h15=>?_
 have hln16:=zah h15
 refine zae u33 h15 ?_
 refine zaa zcC ?_
 refine zab zcQ (zaW hA1) (Ext.refl w1_) fun v18 h18=>?_
 have hln19:=zah h18
 refine zae u24 h18 ?_
 refine zaO ?_
 refine br (fun c2=>?_) (fun c2=>?_)
 · refine ⟨hx1_,?_⟩
   have:¬EntI c:=fun h=>by have:=h.2.1;omega
   simp only [this,decide_false]
 refine zaa za5 ?_
 refine zab za1 (zan hA1) (Ext.refl w1_) fun v24 h24=>?_
 refine zav u33 ty3 h24 (by omega) (by omega) fun b25 o25 h25=>?_
 refine zac ty3 h25 (Ext.refl w1_) fun hI26=>?_
 refine zaO ?_
 refine br (fun c3=>?_) (fun c3=>?_)
 · refine ⟨hx1_,?_⟩
   rw [zbm] at c3
   have:¬EntI c:=fun h=>c3 h.2.2.1
   simp only [this,decide_false]
 refine zaa zaG ?_
 refine zab zdi (zao hA1) (Ext.refl w1_) fun v30 h30=>?_
 have hln31:=zah h30
 refine zae u34 h30 ?_
 refine zaB (c.ins.length) (fun k us w'=>us=[.int .i64 (zkx c k:Int),.int .i64 (k:Int)]∧Ext w1_ w'∧(True)) (0) (by omega) ⟨rfl,Ext.refl w1_,trivial⟩ ?_
 rintro k m5 uu5 w2_ hk5 ⟨hu,hx2_,hinv⟩
 obtain ⟨hu0,hu1⟩:=ze4 hu;clear hu
 try rw [hu0]
 try rw [hu1]
 try clear hu0 hu1
 have hel:=zqt c k
 refine zai ?_
 refine br (fun c4=>?_) (fun c4=>?_)
 · refine zad u34 zdY h30 (by omega) fun b34 o34 h34=>?_
   refine zab zdY h34 hx2_ fun v35 h35=>?_
   rw [zaP] at h35
   refine zcA zr2 rfl zdY rfl h35 hx2_ fun w3_ hx3_ hA5 hV5=>?_
   refine zaa zbx ?_
   refine zac ty3 (zaC hA5) (Ext.refl w3_) fun hI37=>?_
   refine zaf ?_
   refine br (fun c5=>?_) (fun c5=>?_)
   · refine zag (by omega) ?_
     refine zag (by omega) ?_
     refine ⟨m5-1,by omega,k+1,by omega,by rw [zkx,if_pos c5],(hx2_.trans hx3_),?_⟩
     trivial
   refine zag (by omega) ?_
   refine ⟨m5-1,by omega,k+1,by omega,by rw [zkx,if_neg c5];rfl,(hx2_.trans hx3_),?_⟩
   trivial
 refine zaa za5 ?_
 refine zab za1 (zan hA1) hx2_ fun v44 h44=>?_
 have hln45:=zah h44
 refine zae u33 h44 ?_
 refine zaO ?_
 refine br (fun c6=>?_) (fun c6=>?_)
 · refine ⟨(hx1_.trans hx2_),?_⟩
   have:¬EntI c:=fun h=>c6 (by rw [show k=c.ins.length by omega,h.2.2.2.1])
   simp only [this,decide_false]
 refine zaa za5 ?_
 refine zab za1 (zan hA1) hx2_ fun v48 h48=>?_
 have hln49:=zah h48
 refine zae u33 h48 ?_
 refine zaB (c.entry.length) (fun q us w'=>us=[.int .i64 (q:Int)]∧Ext w2_ w'∧(∀ i,i<q→en c i<zdl c i∧zdl c i≤c.ins.length∧(zap c (zdl c i-1).toNat).op=9)) (0) (by omega) ⟨by simp,Ext.refl w2_,fun i h=>by omega⟩ ?_
 rintro q m13 uu13 w4_ hk13 ⟨hu,hx4_,hent⟩
 simp only [List.map_cons,List.map_nil,List.cons.injEq,and_true] at hu
 try rw [hu]
 try clear hu
 refine zai ?_
 refine br (fun c7=>?_) (fun c7=>?_)
 · have hx5_:=zak w4_
   refine zaa za5 ?_
   refine zab za1 (zan hA1) (hx2_.trans (hx4_.trans hx5_)) fun v54 h54=>?_
   refine zad u33 ty3 h54 (by omega) fun b56 o56 h56=>?_
   refine zac ty3 h56 (hx2_.trans (hx4_.trans hx5_)) fun hI57=>?_
   refine zaa zaG ?_
   refine zab zdi (zao hA1) (hx2_.trans (hx4_.trans hx5_)) fun v59 h59=>?_
   have hln60:=zah h59
   refine zae u34 h59 ?_
   refine JOIN.mk (fun us w'=>us=[.int .i64 (zdl c q)]∧Ext (World.drew1 w4_) w'∧(True)) ?_ ?_
   · refine zag (by omega) ?_
     refine zaa za5 ?_
     refine zab za1 (zan hA1) (hx2_.trans (hx4_.trans hx5_)) fun v64 h64=>?_
     have hln65:=zah h64
     refine zae u33 h64 ?_
     refine zai ?_
     refine br (fun c8=>?_) (fun c8=>?_)
     · refine zaa za5 ?_
       refine zab za1 (zan hA1) (hx2_.trans (hx4_.trans hx5_)) fun v68 h68=>?_
       refine zag (by omega) ?_
       refine zad u33 ty3 h68 (by omega) fun b71 o71 h71=>?_
       refine zac ty3 h71 (hx2_.trans (hx4_.trans hx5_)) fun hI72=>?_
       refine ⟨by unfold zdl;rw [if_pos (by omega),zbm],Ext.refl (World.drew1 w4_),?_⟩
       trivial
     refine ⟨by unfold zdl;rw [if_neg (by omega)],Ext.refl (World.drew1 w4_),?_⟩
     trivial
   rintro uj18 w6_ ⟨hu,hx6_,hinv⟩
   simp only [List.map_cons,List.map_nil,List.cons.injEq,and_true] at hu
   try rw [hu]
   try clear hu
   refine zdD ?_
   refine br (fun c9=>?_) (fun c9=>?_)
   · refine ⟨(hx1_.trans (hx2_.trans (hx4_.trans (hx5_.trans hx6_)))),?_⟩
     rw [zbm] at c9
     have:¬EntI c:=fun h=>by have:=(h.2.2.2.2 q (by omega)).1;omega
     simp only [this,decide_false]
   refine zaa zaG ?_
   refine zab zdi (zao hA1) (hx2_.trans (hx4_.trans (hx5_.trans hx6_))) fun v79 h79=>?_
   have hln80:=zah h79
   refine zae u34 h79 ?_
   refine zcT ?_
   refine br (fun c10=>?_) (fun c10=>?_)
   · refine ⟨(hx1_.trans (hx2_.trans (hx4_.trans (hx5_.trans hx6_)))),?_⟩
     have:¬EntI c:=fun h=>by have:=(h.2.2.2.2 q (by omega)).2.1;omega
     simp only [this,decide_false]
   refine zaa zaG ?_
   refine zab zdi (zao hA1) (hx2_.trans (hx4_.trans (hx5_.trans hx6_))) fun v85 h85=>?_
   rw [zbm] at c3 c9
   have hq0:=zge (Decidable.not_not.1 c3) (q:=q) (by omega) fun i hi=>(hent i hi).1
   refine za3 (by unfold I64;omega) ?_
   refine zav u34 zdY h85 (by omega) (by omega) fun b88 o88 h88=>?_
   refine zaa zbx ?_
   refine zac ty3 (zaC h88) (hx2_.trans (hx4_.trans (hx5_.trans hx6_))) fun hI90=>?_
   refine zaO ?_
   refine br (fun c11=>?_) (fun c11=>?_)
   · refine ⟨(hx1_.trans (hx2_.trans (hx4_.trans (hx5_.trans hx6_)))),?_⟩
     rw [zaP] at c11
     have:¬EntI c:=fun h=>c11 (h.2.2.2.2 q (by omega)).2.2
     simp only [this,decide_false]
   refine zag (by omega) ?_
   refine ⟨m13-1,by omega,q+1,by omega,by simp,(hx4_.trans (hx5_.trans hx6_)),?_⟩
   rw [zaP] at c11
   exact zgG hent ⟨by omega,by omega,Decidable.not_not.1 c11⟩
 refine ⟨(hx1_.trans (hx2_.trans hx4_)),?_⟩
 rw [zbm] at c3
 have:EntI c:=⟨by omega,by omega,Decidable.not_not.1 c3,by rw [show c.ins.length=k by omega];omega,fun i hi=>hent i (by omega)⟩
 simp only [this,decide_true]
def F188 (a0 a1:Value) (w:World) (R:VW):Prop:=
 oP (Instr.box 36 a0) w fun x2 w=>
 rB .eql 3 T0 U0 a1 (iV 1) w fun x7=>
 BR x7
 (rF 36 x2 0 w fun x8=>
 rL 24 x8 w fun x9=>
 rN 24 3 x9 w fun x10=>
 R x10 w)
 (rB .eql 3 T0 U0 a1 (iV 4) w fun x12=>
 BR x12
 (rF 36 x2 2 w fun x14=>
 rL 24 x14 w fun x15=>
 rN 24 3 x15 w fun x16=>
 R x16 w)
 (rB .eql 3 T0 U0 a1 (iV 5) w fun x13=>
 BR x13
 (rF 36 x2 2 w fun x14=>
 rL 24 x14 w fun x15=>
 rN 24 3 x15 w fun x16=>
 R x16 w)
 (rB .eql 3 T0 U0 a1 (iV 6) w fun x18=>
 BR x18
 (rF 36 x2 1 w fun x20=>
 rL 24 x20 w fun x21=>
 rN 24 3 x21 w fun x22=>
 R x22 w)
 (rB .eql 3 T0 U0 a1 (iV 7) w fun x19=>
 BR x19
 (rF 36 x2 1 w fun x20=>
 rL 24 x20 w fun x21=>
 rN 24 3 x21 w fun x22=>
 R x22 w)
 (R (iV 1) w)))))
def cfg188:Cfg:=⟨extL,[],[],[],[],[],[]⟩
theorem F188_call {a0 a1:Value} {w:World} {R:VW} (h:F188 a0 a1 w R):cL 188 [a0,a1] w R:=co (g:=cfg188) Tryz.func188 (by kernel_rfl) (by kernel_rfl) (by kernel_rfl) h
theorem zpd {w:World} {v0:Value} {W0:World} {c:DCode} {op:Int}  (h0:Is W0 v0 c) (e0:Ext W0 w)  :
   CALL Tryz.prog 188 [v0,.int .i64 op] w fun r w'=>Ext w w'∧(r=.int .i64 (zbG c op)):=by
 refine F188_call ?_
 unfold F188
 refine zaz zdW rfl h0 e0 fun w1_ hx1_ hA2 hV2=>?_
 refine zaf ?_
 refine br (fun c1=>?_) (fun c1=>?_)
 · refine zaa zc5 ?_
   refine zab zcQ (za9 hA2) (Ext.refl w1_) fun v9 h9=>?_
   have hln10:=zah h9
   refine zae u24 h9 ?_
   refine ⟨hx1_,?_⟩
   unfold zbG;rw [if_pos c1]
 refine zaf ?_
 refine br (fun c2=>?_) (fun c2=>?_)
 · refine zaa zcC ?_
   refine zab zcQ (zaW hA2) (Ext.refl w1_) fun v15 h15=>?_
   have hln16:=zah h15
   refine zae u24 h15 ?_
   refine ⟨hx1_,?_⟩
   unfold zbG;rw [if_neg (by omega),if_pos (by omega)]
 refine zaf ?_
 refine br (fun c3=>?_) (fun c3=>?_)
 · refine zaa zcC ?_
   refine zab zcQ (zaW hA2) (Ext.refl w1_) fun v15 h15=>?_
   have hln16:=zah h15
   refine zae u24 h15 ?_
   refine ⟨hx1_,?_⟩
   unfold zbG;rw [if_neg (by omega),if_pos (by omega)]
 refine zaf ?_
 refine br (fun c4=>?_) (fun c4=>?_)
 · refine zaa ze5 ?_
   refine zab zcQ (zca hA2) (Ext.refl w1_) fun v21 h21=>?_
   have hln22:=zah h21
   refine zae u24 h21 ?_
   refine ⟨hx1_,?_⟩
   unfold zbG;rw [if_neg (by omega),if_neg (by omega),if_pos (by omega)]
 refine zaf ?_
 refine br (fun c5=>?_) (fun c5=>?_)
 · refine zaa ze5 ?_
   refine zab zcQ (zca hA2) (Ext.refl w1_) fun v21 h21=>?_
   have hln22:=zah h21
   refine zae u24 h21 ?_
   refine ⟨hx1_,?_⟩
   unfold zbG;rw [if_neg (by omega),if_neg (by omega),if_pos (by omega)]
 refine ⟨hx1_,?_⟩
 unfold zbG;rw [if_neg (by omega),if_neg (by omega),if_neg (by omega)]
def F120 (a0 a1 a2 a3:Value) (w:World) (R:VW):Prop:=
 oP (Instr.box 36 a0) w fun x4 w=>
 oP (Instr.box 84 a1) w fun x5 w=>
 (fun w=>rF 84 x5 0 w fun x11=>
 rL 3 x11 w fun x12=>
 rB .lss 3 T0 U0 x12 (iV 1) w fun x13=>
 BR x13
 (R (Value.bool false) w)
 (rF 84 x5 0 w fun x15=>
 rL 3 x15 w fun x16=>
 rB .gtr 3 T0 U0 x16 (iV 9) w fun x17=>
 BR x17
 (R (Value.bool false) w)
 (rF 84 x5 1 w fun x20=>
 rL 3 x20 w fun x21=>
 rB .lss 3 T0 U0 x21 (iV 0) w fun x22=>
 BR x22
 (R (Value.bool false) w)
 (rF 84 x5 1 w fun x25=>
 rL 3 x25 w fun x26=>
 rL 36 x4 w fun x27=>
 rF 84 x5 0 w fun x28=>
 rL 3 x28 w fun x29=>
 (fun w_=>cL 188 [x27,x29] w_ fun x30 w=>
 Ext w_ w ∧
 rB .geq 3 T0 T0 x26 x30 w fun x31=>
 BR x31
 (R (Value.bool false) w)
 (JOIN [] (fun J14=>
 rF 84 x5 0 w fun x33=>
 rL 3 x33 w fun x34=>
 rB .eql 3 T0 U0 x34 (iV 1) w fun x35=>
 BR x35
 (rF 84 x5 2 w fun x41=>
 rL 53 x41 w fun x42=>
 cL 189 [x42] w fun x43 w=>
 rD (Op.unary .not x43) w fun x44=>
 BR x44
 (R (Value.bool false) w)
 (rF 84 x5 2 w fun x45=>
 rL 53 x45 w fun x46=>
 cL 182 [x46] w fun x47 w=>
 rN 24 3 x47 w fun x48=>
 LOOPI [49] [(iV 0)] w fun u7 w next7=>
 rC (u7 49) x48 w fun x50=>
 BR x50
 (rX 24 x47 (u7 49) w fun x51=>
 rL 9 x51 w fun x52=>
 rF 36 x4 0 w fun x53=>
 rL 24 x53 w fun x54=>
 cL 99 [x54,x52] w fun x56 w=>
 rD (Op.unary .not x56) w fun x57=>
 BR x57
 (R (Value.bool false) w)
 (rA (u7 49) (iV 1) w fun x58=>
 next7 [x58] w))
 (J14 [] w)))
 (rF 84 x5 0 w fun x37=>
 rL 3 x37 w fun x38=>
 rB .eql 3 T0 U0 x38 (iV 2) w fun x39=>
 BR x39
 (rF 84 x5 2 w fun x41=>
 rL 53 x41 w fun x42=>
 cL 189 [x42] w fun x43 w=>
 rD (Op.unary .not x43) w fun x44=>
 BR x44
 (R (Value.bool false) w)
 (rF 84 x5 2 w fun x45=>
 rL 53 x45 w fun x46=>
 cL 182 [x46] w fun x47 w=>
 rN 24 3 x47 w fun x48=>
 LOOPI [49] [(iV 0)] w fun u7 w next7=>
 rC (u7 49) x48 w fun x50=>
 BR x50
 (rX 24 x47 (u7 49) w fun x51=>
 rL 9 x51 w fun x52=>
 rF 36 x4 0 w fun x53=>
 rL 24 x53 w fun x54=>
 cL 99 [x54,x52] w fun x56 w=>
 rD (Op.unary .not x56) w fun x57=>
 BR x57
 (R (Value.bool false) w)
 (rA (u7 49) (iV 1) w fun x58=>
 next7 [x58] w))
 (J14 [] w)))
 (rF 84 x5 2 w fun x59=>
 rL 53 x59 w fun x60=>
 cL 190 [x60] w fun x61 w=>
 rD (Op.unary .not x61) w fun x62=>
 BR x62
 (R (Value.bool false) w)
 (J14 [] w)))) (fun u14 w=>
 rF 84 x5 0 w fun x63=>
 rL 3 x63 w fun x64=>
 rB .eql 3 T0 U0 x64 (iV 2) w fun x65=>
 BR x65
 (rF 84 x5 3 w fun x71=>
 rL 3 x71 w fun x72=>
 rB .geq 3 T0 T0 x72 a2 w fun x74=>
 BR x74
 (rF 84 x5 3 w fun x76=>
 rL 3 x76 w fun x77=>
 rC x77 a3 w fun x79=>
 R x79 w)
 (R (Value.bool false) w))
 (rF 84 x5 0 w fun x67=>
 rL 3 x67 w fun x68=>
 rB .eql 3 T0 U0 x68 (iV 3) w fun x69=>
 BR x69
 (rF 84 x5 3 w fun x71=>
 rL 3 x71 w fun x72=>
 rB .geq 3 T0 T0 x72 a2 w fun x74=>
 BR x74
 (rF 84 x5 3 w fun x76=>
 rL 3 x76 w fun x77=>
 rC x77 a3 w fun x79=>
 R x79 w)
 (R (Value.bool false) w))
 (rF 84 x5 3 w fun x81=>
 rL 3 x81 w fun x82=>
 rB .eql 3 T0 U0 x82 (iV 0) w fun x83=>
 R x83 w))))) w)))) (World.drew1 w)
def cfg120:Cfg:=⟨extL,[(14,9223372028264842496,[])],[(7,575897802350003456,[49])],[(1,[0,1,2,3,4,5,6,7,8,9,10,11,12,13,14,15,16,17,18,19,20,21],524288)],[],[],[]⟩
theorem F120_call {a0 a1 a2 a3:Value} {w:World} {R:VW} (h:F120 a0 a1 a2 a3 w R):cL 120 [a0,a1,a2,a3] w R:=co (g:=cfg120) Tryz.func120 (by kernel_rfl) (by kernel_rfl) (by kernel_rfl) h
theorem zm2 {w:World} {v0:Value} {W0:World} {c:DCode} {v1:Value} {W1:World} {a:DIns} {b:Int} {e:Int}  (h0:Is W0 v0 c) (e0:Ext W0 w) (h1:Is W1 v1 a) (e1:Ext W1 w)  :
   CALL Tryz.prog 120 [v0,v1,.int .i64 b,.int .i64 e] w fun r w'=>Ext w w'∧(r=.bool (decide (zf6 c a b e))):=by
 refine F120_call ?_
 unfold F120
 refine zaz zdW rfl h0 e0 fun w1_ hx1_ hA4 hV4=>?_
 refine zaz zdY rfl h1 (e1.trans hx1_) fun w2_ hx2_ hA5 hV5=>?_
 have hx3_:=zak w2_
 refine zaa zbx ?_
 refine zac ty3 (zaC hA5) hx3_ fun hI12=>?_
 refine zai ?_
 refine br (fun c1=>?_) (fun c1=>?_)
 · refine ⟨(hx1_.trans (hx2_.trans hx3_)),?_⟩
   have:¬zf6 c a b e:=fun h=>by have:=h.1;omega
   simp only [this,decide_false]
 refine zaa zbx ?_
 refine zac ty3 (zaC hA5) hx3_ fun hI16=>?_
 refine zcT ?_
 refine br (fun c2=>?_) (fun c2=>?_)
 · refine ⟨(hx1_.trans (hx2_.trans hx3_)),?_⟩
   have:¬zf6 c a b e:=fun h=>by have:=h.1;omega
   simp only [this,decide_false]
 refine zaa zby ?_
 refine zac ty3 (zaD hA5) hx3_ fun hI21=>?_
 refine zai ?_
 refine br (fun c3=>?_) (fun c3=>?_)
 · refine ⟨(hx1_.trans (hx2_.trans hx3_)),?_⟩
   have:¬zf6 c a b e:=fun h=>by have:=h.2.1;omega
   simp only [this,decide_false]
 refine zaa zby ?_
 refine zac ty3 (zaD hA5) hx3_ fun hI26=>?_
 refine zbd hV4 (hx2_.trans hx3_) ?_
 refine zaa zbx ?_
 refine zac ty3 (zaC hA5) hx3_ fun hI29=>?_
 refine (zpd h0 (e0.trans (hx1_.trans (hx2_.trans hx3_)))).mono ?_
 rintro _ w4_ ⟨hx4_,rfl⟩
 refine ⟨hx4_,?_⟩
 refine zb5 ?_
 refine br (fun c4=>?_) (fun c4=>?_)
 · refine ⟨(hx1_.trans (hx2_.trans (hx3_.trans hx4_))),?_⟩
   have:¬zf6 c a b e:=fun h=>by have:=h.2.1;omega
   simp only [this,decide_false]
 refine JOIN.mk (fun us w'=>us=[]∧Ext w4_ w'∧(if a.op=1∨a.op=2 then zaL 6 a.term=true∧(∀ s∈zbl a.term,s∈c.globals) else a.term=term0)) ?_ ?_
 · refine zaa zbx ?_
   refine zac ty3 (zaC hA5) (hx3_.trans hx4_) fun hI34=>?_
   refine zaf ?_
   refine br (fun c5=>?_) (fun c5=>?_)
   · refine zaa zdZ ?_
     refine zab zcd (zbz hA5) (hx3_.trans hx4_) fun v42 h42=>?_
     refine (zcv h42 (hx3_.trans hx4_)).mono ?_
     rintro _ w6_ ⟨hx6_,rfl⟩
     refine zaU ?_
     refine zb4 (fun c6=>?_) (fun c6=>?_)
     · refine ⟨(hx1_.trans (hx2_.trans (hx3_.trans (hx4_.trans hx6_)))),?_⟩
       have:¬zf6 c a b e:=fun h=>by have:=h.2.2.1;rw [if_pos (.inl c5)] at this;rw [this.1] at c6;cases c6
       simp only [this,decide_false]
     refine zaa zdZ ?_
     refine zab zcd (zbz hA5) (hx3_.trans (hx4_.trans hx6_)) fun v46 h46=>?_
     refine (zdk h46 (hx3_.trans (hx4_.trans hx6_))).mono ?_
     rintro r47 w7_ ⟨hx7_,h47⟩
     have hln48:=zah h47
     refine zae u24 h47 ?_
     refine zaB ((zbl a.term).length) (fun k us w'=>us=[.int .i64 (k:Int)]∧Ext w7_ w'∧(∀ s∈(zbl a.term).take k,s∈c.globals)) (0) (by omega) ⟨by simp,Ext.refl w7_,by simp⟩ ?_
     rintro k m7 uu7 w8_ hk7 ⟨hu,hx8_,hinv⟩
     simp only [List.map_cons,List.map_nil,List.cons.injEq,and_true] at hu
     try rw [hu]
     try clear hu
     refine zai ?_
     refine br (fun c7=>?_) (fun c7=>?_)
     · refine zad u24 ty9 h47 (by omega) fun b51 o51 h51=>?_
       refine zas ty9 h51 hx8_ fun hS52=>?_
       refine zaa zc5 ?_
       refine zab zcQ (za9 hA4) (hx2_.trans (hx3_.trans (hx4_.trans (hx6_.trans (hx7_.trans hx8_))))) fun v54 h54=>?_
       refine (zbt h54 (hx2_.trans (hx3_.trans (hx4_.trans (hx6_.trans (hx7_.trans hx8_)))))).mono ?_
       rintro _ w9_ ⟨hx9_,rfl⟩
       refine zaS ?_
       refine br (fun c8=>?_) (fun c8=>?_)
       · refine ⟨(hx1_.trans (hx2_.trans (hx3_.trans (hx4_.trans (hx6_.trans (hx7_.trans (hx8_.trans hx9_))))))),?_⟩
         have:¬zf6 c a b e:=fun h=>by
           have:=h.2.2.1;rw [if_pos (.inl c5)] at this
           exact c8 (this.2 _ (List.getElem_mem (n:=k) (by omega)))
         simp only [this,decide_false]
       refine zag (by omega) ?_
       refine ⟨m7-1,by omega,k+1,by omega,by simp,(hx8_.trans hx9_),?_⟩
       intro s hs
       rw [List.take_succ_eq_append_getElem (by omega)] at hs
       rcases List.mem_append.1 hs with hs | hs
       · exact hinv s hs
       simp only [List.mem_cons,List.not_mem_nil,or_false] at hs
       subst hs
       exact Decidable.not_not.1 c8
     refine ⟨by simp,(hx6_.trans (hx7_.trans hx8_)),?_⟩
     rw [if_pos (.inl c5)]
     rw [List.take_of_length_le (by omega)] at hinv
     exact ⟨by simpa using c6,hinv⟩
   refine zaa zbx ?_
   refine zac ty3 (zaC hA5) (hx3_.trans hx4_) fun hI38=>?_
   refine zaf ?_
   refine br (fun c9=>?_) (fun c9=>?_)
   · refine zaa zdZ ?_
     refine zab zcd (zbz hA5) (hx3_.trans hx4_) fun v42 h42=>?_
     refine (zcv h42 (hx3_.trans hx4_)).mono ?_
     rintro _ w10_ ⟨hx10_,rfl⟩
     refine zaU ?_
     refine zb4 (fun c10=>?_) (fun c10=>?_)
     · refine ⟨(hx1_.trans (hx2_.trans (hx3_.trans (hx4_.trans hx10_)))),?_⟩
       have:¬zf6 c a b e:=fun h=>by have:=h.2.2.1;rw [if_pos (.inr c9)] at this;rw [this.1] at c10;cases c10
       simp only [this,decide_false]
     refine zaa zdZ ?_
     refine zab zcd (zbz hA5) (hx3_.trans (hx4_.trans hx10_)) fun v46 h46=>?_
     refine (zdk h46 (hx3_.trans (hx4_.trans hx10_))).mono ?_
     rintro r47 w11_ ⟨hx11_,h47⟩
     have hln48:=zah h47
     refine zae u24 h47 ?_
     refine zaB ((zbl a.term).length) (fun k us w'=>us=[.int .i64 (k:Int)]∧Ext w11_ w'∧(∀ s∈(zbl a.term).take k,s∈c.globals)) (0) (by omega) ⟨by simp,Ext.refl w11_,by simp⟩ ?_
     rintro k m7 uu7 w12_ hk7 ⟨hu,hx12_,hinv⟩
     simp only [List.map_cons,List.map_nil,List.cons.injEq,and_true] at hu
     try rw [hu]
     try clear hu
     refine zai ?_
     refine br (fun c11=>?_) (fun c11=>?_)
     · refine zad u24 ty9 h47 (by omega) fun b51 o51 h51=>?_
       refine zas ty9 h51 hx12_ fun hS52=>?_
       refine zaa zc5 ?_
       refine zab zcQ (za9 hA4) (hx2_.trans (hx3_.trans (hx4_.trans (hx10_.trans (hx11_.trans hx12_))))) fun v54 h54=>?_
       refine (zbt h54 (hx2_.trans (hx3_.trans (hx4_.trans (hx10_.trans (hx11_.trans hx12_)))))).mono ?_
       rintro _ w13_ ⟨hx13_,rfl⟩
       refine zaS ?_
       refine br (fun c12=>?_) (fun c12=>?_)
       · refine ⟨(hx1_.trans (hx2_.trans (hx3_.trans (hx4_.trans (hx10_.trans (hx11_.trans (hx12_.trans hx13_))))))),?_⟩
         have:¬zf6 c a b e:=fun h=>by
           have:=h.2.2.1;rw [if_pos (.inr c9)] at this
           exact c12 (this.2 _ (List.getElem_mem (n:=k) (by omega)))
         simp only [this,decide_false]
       refine zag (by omega) ?_
       refine ⟨m7-1,by omega,k+1,by omega,by simp,(hx12_.trans hx13_),?_⟩
       intro s hs
       rw [List.take_succ_eq_append_getElem (by omega)] at hs
       rcases List.mem_append.1 hs with hs | hs
       · exact hinv s hs
       simp only [List.mem_cons,List.not_mem_nil,or_false] at hs
       subst hs
       exact Decidable.not_not.1 c12
     refine ⟨by simp,(hx10_.trans (hx11_.trans hx12_)),?_⟩
     rw [if_pos (.inr c9)]
     rw [List.take_of_length_le (by omega)] at hinv
     exact ⟨by simpa using c10,hinv⟩
   refine zaa zdZ ?_
   refine zab zcd (zbz hA5) (hx3_.trans hx4_) fun v60 h60=>?_
   refine (zcw h60 (hx3_.trans hx4_)).mono ?_
   rintro _ w14_ ⟨hx14_,rfl⟩
   refine zaS ?_
   refine br (fun c13=>?_) (fun c13=>?_)
   · refine ⟨(hx1_.trans (hx2_.trans (hx3_.trans (hx4_.trans hx14_)))),?_⟩
     have:¬zf6 c a b e:=fun h=>by have:=h.2.2.1;rw [if_neg (by omega)] at this;exact c13 this
     simp only [this,decide_false]
   refine ⟨by simp,hx14_,?_⟩
   rw [if_neg (by omega)]
   exact Decidable.not_not.1 c13
 rintro uj14 w5_ ⟨hu,hx14_,hT⟩
 simp only [List.map_cons,List.map_nil,List.cons.injEq,and_true] at hu
 clear hu
 refine zaa zbx ?_
 refine zac ty3 (zaC hA5) (hx3_.trans (hx4_.trans hx14_)) fun hI64=>?_
 refine zaf ?_
 refine br (fun c14=>?_) (fun c14=>?_)
 · refine zaa zd0 ?_
   refine zac ty3 (zbI hA5) (hx3_.trans (hx4_.trans hx14_)) fun hI72=>?_
   refine zb5 ?_
   refine br (fun c15=>?_) (fun c15=>?_)
   · refine zaa zd0 ?_
     refine zac ty3 (zbI hA5) (hx3_.trans (hx4_.trans hx14_)) fun hI77=>?_
     refine zai ?_
     refine ⟨(hx1_.trans (hx2_.trans (hx3_.trans (hx4_.trans hx14_)))),?_⟩
     first
       | (have no:¬zf6 c a b e:=fun h=>by
           have h4:=h.2.2.2;rw [if_pos (by omega)] at h4;omega
          simp only [no,decide_false]
          done)
       | (congr 1
          rw [decide_eq_decide]
          constructor
          · exact fun h=>⟨by omega,by omega,hT,by first | (rw [if_pos (by omega)];omega) | (rw [if_neg (by omega)];omega)⟩
          intro h
          have h4:=h.2.2.2
          first | (rw [if_pos (by omega)] at h4;omega) | (rw [if_neg (by omega)] at h4;omega))
   refine ⟨(hx1_.trans (hx2_.trans (hx3_.trans (hx4_.trans hx14_)))),?_⟩
   first
     | (have no:¬zf6 c a b e:=fun h=>by
         have h4:=h.2.2.2;rw [if_pos (by omega)] at h4;omega
        simp only [no,decide_false]
        done)
     | (congr 1
        rw [decide_eq_decide]
        constructor
        · exact fun h=>⟨by omega,by omega,hT,by first | (rw [if_pos (by omega)];omega) | (rw [if_neg (by omega)];omega)⟩
        intro h
        have h4:=h.2.2.2
        first | (rw [if_pos (by omega)] at h4;omega) | (rw [if_neg (by omega)] at h4;omega))
 refine zaa zbx ?_
 refine zac ty3 (zaC hA5) (hx3_.trans (hx4_.trans hx14_)) fun hI68=>?_
 refine zaf ?_
 refine br (fun c16=>?_) (fun c16=>?_)
 · refine zaa zd0 ?_
   refine zac ty3 (zbI hA5) (hx3_.trans (hx4_.trans hx14_)) fun hI72=>?_
   refine zb5 ?_
   refine br (fun c17=>?_) (fun c17=>?_)
   · refine zaa zd0 ?_
     refine zac ty3 (zbI hA5) (hx3_.trans (hx4_.trans hx14_)) fun hI77=>?_
     refine zai ?_
     refine ⟨(hx1_.trans (hx2_.trans (hx3_.trans (hx4_.trans hx14_)))),?_⟩
     first
       | (have no:¬zf6 c a b e:=fun h=>by
           have h4:=h.2.2.2;rw [if_pos (by omega)] at h4;omega
          simp only [no,decide_false]
          done)
       | (congr 1
          rw [decide_eq_decide]
          constructor
          · exact fun h=>⟨by omega,by omega,hT,by first | (rw [if_pos (by omega)];omega) | (rw [if_neg (by omega)];omega)⟩
          intro h
          have h4:=h.2.2.2
          first | (rw [if_pos (by omega)] at h4;omega) | (rw [if_neg (by omega)] at h4;omega))
   refine ⟨(hx1_.trans (hx2_.trans (hx3_.trans (hx4_.trans hx14_)))),?_⟩
   first
     | (have no:¬zf6 c a b e:=fun h=>by
         have h4:=h.2.2.2;rw [if_pos (by omega)] at h4;omega
        simp only [no,decide_false]
        done)
     | (congr 1
        rw [decide_eq_decide]
        constructor
        · exact fun h=>⟨by omega,by omega,hT,by first | (rw [if_pos (by omega)];omega) | (rw [if_neg (by omega)];omega)⟩
        intro h
        have h4:=h.2.2.2
        first | (rw [if_pos (by omega)] at h4;omega) | (rw [if_neg (by omega)] at h4;omega))
 refine zaa zd0 ?_
 refine zac ty3 (zbI hA5) (hx3_.trans (hx4_.trans hx14_)) fun hI82=>?_
 refine zaf ?_
 refine ⟨(hx1_.trans (hx2_.trans (hx3_.trans (hx4_.trans hx14_)))),?_⟩
 first
   | (have no:¬zf6 c a b e:=fun h=>by
       have h4:=h.2.2.2;rw [if_pos (by omega)] at h4;omega
      simp only [no,decide_false]
      done)
   | (congr 1
      rw [decide_eq_decide]
      constructor
      · exact fun h=>⟨by omega,by omega,hT,by first | (rw [if_pos (by omega)];omega) | (rw [if_neg (by omega)];omega)⟩
      intro h
      have h4:=h.2.2.2
      first | (rw [if_pos (by omega)] at h4;omega) | (rw [if_neg (by omega)] at h4;omega))
def F119 (a0 a1:Value) (w:World) (R:VW):Prop:=
 oP (Instr.box 36 a0) w fun x2 w=>
 rA a1 (iV 1) w fun x6=>
 rF 36 x2 3 w fun x7=>
 rL 33 x7 w fun x8=>
 rN 33 3 x8 w fun x9=>
 rC x6 x9 w fun x10=>
 BR x10
 (rF 36 x2 3 w fun x11=>
 rL 33 x11 w fun x12=>
 rA a1 (iV 1) w fun x14=>
 rX 33 x12 x14 w fun x15=>
 rL 3 x15 w fun x16=>
 R x16 w)
 (rF 36 x2 4 w fun x17=>
 rL 34 x17 w fun x18=>
 rN 34 3 x18 w fun x19=>
 R x19 w)
def cfg119:Cfg:=⟨extL,[],[],[],[],[],[]⟩
theorem F119_call {a0 a1:Value} {w:World} {R:VW} (h:F119 a0 a1 w R):cL 119 [a0,a1] w R:=co (g:=cfg119) Tryz.func119 (by kernel_rfl) (by kernel_rfl) (by kernel_rfl) h
theorem zdq {w:World} {v0:Value} {W0:World} {c:DCode} {i:Nat}  (h0:Is W0 v0 c) (e0:Ext W0 w) (hi:i<1000000000000) :
   CALL Tryz.prog 119 [v0,.int .i64 (i:Int)] w fun r w'=>Ext w w'∧(r=.int .i64 (zdl c i)):=by
 refine F119_call ?_
 unfold F119
 refine zaz zdW rfl h0 e0 fun w1_ hx1_ hA2 hV2=>?_
 refine zag (by omega) ?_
 refine zaa za5 ?_
 refine zab za1 (zan hA2) (Ext.refl w1_) fun v8 h8=>?_
 have hln9:=zah h8
 refine zae u33 h8 ?_
 refine zai ?_
 refine br (fun c1=>?_) (fun c1=>?_)
 · refine zaa za5 ?_
   refine zab za1 (zan hA2) (Ext.refl w1_) fun v12 h12=>?_
   refine zag (by omega) ?_
   refine zad u33 ty3 h12 (by omega) fun b15 o15 h15=>?_
   refine zac ty3 h15 (Ext.refl w1_) fun hI16=>?_
   refine ⟨hx1_,?_⟩
   unfold zdl;rw [if_pos (by omega),zbm]
 refine zaa zaG ?_
 refine zab zdi (zao hA2) (Ext.refl w1_) fun v18 h18=>?_
 have hln19:=zah h18
 refine zae u34 h18 ?_
 refine ⟨hx1_,?_⟩
 unfold zdl;rw [if_neg (by omega)]
structure EntF (c:DCode):Prop where
 len:c.entry.length=c.procs.length
 ins:c.ins.length≤1500
 zero:en c 0=0
 lt:∀ i,i<c.entry.length→en c i<zdl c i∧zdl c i≤c.ins.length
theorem EntF.nonneg {c:DCode} (h:EntF c) {i:Nat} (hi:i<c.entry.length):0≤en c i:=zge h.zero hi fun j hj=>(h.lt j (by omega)).1
theorem EntF.step {c:DCode} (h:EntF c) {i:Nat} (hi:i+1<c.entry.length):zdl c i=en c (i+1):=by unfold zdl;rw [if_pos hi]
theorem EntF.last {c:DCode} (h:EntF c) {i:Nat} (hi:i+1=c.entry.length):zdl c i=c.ins.length:=by unfold zdl;rw [if_neg (by omega)]
theorem EntF.mono {c:DCode} (h:EntF c):∀ {i j:Nat},i<j→j<c.entry.length→zdl c i≤en c j
 | i,j+1,hij,hj=>by
   by_cases e:i=j
   · subst e;rw [h.step hj];exact Int.le_refl _
   have h1:=h.mono (i:=i) (j:=j) (by omega) (by omega)
   have h2:=(h.lt j (by omega)).1
   rw [h.step hj] at h2
   omega
theorem EntF.proc {c:DCode} (h:EntF c) {i:Nat} {a:Int} (hi:i<c.entry.length) (h1:en c i≤a) (h2:a<zdl c i):zar c a=i:=by
 unfold zar
 rw [zh8 (m:=i+1) (by omega) fun j hj1 hj2=>by have:=h.mono (i:=i) (j:=j) (by omega) hj2;omega]
 rw [prc,if_pos h1]
theorem EntF.find {c:DCode} (h:EntF c) (hp:0<c.procs.length) {a:Int} (h0:0≤a) (h1:a<c.ins.length):∃ i,i<c.entry.length∧en c i≤a∧a<zdl c i∧zar c a=i:=by
 have hlen:=h.len
 have h2:0≤zar c a:=zhh (by rw [h.zero];exact h0) (by omega)
 have h3:=(zgF (c:=c) (a:=a)).2
 have key:∀ n,n≤c.entry.length→(∀ j,n≤j→j<c.entry.length→a<en c j)→0<n→∃ i,i<n∧en c i≤a∧a<zdl c i:=by
   intro n
   induction n with
   | zero=>intro _ _ h;omega
   | succ n ih=>
     intro hn hj _
     by_cases hle:en c n≤a
     · refine ⟨n,by omega,hle,?_⟩
       by_cases hl:n+1<c.entry.length
       · rw [h.step hl];exact hj (n+1) (by omega) hl
       rw [h.last (by omega)];exact h1
     by_cases h0n:n=0
     · subst h0n;rw [h.zero] at hle;omega
     obtain ⟨i,hi,hx⟩:=ih (by omega) (fun j hj1 hj2=>by
       by_cases e:j=n
       · subst e;omega
       exact hj j (by omega) hj2) (by omega)
     exact ⟨i,by omega,hx⟩
 obtain ⟨i,hi,hx,hy⟩:=key c.entry.length (Nat.le_refl _) (fun j hj1 hj2=>by omega) (by omega)
 exact ⟨i,hi,hx,hy,h.proc hi hx hy⟩
theorem EntS.f {c:DCode} (h:EntS c) (hp:0<c.procs.length):EntF c:=by
 obtain ⟨h1,h2,h3,h4⟩:=h
 refine ⟨h1,h2,(h3 0 (by omega)).1 rfl,fun i hi=>?_⟩
 unfold zdl
 split
 · rename_i hl
   have:=h3 (i+1) hl
   have h5:=this.2.1 (by omega)
   simp only [Nat.add_sub_cancel] at h5
   exact ⟨h5,by omega⟩
 exact ⟨(h3 i hi).2.2,Int.le_refl _⟩
theorem EntI.f {c:DCode} (h:EntI c):EntF c:=⟨h.2.1,h.1,h.2.2.1,fun i hi=>⟨(h.2.2.2.2 i hi).1,(h.2.2.2.2 i hi).2.1⟩⟩
theorem zqu (c:DCode) (a:Nat):∀ (d:Nat),zkx c a≤zkx c (a+d)∧(zkx c (a+d)=zkx c a↔∀ j,a≤j→j<a+d→¬(zap c j).op=9)
 | 0=>⟨Nat.le_refl _,⟨fun _ j h1 h2=>by omega,fun _=>rfl⟩⟩
 | d+1=>by
   obtain ⟨h1,h2⟩:=zqu c a d
   rw [←Nat.add_assoc,zkx]
   refine ⟨by omega,?_⟩
   split
   · rename_i h9
     exact ⟨fun h=>by omega,fun h=>absurd h9 (h (a+d) (by omega) (by omega))⟩
   rename_i h9
   rw [Nat.add_zero,h2]
   constructor
   · intro h j hj1 hj2
     by_cases e:j=a+d
     · subst e;exact h9
     exact h j hj1 (by omega)
   exact fun h j hj1 hj2=>h j hj1 (by omega)
def eb (c:DCode) (n:Nat):Nat:=if n=0 then 0 else (zdl c (n-1)).toNat
theorem EntF.eb_en {c:DCode} (h:EntF c) {n:Nat} (hn:n<c.entry.length):(eb c n:Int)=en c n:=by
 unfold eb
 split
 · rename_i h0;subst h0;rw [h.zero];rfl
 have h1:=h.nonneg hn
 have h2:zdl c (n-1)=en c n:=by
   have:=h.step (i:=n-1) (by omega)
   rwa [show n-1+1=n by omega] at this
 rw [h2];omega
theorem EntF.eb_succ {c:DCode} (h:EntF c) {n:Nat} (hn:n<c.entry.length):(eb c (n+1):Int)=zdl c n:=by
 unfold eb
 rw [if_neg (by omega),Nat.add_sub_cancel]
 have:=(h.lt n hn).1
 have:=h.nonneg hn
 omega
theorem zhi {c:DCode} (h:EntF c) (he:∀ i,i<c.entry.length→(zap c (zdl c i-1).toNat).op=9):∀ n,n≤c.entry.length →
   n≤zkx c (eb c n)∧(zkx c (eb c n)=n↔∀ j:Nat,j<eb c n→(zap c j).op=9→∃ i,i<n∧zdl c i=j+1)
 | 0,_=>⟨Nat.zero_le _,⟨fun _ j hj=>by simp [eb] at hj,fun _=>rfl⟩⟩
 | n+1,hn=>by
   obtain ⟨h1,h2⟩:=zhi h he n (by omega)
   have ha:=h.eb_en (n:=n) (by omega)
   have hb:=h.eb_succ (n:=n) (by omega)
   have hlt:=(h.lt n (by omega)).1
   have h9:=he n (by omega)
   have e9:(zdl c n-1).toNat=eb c (n+1)-1:=by omega
   rw [e9] at h9
   obtain ⟨d,hd⟩:∃ d,eb c (n+1)=eb c n+d+1:=⟨eb c (n+1)-eb c n-1,by omega⟩
   have hd':eb c (n+1)-1=eb c n+d:=by omega
   rw [hd'] at h9
   obtain ⟨h3,h4⟩:=zqu c (eb c n) d
   rw [hd,zkx,if_pos h9]
   refine ⟨by omega,?_⟩
   have hsplit:zkx c (eb c n+d)+1=n+1↔(zkx c (eb c n)=n∧zkx c (eb c n+d)=zkx c (eb c n)):=by omega
   rw [hsplit,h2,h4]
   constructor
   · rintro ⟨p1,p2⟩ j hj hj9
     by_cases hja:j<eb c n
     · obtain ⟨i,hi,hx⟩:=p1 j hja hj9
       exact ⟨i,by omega,hx⟩
     by_cases hje:j=eb c n+d
     · exact ⟨n,by omega,by omega⟩
     exact absurd hj9 (p2 j (by omega) (by omega))
   intro p
   constructor
   · intro j hj hj9
     obtain ⟨i,hi,hx⟩:=p j (by omega) hj9
     by_cases hin:i=n
     · subst hin;omega
     exact ⟨i,by omega,hx⟩
   intro j hj1 hj2 hj9
   obtain ⟨i,hi,hx⟩:=p j (by omega) hj9
   by_cases hin:i=n
   · subst hin;omega
   have:=h.mono (i:=i) (j:=n) (by omega) (by omega)
   omega
theorem zqv {c:DCode} (hp:0<c.procs.length):EntI c↔EntS c:=by
 constructor
 · intro h
   have hf:=h.f
   obtain ⟨_,_,_,hc,hall⟩:=h
   have hlen:=hf.len
   have he:∀ i,i<c.entry.length→(zap c (zdl c i-1).toNat).op=9:=fun i hi=>(hall i hi).2.2
   obtain ⟨_,h2⟩:=zhi hf he c.entry.length (Nat.le_refl _)
   have hb:eb c c.entry.length=c.ins.length:=by
     have:=hf.eb_succ (n:=c.entry.length-1) (by omega)
     rw [hf.last (by omega),show c.entry.length-1+1=c.entry.length by omega] at this
     omega
   rw [hb] at h2
   have h3:=h2.1 hc
   refine ⟨hf.len,hf.ins,fun i hi=>⟨fun _=>hf.zero,fun h0=>?_,?_⟩,fun j hj=>?_⟩
   · have h4:=(hf.lt (i-1) (by omega)).1
     have h5:=hf.step (i:=i-1) (by omega)
     rw [show i-1+1=i by omega] at h5
     omega
   · have:=hf.lt i hi;omega
   obtain ⟨i,hi,hx,hy,hpr⟩:=hf.find hp (a:=j) (by omega) (by omega)
   rw [hpr,zcV]
   constructor
   · intro h9
     obtain ⟨i',hi',hx'⟩:=h3 j hj h9
     have:=hf.lt i' hi'
     have hpr':=hf.proc (a:=j) hi' (by omega) (by omega)
     have:i'=i:=by omega
     subst this
     omega
   intro h9
   have:=he i hi
   rwa [show (zdl c i-1).toNat=j by omega] at this
 intro h
 have hf:=h.f hp
 have hlen:=hf.len
 have h4:=h.2.2.2
 have he:∀ i,i<c.entry.length→(zap c (zdl c i-1).toNat).op=9:=fun i hi=>by
   have h1:=hf.lt i hi
   have h0:=hf.nonneg hi
   have:=(h4 (zdl c i-1).toNat (by omega)).2
   refine this ?_
   rw [hf.proc (i:=i) hi (by omega) (by omega),zcV]
   omega
 obtain ⟨_,h2⟩:=zhi hf he c.entry.length (Nat.le_refl _)
 have hb:eb c c.entry.length=c.ins.length:=by
   have:=hf.eb_succ (n:=c.entry.length-1) (by omega)
   rw [hf.last (by omega),show c.entry.length-1+1=c.entry.length by omega] at this
   omega
 rw [hb] at h2
 refine ⟨hf.ins,hf.len,hf.zero,h2.2 fun j hj h9=>?_,fun i hi=>⟨(hf.lt i hi).1,(hf.lt i hi).2,he i hi⟩⟩
 obtain ⟨i,hi,hx,hy,hpr⟩:=hf.find hp (a:=j) (by omega) (by omega)
 have:=(h4 j hj).1 h9
 rw [hpr,zcV] at this
 exact ⟨i,hi,by omega⟩
theorem zlD {c:DCode} (hn:NamesR c) (he:EntI c):CodeR c↔∀ i,i<c.entry.length→∀ j:Nat,en c i≤j→(j:Int)<zdl c i→zf6 c (zap c j) (en c i) (zdl c i):=by
 have hf:=he.f
 have hp:=hn.procs8.2
 constructor
 · intro h i hi j h1 h2
   have h3:=hf.lt i hi
   have:=h.2.2 j (by omega)
   rw [hf.proc hi h1 h2,zcV,Int.toNat_natCast] at this
   rwa [Int.sub_add_cancel] at this
 intro h
 refine ⟨hn,(zqv hp).1 he,fun j hj=>?_⟩
 obtain ⟨i,hi,hx,hy,hpr⟩:=hf.find hp (a:=j) (by omega) (by omega)
 rw [hpr,zcV,Int.toNat_natCast,Int.sub_add_cancel]
 exact h i hi j hx hy
def F52 (a0:Value) (w:World) (R:VW):Prop:=
 oP (Instr.box 36 a0) w fun x1 w=>
 rL 36 x1 w fun x8=>
 cL 117 [x8] w fun x9 w=>
 rD (Op.unary .not x9) w fun x10=>
 BR x10
 (R (Value.bool false) w)
 (rL 36 x1 w fun x12=>
 cL 118 [x12] w fun x13 w=>
 rD (Op.unary .not x13) w fun x14=>
 BR x14
 (R (Value.bool false) w)
 (rF 36 x1 3 w fun x16=>
 rL 33 x16 w fun x17=>
 rN 33 3 x17 w fun x18=>
 LOOPI [19] [(iV 0)] w fun u4 w next4=>
 rC (u4 19) x18 w fun x20=>
 BR x20
 (rX 33 x17 (u4 19) w fun x22=>
 rL 3 x22 w fun x23=>
 rL 36 x1 w fun x24=>
 cL 119 [x24,(u4 19)] w fun x26 w=>
 rF 36 x1 4 w fun x27=>
 rL 34 x27 w fun x28=>
 rD (Instr.sliceAt 34 x28 (some x23) (some x26) none) w fun x31=>
 rN 34 3 x31 w fun x32=>
 LOOPI [33] [(iV 0)] w fun u8 w next8=>
 rC (u8 33) x32 w fun x34=>
 BR x34
 (rX 34 x31 (u8 33) w fun x35=>
 rL 84 x35 w fun x36=>
 oP (Instr.alloc 84 true (.tuple #[])) w fun x7 w=>
 oS 84 x7 x36 w fun w=>
 rL 36 x1 w fun x37=>
 rL 84 x7 w fun x38=>
 cL 120 [x37,x38,x23,x26] w fun x41 w=>
 rD (Op.unary .not x41) w fun x42=>
 BR x42
 (R (Value.bool false) w)
 (rA (u8 33) (iV 1) w fun x43=>
 next8 [x43] w))
 (rA (u4 19) (iV 1) w fun x44=>
 next4 [x44] w))
 (R (Value.bool true) w)))
def cfg52:Cfg:=⟨extL,[],[(4,35184371564732,[19]),(8,17583596109956,[33])],[],[],[],[]⟩
theorem F52_call {a0:Value} {w:World} {R:VW} (h:F52 a0 w R):cL 52 [a0] w R:=co (g:=cfg52) Tryz.func52 (by kernel_rfl) (by kernel_rfl) (by kernel_rfl) h
theorem zgI {w:World} {v0:Value} {W0:World} {c:DCode}  (h0:Is W0 v0 c) (e0:Ext W0 w)  :
   CALL Tryz.prog 52 [v0] w fun r w'=>Ext w w'∧(r=.bool (decide (CodeR c))):=by
 refine F52_call ?_
 unfold F52
 refine zaz zdW rfl h0 e0 fun w1_ hx1_ hA1 hV1=>?_
 refine zbd hV1 (Ext.refl w1_) ?_
 refine (zkw h0 (e0.trans hx1_)).mono ?_
 rintro _ w2_ ⟨hx2_,rfl⟩
 refine zaS ?_
 refine br (fun c1=>?_) (fun c1=>?_)
 · refine ⟨(hx1_.trans hx2_),?_⟩
   have:¬CodeR c:=fun h=>c1 h.1
   simp only [this,decide_false]
 refine zbd hV1 hx2_ ?_
 refine (ziG h0 (e0.trans (hx1_.trans hx2_)) (Decidable.not_not.1 c1).procs8.2).mono ?_
 rintro _ w3_ ⟨hx3_,rfl⟩
 refine zaS ?_
 refine br (fun c2=>?_) (fun c2=>?_)
 · refine ⟨(hx1_.trans (hx2_.trans hx3_)),?_⟩
   have:¬CodeR c:=fun h=>c2 ((zqv h.1.procs8.2).2 h.2.1)
   simp only [this,decide_false]
 refine zaa za5 ?_
 refine zab za1 (zan hA1) (hx2_.trans hx3_) fun v17 h17=>?_
 have hln18:=zah h17
 refine zae u33 h17 ?_
 refine zaB (c.entry.length) (fun q us w'=>us=[.int .i64 (q:Int)]∧Ext w3_ w'∧(∀ i,i<q→∀ j:Nat,en c i≤j→(j:Int)<zdl c i→zf6 c (zap c j) (en c i) (zdl c i))) (0) (by omega) ⟨by simp,Ext.refl w3_,fun i h=>by omega⟩ ?_
 rintro q m4 uu4 w4_ hk4 ⟨hu,hx4_,hent⟩
 simp only [List.map_cons,List.map_nil,List.cons.injEq,and_true] at hu
 try rw [hu]
 try clear hu
 replace c1:=Decidable.not_not.1 c1;replace c2:=Decidable.not_not.1 c2;have hln4:=zah h17
 refine zai ?_
 refine br (fun c3=>?_) (fun c3=>?_)
 · refine zad u33 ty3 h17 (by omega) fun b22 o22 h22=>?_
   refine zac ty3 h22 (hx2_.trans (hx3_.trans hx4_)) fun hI23=>?_
   rw [zbm]
   have h8:=c1.procs8
   have hlq:=c2.f.lt q (by omega)
   have hnq:=c2.f.nonneg (i:=q) (by omega)
   have hlen:=c2.f.len
   refine zbd hV1 (hx2_.trans (hx3_.trans hx4_)) ?_
   refine (zdq h0 (e0.trans (hx1_.trans (hx2_.trans (hx3_.trans hx4_)))) (by omega)).mono ?_
   rintro _ w5_ ⟨hx5_,rfl⟩
   refine zaa zaG ?_
   refine zab zdi (zao hA1) (hx2_.trans (hx3_.trans (hx4_.trans hx5_))) fun v28 h28=>?_
   refine zko u34 zdY h28 (by omega) (by omega) (by omega) fun v31 h31=>?_
   have hln32:=zah h31
   refine zae u34 h31 ?_
   refine zaB ((zdl c q).toNat-(en c q).toNat) (fun k us w'=>us=[.int .i64 (k:Int)]∧Ext w5_ w'∧(∀ j:Nat,en c q≤j→(j:Int)<en c q+k→zf6 c (zap c j) (en c q) (zdl c q))) (0) (by omega) ⟨by simp,Ext.refl w5_,fun j h1 h2=>by omega⟩ ?_
   rintro k m8 uu8 w6_ hk8 ⟨hu,hx6_,hinv⟩
   simp only [List.map_cons,List.map_nil,List.cons.injEq,and_true] at hu
   try rw [hu]
   try clear hu
   have hl31:((c.ins.take (zdl c q).toNat).drop (en c q).toNat).length=(zdl c q).toNat-(en c q).toNat:=by rw [List.length_drop,List.length_take];omega
   refine zai ?_
   refine br (fun c4=>?_) (fun c4=>?_)
   · refine zad u34 zdY h31 (by omega) fun b35 o35 h35=>?_
     refine zab zdY h35 (hx2_.trans (hx3_.trans (hx4_.trans (hx5_.trans hx6_)))) fun v36 h36=>?_
     rw [List.getElem_drop,List.getElem_take,zaP] at h36
     refine zcA zr2 rfl zdY rfl h36 (hx2_.trans (hx3_.trans (hx4_.trans (hx5_.trans hx6_)))) fun w7_ hx7_ hA7 hV7=>?_
     refine zbd hV1 (hx2_.trans (hx3_.trans (hx4_.trans (hx5_.trans (hx6_.trans hx7_))))) ?_
     refine zbd hV7 (Ext.refl w7_) ?_
     refine (zm2 h0 (e0.trans (hx1_.trans (hx2_.trans (hx3_.trans (hx4_.trans (hx5_.trans (hx6_.trans hx7_))))))) h36 (hx2_.trans (hx3_.trans (hx4_.trans (hx5_.trans (hx6_.trans hx7_)))))).mono ?_
     rintro _ w8_ ⟨hx8_,rfl⟩
     refine zaS ?_
     refine br (fun c5=>?_) (fun c5=>?_)
     · refine ⟨(hx1_.trans (hx2_.trans (hx3_.trans (hx4_.trans (hx5_.trans (hx6_.trans (hx7_.trans hx8_))))))),?_⟩
       have:¬CodeR c:=fun h=>c5 ((zlD c1 c2).1 h q (by omega) _ (by omega) (by omega))
       simp only [this,decide_false]
     refine zag (by omega) ?_
     refine ⟨m8-1,by omega,k+1,by omega,by simp,(hx6_.trans (hx7_.trans hx8_)),?_⟩
     intro j h1 h2
     by_cases hj:j=(en c q).toNat+k
     · subst hj;exact Decidable.not_not.1 c5
     exact hinv j h1 (by omega)
   refine zag (by omega) ?_
   refine ⟨m4-1,by omega,q+1,by omega,by simp,(hx4_.trans (hx5_.trans hx6_)),?_⟩
   intro i hi j h1 h2
   by_cases hiq:i=q
   · subst hiq;exact hinv j h1 (by omega)
   exact hent i (by omega) j h1 h2
 refine ⟨(hx1_.trans (hx2_.trans (hx3_.trans hx4_))),?_⟩
 have:CodeR c:=(zlD c1 c2).2 fun i hi=>hent i (by omega)
 simp only [this,decide_true]
theorem CodeR.f {c:DCode} (h:CodeR c):EntF c:=h.2.1.f h.1.procs8.2
def F145 (a0 a1:Value) (w:World) (R:VW):Prop:=
 oP (Instr.box 36 a0) w fun x2 w=>
 rB .geq 3 T0 U0 a1 (iV 0) w fun x6=>
 BR x6
 (rF 36 x2 4 w fun x9=>
 rL 34 x9 w fun x10=>
 rN 34 3 x10 w fun x11=>
 rC a1 x11 w fun x12=>
 R x12 w)
 (R (Value.bool false) w)
def cfg145:Cfg:=⟨extL,[],[],[],[],[],[]⟩
theorem F145_call {a0 a1:Value} {w:World} {R:VW} (h:F145 a0 a1 w R):cL 145 [a0,a1] w R:=co (g:=cfg145) Tryz.func145 (by kernel_rfl) (by kernel_rfl) (by kernel_rfl) h
theorem zjI {w:World} {v0:Value} {W0:World} {c:DCode} {a:Int}  (h0:Is W0 v0 c) (e0:Ext W0 w)  :
   CALL Tryz.prog 145 [v0,.int .i64 a] w fun r w'=>Ext w w'∧(r=.bool (decide (0≤a∧a<c.ins.length))):=by
 refine F145_call ?_
 unfold F145
 refine zaz zdW rfl h0 e0 fun w1_ hx1_ hA2 hV2=>?_
 refine zb5 ?_
 refine br (fun c1=>?_) (fun c1=>?_)
 · refine zaa zaG ?_
   refine zab zdi (zao hA2) (Ext.refl w1_) fun v10 h10=>?_
   have hln11:=zah h10
   refine zae u34 h10 ?_
   refine zai ?_
   refine ⟨hx1_,?_⟩
   simp [c1]
 refine ⟨hx1_,?_⟩
 simp [c1]
def F114 (a0 a1:Value) (w:World) (R:VW):Prop:=
 oP (Instr.box 36 a0) w fun x2 w=>
 LOOPI [5] [(iV 0)] w fun u2 w next2=>
 rA (u2 5) (iV 1) w fun x7=>
 rF 36 x2 3 w fun x8=>
 rL 33 x8 w fun x9=>
 rN 33 3 x9 w fun x10=>
 rC x7 x10 w fun x11=>
 BR x11
 (rF 36 x2 3 w fun x13=>
 rL 33 x13 w fun x14=>
 rA (u2 5) (iV 1) w fun x16=>
 rX 33 x14 x16 w fun x17=>
 rL 3 x17 w fun x18=>
 rB .leq 3 T0 T0 x18 a1 w fun x20=>
 BR x20
 (rA (u2 5) (iV 1) w fun x23=>
 next2 [x23] w)
 (R (u2 5) w))
 (R (u2 5) w)
def cfg114:Cfg:=⟨extL,[],[(2,16777184,[5])],[],[],[],[]⟩
theorem F114_call {a0 a1:Value} {w:World} {R:VW} (h:F114 a0 a1 w R):cL 114 [a0,a1] w R:=co (g:=cfg114) Tryz.func114 (by kernel_rfl) (by kernel_rfl) (by kernel_rfl) h
theorem zlE {w:World} {v0:Value} {W0:World} {c:DCode} {a:Int}  (h0:Is W0 v0 c) (e0:Ext W0 w) (hc:CodeR c) (ha:0≤a) (ha2:a<c.ins.length) :
   CALL Tryz.prog 114 [v0,.int .i64 a] w fun r w'=>Ext w w'∧(r=.int .i64 (zar c a)):=by
 refine F114_call ?_
 unfold F114
 have hf:=hc.f
 have h8:=hc.1.procs8
 have hl:=hf.len
 refine zaz zdW rfl h0 e0 fun w1_ hx1_ hA2 hV2=>?_
 refine zaB (c.entry.length-1) (fun k us w'=>us=[.int .i64 (k:Int)]∧Ext w1_ w'∧(en c k≤a)) (0) (by omega) ⟨by simp,Ext.refl w1_,by rw [hf.zero];exact ha⟩ ?_
 rintro k m2 uu2 w2_ hk2 ⟨hu,hx2_,hinv⟩
 simp only [List.map_cons,List.map_nil,List.cons.injEq,and_true] at hu
 try rw [hu]
 try clear hu
 refine zag (by omega) ?_
 refine zaa za5 ?_
 refine zab za1 (zan hA2) hx2_ fun v9 h9=>?_
 have hln10:=zah h9
 refine zae u33 h9 ?_
 refine zai ?_
 refine br (fun c1=>?_) (fun c1=>?_)
 · refine zaa za5 ?_
   refine zab za1 (zan hA2) hx2_ fun v14 h14=>?_
   refine zag (by omega) ?_
   refine zad u33 ty3 h14 (by omega) fun b17 o17 h17=>?_
   refine zac ty3 h17 hx2_ fun hI18=>?_
   refine zdD ?_
   refine br (fun c2=>?_) (fun c2=>?_)
   · refine zag (by omega) ?_
     refine ⟨m2-1,by omega,k+1,by omega,by simp,hx2_,?_⟩
     rwa [zbm] at c2
   refine ⟨(hx1_.trans hx2_),?_⟩
   rw [zbm] at c2
   rw [hf.proc (i:=k) (by omega) hinv (by rw [hf.step (by omega)];omega)]
 refine ⟨(hx1_.trans hx2_),?_⟩
 rw [hf.proc (i:=k) (by omega) hinv (by rw [hf.last (by omega)];omega)]
def st (l:List Int) (i:Nat):Int:=l.getD i 0
theorem zod {l:List Int} {i:Nat} (h:i<l.length):l[i]=st l i:=by unfold st;rw [List.getD_eq_getElem?_getD,List.getElem?_eq_getElem h];rfl
def zeh (c:DCode) (l:List Int):Prop:=l.length≤8∧(∀ i,i<l.length→0≤st l i∧st l i<c.ins.length) ∧
 ∀ i,i<l.length-1→(zap c (st l i).toNat).op=4∧zar c (st l (i+1))=(zap c (st l i).toNat).arg
instance (c:DCode) (l:List Int):Decidable (zeh c l):=by unfold zeh;infer_instance
def zbQ (c:DCode) (s:DState):Prop:=s.vars.length=c.globals.length∧s.owner.length=c.locks.length∧(1≤s.stacks.length∧s.stacks.length≤6)∧(∀ v∈s.vars,0≤v∧v≤999) ∧
 (∀ o∈s.owner,-1≤o∧o<s.stacks.length)∧∀ l∈s.stacks,zeh c l
instance (c:DCode) (s:DState):Decidable (zbQ c s):=by unfold zbQ;infer_instance
end Go.Proofs.YtcnglfeoglgebaaGreat
namespace Go.Sh
open Go.RowKit (Below)
open Rep (rep)
section
variable {P:Program} {w w0 w':World} {α β γ:Type} [Rep α] [Rep β]
theorem zoe {t e:TypeId} {by_:Nat} {F:List Nat} {v:Value} {l:List α} {k:Nat} {K:Value→Prop} (ht:P.underlying t=some (.slice e)) (he:tyI P e=some (Rep.size α,by_,Rep.agg α)) (hm:Mine F w v l) (hk:k<l.length)
   (kk:∀ b o G,Lens (MH v) F w b o G l[k] (fun y=>l.set k y)→K (.pointer (some ⟨b,o,none⟩))):RD P (Instr.indexAt t v (.int .i64 (k:Int))) w K:=by
 obtain ⟨b,a,cap,G,hv,hL⟩:=zsd hm hk
 refine zaQ (v:=.pointer (some ⟨b,a+k*Rep.size α,none⟩)) (fun w' _=>?_) (kk _ _ _ hL)
 rw [hv,zbH ht he (by omega) (by omega)];simp
theorem zaA {ft by_ g e o:Nat} {cs:List Value} {v:Value} {K:Value→Prop} (hft:tyI P ft=some (1,by_,false)) (hB:Blk g e w cs) (ho:cs[o]?=some v) (k:K v) :
   RD P (Instr.loadAt ft (.pointer (some ⟨g,o,none⟩))) w K:=by
 refine zaQ (fun w' hx'=>?_) k
 have h0:w'.cell? ⟨g,o,none⟩=some v:=by simpa using (za7 hB.range hx') o v ho
 have hA:=zcl hft w'
 simp [Instr.loadAt,Instr.sureAddr,loadVar,hA,h0]
theorem zqw {t:TypeId} {cs:Array Value} {K:Value→World→Prop} (k:∀ w',Ext w w'→Blk w.heap.size t w' cs.toList→K (.pointer (some ⟨w.heap.size,0,none⟩)) w'):OP P (Instr.box t (.agg cs)) w K:=
 ⟨_,w.alloc (.cells cs t),by simp [Instr.box,newVar,newRow,Value.cells],k _ (zaI w _) (by unfold Blk;rw [heap_alloc_new w _])⟩
theorem ziH {t by_ b o:Nat} {F G:List Nat} {v:Value} {y y':β} {upd:β→α} {u:Value} {K:World→Prop} (ht:tyI P t=some (Rep.size β,by_,Rep.agg β)) (h:Lens (MH v) F w b o G y upd)
   (hu:Mine [] w u y') (k:∀ w' F',Chg F w w'→Mine F' w' v (upd y')→(∀ c∈F',c∈F)→K w'):OPU P (Instr.storeAt t (.pointer (some ⟨b,o,none⟩)) u) w K:=
 zfB ht h hu (by simp) fun w' hc ⟨F',h1,h2⟩=>k w' F' hc h1 fun c hc=>by
   rcases h2 c hc with h | h
   · exact h
   simp at h
theorem zbp {x:Int} (h:I64 x):Mine [] w (.int .i64 x) x:=⟨⟨_,⟨rfl,rfl,h⟩,rfl⟩,List.nodup_nil,Wr.nil w⟩
theorem zsk {x:ByteArray} (h:x.size≤maxLen):Mine [] w (.string x) x:=⟨⟨_,⟨rfl,rfl,h⟩,rfl⟩,List.nodup_nil,Wr.nil w⟩
theorem Chg.sub {F G:List Nat} {a b c:World} (h:Chg F a b) (k:Chg G b c) (hs:∀ x∈G,x∈F):Chg F a c:=h.trans (k.mono hs)
theorem zqx {ts:Array TypeId} {ty:TypeId} {a b:Int} {K:Value→Prop} (k:K (.int .i64 (max a b))):RD P (Builtin.max_ ts ty [Value.int .i64 a,Value.int .i64 b].toArray) w K:=by
 refine zaQ (fun w' _=>?_) k
 have:(if b>a then b else a)=max a b:=by split<;>omega
 simp only [Builtin.max_,List.toList_toArray,List.foldlM_cons,List.foldlM_nil,Builtin.max2,this]
 rfl
theorem ztn {ts:Array TypeId} {ty:TypeId} {a b:Int} {K:Value→Prop} (k:K (.int .i64 (min a b))):RD P (Builtin.min_ ts ty [Value.int .i64 a,Value.int .i64 b].toArray) w K:=by
 refine zaQ (fun w' _=>?_) k
 have:(if b<a then b else a)=min a b:=by split<;>omega
 simp only [Builtin.min_,List.toList_toArray,List.foldlM_cons,List.foldlM_nil,Builtin.min2,this]
 rfl
theorem zvc {t e ft i off by_ by2:Nat} {F:List Nat} {v u:Value} {l:List α} {k:Nat} {y':β} {sel:α→β} {g:α→β→α} {K:World→Prop} (ht:P.underlying t=some (.slice e)) (he:tyI P e=some (Rep.size α,by_,Rep.agg α)) (hf:zdz P e i=some off) (hft:tyI P ft=some (Rep.size β,by2,Rep.agg β))
   (L:∀ {a:α} {G:List Nat} {b o:Nat} {upd:α→List α},Lens (MH v) F w b o G a upd→∃ G1,Lens (MH v) F w b (o+off) G1 (sel a) (fun y=>upd (g a y))) (hm:Mine F w v l) (hk:k<l.length) (hu:Mine [] w u y')
   (kk:∀ w' F',Chg F w w'→Mine F' w' v (l.set k (g l[k] y'))→(∀ c∈F',c∈F)→K w') :
   RD P (Instr.indexAt t v (.int .i64 (k:Int))) w fun p=>RD P (Instr.fieldAt e p i) w fun q=>OPU P (Instr.storeAt ft q u) w K:=by
 refine zoe ht he hm hk fun b o G hL=>?_
 refine zaa hf ?_
 obtain ⟨G1,hL1⟩:=L hL
 exact ziH (upd:=fun y=>l.set k (g l[k] y)) hft hL1 hu kk
end
end Go.Sh
namespace Go.Proofs.YtcnglfeoglgebaaGreat
open Go Go.Sh Go.Proofs
open Rep (rep)
def zto (s:DState):Prop:=∀ x∈s.stacks,x=[]
instance (s:DState):Decidable (zto s):=inferInstanceAs (Decidable (∀ x∈s.stacks,x=[]))
def ow (s:DState) (i:Int):Int:=s.owner.getD i.toNat 0
theorem ztp {s:DState} {i:Nat} (h:i<s.owner.length):s.owner[i]=ow s i:=by unfold ow;rw [List.getD_eq_getElem?_getD,Int.toNat_natCast,List.getElem?_eq_getElem h];rfl
theorem zm3 {s:DState} {i:Int} (h0:0≤i) (h:i.toNat<s.owner.length):s.owner[i.toNat]=ow s i:=by unfold ow;rw [List.getD_eq_getElem?_getD,List.getElem?_eq_getElem h];rfl
def stk (s:DState) (t:Int):List Int:=s.stacks.getD t.toNat []
theorem zeo {s:DState} {t:Int} (h:t.toNat<s.stacks.length):s.stacks[t.toNat]=stk s t:=by unfold stk;rw [List.getD_eq_getElem?_getD,List.getElem?_eq_getElem h];rfl
def atI (c:DCode) (s:DState) (t:Int):DIns:=zap c (zeb s t).toNat
theorem zff {s:DState} {t:Int} (h:0≤zeb s t):0≤t∧t.toNat<s.stacks.length:=by
 unfold zeb at h
 split at h
 · assumption
 omega
theorem zof {s:DState} {t:Int} (h0:0≤t) (h1:t.toNat<s.stacks.length):zeb s t=(stk s t).getLastD (-1):=by
 unfold zeb;rw [dif_pos ⟨h0,h1⟩,zeo h1]
theorem zqy {l:List Int} (h:l≠[]):l.getLastD (-1)=st l (l.length-1):=by
 unfold st
 rw [List.getLastD_eq_getLast?,List.getLast?_eq_getElem?,List.getD_eq_getElem?_getD]
 have:l.length-1<l.length:=by have:=List.length_pos_iff.2 h;omega
 rw [List.getElem?_eq_getElem this];rfl
theorem zm4 {c:DCode} {s:DState} (hs:zbQ c s) (t:Int):-1≤zeb s t∧zeb s t<c.ins.length:=by
 by_cases h:0≤t∧t.toNat<s.stacks.length
 · rw [zof h.1 h.2]
   by_cases hn:stk s t=[]
   · rw [hn];simp [List.getLastD];omega
   have hl:=List.length_pos_iff.2 hn
   have hm:=hs.2.2.2.2.2 (stk s t) (by rw [←zeo h.2];exact List.getElem_mem _)
   rw [zqy hn]
   have:=hm.2.1 ((stk s t).length-1) (by omega)
   omega
 unfold zeb;rw [dif_neg h];omega
theorem zgJ {c:DCode} (hc:CodeR c) {j:Nat} (hj:j<c.ins.length):zf6 c (zap c j) (en c (zar c j).toNat) (zen c (zar c j)+1):=hc.2.2 j hj
theorem zog {c:DCode} (hc:CodeR c) {j:Nat} (hj:j<c.ins.length) (h:(zap c j).op=6∨(zap c j).op=7):0≤(zap c j).arg∧(zap c j).arg<c.locks.length:=by
 have:=(zgJ hc hj).2.1
 unfold zbG at this
 rwa [if_neg (by omega),if_neg (by omega),if_pos h] at this
theorem NamesR.locks6 {c:DCode} (h:NamesR c):c.locks.length≤6:=by
 have h1:=h.2.1
 simp only [Bool.and_eq_true,decide_eq_true_eq] at h1
 omega
theorem NamesR.globals6 {c:DCode} (h:NamesR c):c.globals.length≤6:=by
 have h1:=h.1
 simp only [Bool.and_eq_true,decide_eq_true_eq] at h1
 omega
theorem zsl {c:DCode} {s:DState} (hs:zbQ c s) {i:Int} (h0:0≤i) (h:i.toNat<s.owner.length):-1≤ow s i∧ow s i<s.stacks.length:=by
 rw [←zm3 h0 h];exact hs.2.2.2.2.1 _ (List.getElem_mem _)
theorem zgK {c:DCode} {s:DState} {t:Int} (hc:CodeR c) (hs:zbQ c s) (h:0≤zeb s t):zf6 c (atI c s t) (en c (zar c (zeb s t)).toNat) (zen c (zar c (zeb s t))+1):=by
 have:=zm4 hs t
 have h1:=zgJ hc (j:=(zeb s t).toNat) (by omega)
 rwa [Int.toNat_of_nonneg h] at h1
theorem zfD {c:DCode} {s:DState} {t:Int} (hc:CodeR c) (hs:zbQ c s) (h:0≤zeb s t) (ho:(atI c s t).op=6∨(atI c s t).op=7):0≤(atI c s t).arg∧(atI c s t).arg.toNat<s.owner.length:=by
 have:=zm4 hs t
 have h1:=zog hc (j:=(zeb s t).toNat) (by omega) ho
 have h2:=hs.2.1
 unfold atI
 omega
def F148 (a0 a1:Value) (w:World) (R:VW):Prop:=
 oP (Instr.box 46 a0) w fun x2 w=>
 rB .lss 3 T0 U0 a1 (iV 0) w fun x6=>
 BR x6
 (R (iV (-1)) w)
 (rF 46 x2 1 w fun x9=>
 rL 33 x9 w fun x10=>
 rN 33 3 x10 w fun x11=>
 rB .geq 3 T0 T0 a1 x11 w fun x12=>
 BR x12
 (R (iV (-1)) w)
 (rF 46 x2 1 w fun x14=>
 rL 33 x14 w fun x15=>
 rX 33 x15 a1 w fun x17=>
 rL 3 x17 w fun x18=>
 rD (Builtin.max_ #[3,3] 3 [x18,(iV (-1))].toArray) w fun x19=>
 R x19 w))
def cfg148:Cfg:=⟨extL,[],[],[],[],[],[]⟩
theorem F148_call {a0 a1:Value} {w:World} {R:VW} (h:F148 a0 a1 w R):cL 148 [a0,a1] w R:=co (g:=cfg148) Tryz.func148 (by kernel_rfl) (by kernel_rfl) (by kernel_rfl) h
theorem zm5 {w:World} {v0:Value} {W0:World} {s:DState} {i:Int}  (h0:Is W0 v0 s) (e0:Ext W0 w) (hi0:0≤i) (hi1:i.toNat<s.owner.length) :
   CALL Tryz.prog 148 [v0,.int .i64 i] w fun r w'=>Ext w w'∧(r=.int .i64 (max (ow s i) (-1))):=by
 refine F148_call ?_
 unfold F148
 refine zaz zck rfl h0 e0 fun w1_ hx1_ hA2 hV2=>?_
 refine zai ?_
 refine br (fun c1=>?_) (fun c1=>?_)
 · refine ⟨hx1_,?_⟩
   exact absurd c1 (by omega)
 refine zaa zdp ?_
 refine zab za1 (zcH hA2) (Ext.refl w1_) fun v10 h10=>?_
 have hln11:=zah h10
 refine zae u33 h10 ?_
 refine zb5 ?_
 refine br (fun c2=>?_) (fun c2=>?_)
 · refine ⟨hx1_,?_⟩
   exact absurd c2 (by omega)
 refine zaa zdp ?_
 refine zab za1 (zcH hA2) (Ext.refl w1_) fun v15 h15=>?_
 refine zav u33 ty3 h15 (by omega) (by omega) fun b17 o17 h17=>?_
 refine zac ty3 h17 (Ext.refl w1_) fun hI18=>?_
 refine zqx ?_
 refine ⟨hx1_,?_⟩
 rw [zm3 hi0 hi1]
def GoR (c:DCode) (s:DState) (t:Int):Prop:=0≤zeb s t∧((atI c s t).op=6→ow s (atI c s t).arg=-1)∧((atI c s t).op=4→((stk s t).length:Int)<8)
instance (c:DCode) (s:DState) (t:Int):Decidable (GoR c s t):=by unfold GoR;infer_instance
def F126 (a0 a1 a2:Value) (w:World) (R:VW):Prop:=
 oP (Instr.box 36 a0) w fun x3 w=>
 oP (Instr.box 46 a1) w fun x4 w=>
 rL 46 x4 w fun x8=>
 cL 168 [x8,a2] w fun x10 w=>
 rB .lss 3 T0 U0 x10 (iV 0) w fun x12=>
 BR x12
 (R (Value.bool false) w)
 (rF 36 x3 4 w fun x13=>
 rL 34 x13 w fun x14=>
 rX 34 x14 x10 w fun x16=>
 rF 84 x16 0 w fun x17=>
 rL 3 x17 w fun x18=>
 rB .eql 3 T0 U0 x18 (iV 6) w fun x20=>
 BR x20
 ((fun w=>rF 46 x4 1 w fun x21=>
 rL 33 x21 w fun x22=>
 rF 36 x3 4 w fun x23=>
 rL 34 x23 w fun x24=>
 rX 34 x24 x10 w fun x26=>
 rF 84 x26 1 w fun x27=>
 rL 3 x27 w fun x28=>
 rX 33 x22 x28 w fun x29=>
 rL 3 x29 w fun x30=>
 rB .eql 3 T0 U0 x30 (iV (-1)) w fun x31=>
 R x31 w) (World.drew1 w))
 (rB .eql 3 T0 U0 x18 (iV 4) w fun x33=>
 BR x33
 (rF 46 x4 2 w fun x34=>
 rL 44 x34 w fun x35=>
 rX 44 x35 a2 w fun x37=>
 rL 33 x37 w fun x38=>
 rN 33 3 x38 w fun x39=>
 rB .lss 3 T0 U0 x39 (iV 8) w fun x40=>
 R x40 w)
 (R (Value.bool true) w)))
def cfg126:Cfg:=⟨extL,[],[],[(6,[0,1,2,3,4,5,6,7,8,9,10,11],0)],[],[],[]⟩
theorem F126_call {a0 a1 a2:Value} {w:World} {R:VW} (h:F126 a0 a1 a2 w R):cL 126 [a0,a1,a2] w R:=co (g:=cfg126) Tryz.func126 (by kernel_rfl) (by kernel_rfl) (by kernel_rfl) h
theorem zsm {w:World} {v0:Value} {W0:World} {c:DCode} {v1:Value} {W1:World} {s:DState} {t:Int}  (h0:Is W0 v0 c) (e0:Ext W0 w) (h1:Is W1 v1 s) (e1:Ext W1 w) (hc:CodeR c) (hs:zbQ c s) :
   CALL Tryz.prog 126 [v0,v1,.int .i64 t] w fun r w'=>Ext w w'∧(r=.bool (decide (GoR c s t))):=by
 refine F126_call ?_
 unfold F126
 have hat:=zm4 hs t
 refine zaz zdW rfl h0 e0 fun w1_ hx1_ hA3 hV3=>?_
 refine zaz zck rfl h1 (e1.trans hx1_) fun w2_ hx2_ hA4 hV4=>?_
 refine zbd hV4 (Ext.refl w2_) ?_
 refine (zmR h1 (e1.trans (hx1_.trans hx2_))).mono ?_
 rintro _ w3_ ⟨hx3_,rfl⟩
 refine zai ?_
 refine br (fun c1=>?_) (fun c1=>?_)
 · refine ⟨(hx1_.trans (hx2_.trans hx3_)),?_⟩
   have:¬GoR c s t:=fun h=>by have:=h.1;omega
   simp only [this,decide_false]
 refine zaa zaG ?_
 refine zab zdi (zao hA3) (hx2_.trans hx3_) fun v14 h14=>?_
 refine zav u34 zdY h14 (by omega) (by omega) fun b16 o16 h16=>?_
 rw [zaP] at h16
 change At _ _ _ (atI c s t) at h16
 have hat0:0≤zeb s t:=by omega
 have hth:=zff hat0
 refine zaa zbx ?_
 refine zac ty3 (zaC h16) (hx2_.trans hx3_) fun hI18=>?_
 refine zaf ?_
 refine br (fun c2=>?_) (fun c2=>?_)
 · have hx4_:=zak w3_
   refine zaa zdp ?_
   refine zab za1 (zcH hA4) (hx3_.trans hx4_) fun v22 h22=>?_
   refine zaa zaG ?_
   refine zab zdi (zao hA3) (hx2_.trans (hx3_.trans hx4_)) fun v24 h24=>?_
   refine zav u34 zdY h24 (by omega) (by omega) fun b26 o26 h26=>?_
   rw [zaP] at h26
   change At _ _ _ (atI c s t) at h26
   have hlk:=zfD hc hs hat0 (.inl c2)
   refine zaa zby ?_
   refine zac ty3 (zaD h26) (hx2_.trans (hx3_.trans hx4_)) fun hI28=>?_
   refine zav u33 ty3 h22 (by omega) (by omega) fun b29 o29 h29=>?_
   refine zac ty3 h29 (hx3_.trans hx4_) fun hI30=>?_
   refine zaf ?_
   refine ⟨(hx1_.trans (hx2_.trans (hx3_.trans hx4_))),?_⟩
   congr 1
   rw [decide_eq_decide,zm3 hlk.1 hlk.2]
   exact ⟨fun h=>⟨hat0,fun _=>h,fun h4=>by omega⟩,fun h=>h.2.1 c2⟩
 refine zaf ?_
 refine br (fun c3=>?_) (fun c3=>?_)
 · refine zaa za6 ?_
   refine zab zes (zaN hA4) hx3_ fun v35 h35=>?_
   refine zav u44 za1 h35 (by omega) (by omega) fun b37 o37 h37=>?_
   refine zab za1 h37 hx3_ fun v38 h38=>?_
   have hln39:=zah h38
   refine zae u33 h38 ?_
   refine zai ?_
   refine ⟨(hx1_.trans (hx2_.trans hx3_)),?_⟩
   congr 1
   rw [decide_eq_decide,zeo hth.2]
   exact ⟨fun h=>⟨hat0,fun h6=>by omega,fun _=>h⟩,fun h=>h.2.2 c3⟩
 refine ⟨(hx1_.trans (hx2_.trans hx3_)),?_⟩
 have:GoR c s t:=⟨hat0,fun h6=>absurd h6 c2,fun h4=>absurd h4 c3⟩
 simp only [this,decide_true]
def F76 (a0 a1 a2:Value) (w:World) (R:VW):Prop:=
 oP (Instr.box 36 a0) w fun x3 w=>
 oP (Instr.box 46 a1) w fun x4 w=>
 rL 46 x4 w fun x8=>
 cL 71 [x8,a2] w fun x10 w=>
 rL 36 x3 w fun x11=>
 cL 145 [x11,x10] w fun x13 w=>
 rD (Op.unary .not x13) w fun x14=>
 BR x14
 (R (Value.bool false) w)
 (rF 36 x3 4 w fun x15=>
 rL 34 x15 w fun x16=>
 rX 34 x16 x10 w fun x18=>
 rF 84 x18 0 w fun x19=>
 rL 3 x19 w fun x20=>
 rB .eql 3 T0 U0 x20 (iV 6) w fun x22=>
 BR x22
 ((fun w=>rL 46 x4 w fun x23=>
 rF 36 x3 4 w fun x24=>
 rL 34 x24 w fun x25=>
 rX 34 x25 x10 w fun x27=>
 rF 84 x27 1 w fun x28=>
 rL 3 x28 w fun x29=>
 cL 148 [x23,x29] w fun x30 w=>
 rB .lss 3 T0 U0 x30 (iV 0) w fun x31=>
 R x31 w) (World.drew1 w))
 (rB .eql 3 T0 U0 x20 (iV 4) w fun x33=>
 BR x33
 (rF 46 x4 2 w fun x34=>
 rL 44 x34 w fun x35=>
 rX 44 x35 a2 w fun x37=>
 rL 33 x37 w fun x38=>
 rN 33 3 x38 w fun x39=>
 rB .lss 3 T0 U0 x39 (iV 8) w fun x40=>
 R x40 w)
 (R (Value.bool true) w)))
def cfg76:Cfg:=⟨extL,[],[],[(6,[0,1,2,3,4,5,6,7,8,9],0)],[],[],[]⟩
theorem F76_call {a0 a1 a2:Value} {w:World} {R:VW} (h:F76 a0 a1 a2 w R):cL 76 [a0,a1,a2] w R:=co (g:=cfg76) Tryz.func76 (by kernel_rfl) (by kernel_rfl) (by kernel_rfl) h
theorem zt4 {w:World} {v0:Value} {W0:World} {c:DCode} {v1:Value} {W1:World} {s:DState} {t:Int}  (h0:Is W0 v0 c) (e0:Ext W0 w) (h1:Is W1 v1 s) (e1:Ext W1 w) (hc:CodeR c) (hs:zbQ c s) :
   CALL Tryz.prog 76 [v0,v1,.int .i64 t] w fun r w'=>Ext w w'∧(r=.bool (decide (GoR c s t))):=by
 refine F76_call ?_
 unfold F76
 have hat:=zm4 hs t
 refine zaz zdW rfl h0 e0 fun w1_ hx1_ hA3 hV3=>?_
 refine zaz zck rfl h1 (e1.trans hx1_) fun w2_ hx2_ hA4 hV4=>?_
 refine zbd hV4 (Ext.refl w2_) ?_
 refine (zmS h1 (e1.trans (hx1_.trans hx2_))).mono ?_
 rintro _ w3_ ⟨hx3_,rfl⟩
 refine zbd hV3 (hx2_.trans hx3_) ?_
 refine (zjI h0 (e0.trans (hx1_.trans (hx2_.trans hx3_)))).mono ?_
 rintro _ w4_ ⟨hx4_,rfl⟩
 refine zaS ?_
 refine br (fun c1=>?_) (fun c1=>?_)
 · refine ⟨(hx1_.trans (hx2_.trans (hx3_.trans hx4_))),?_⟩
   have:¬GoR c s t:=fun h=>by have:=h.1;omega
   simp only [this,decide_false]
 refine zaa zaG ?_
 refine zab zdi (zao hA3) (hx2_.trans (hx3_.trans hx4_)) fun v16 h16=>?_
 refine zav u34 zdY h16 (by omega) (by omega) fun b18 o18 h18=>?_
 rw [zaP] at h18
 change At _ _ _ (atI c s t) at h18
 have hat0:0≤zeb s t:=by omega
 have hth:=zff hat0
 refine zaa zbx ?_
 refine zac ty3 (zaC h18) (hx2_.trans (hx3_.trans hx4_)) fun hI20=>?_
 refine zaf ?_
 refine br (fun c2=>?_) (fun c2=>?_)
 · have hx5_:=zak w4_
   refine zbd hV4 (hx3_.trans (hx4_.trans hx5_)) ?_
   refine zaa zaG ?_
   refine zab zdi (zao hA3) (hx2_.trans (hx3_.trans (hx4_.trans hx5_))) fun v25 h25=>?_
   refine zav u34 zdY h25 (by omega) (by omega) fun b27 o27 h27=>?_
   rw [zaP] at h27
   change At _ _ _ (atI c s t) at h27
   have hlk:=zfD hc hs hat0 (.inl c2)
   have hor:=zsl hs hlk.1 hlk.2
   refine zaa zby ?_
   refine zac ty3 (zaD h27) (hx2_.trans (hx3_.trans (hx4_.trans hx5_))) fun hI29=>?_
   refine (zm5 h1 (e1.trans (hx1_.trans (hx2_.trans (hx3_.trans (hx4_.trans hx5_))))) (by omega) (by omega)).mono ?_
   rintro _ w6_ ⟨hx6_,rfl⟩
   refine zai ?_
   refine ⟨(hx1_.trans (hx2_.trans (hx3_.trans (hx4_.trans (hx5_.trans hx6_))))),?_⟩
   congr 1
   rw [decide_eq_decide]
   exact ⟨fun h=>⟨hat0,fun _=>by omega,fun h4=>by omega⟩,fun h=>by have:=h.2.1 c2;omega⟩
 refine zaf ?_
 refine br (fun c3=>?_) (fun c3=>?_)
 · refine zaa za6 ?_
   refine zab zes (zaN hA4) (hx3_.trans hx4_) fun v35 h35=>?_
   refine zav u44 za1 h35 (by omega) (by omega) fun b37 o37 h37=>?_
   refine zab za1 h37 (hx3_.trans hx4_) fun v38 h38=>?_
   have hln39:=zah h38
   refine zae u33 h38 ?_
   refine zai ?_
   refine ⟨(hx1_.trans (hx2_.trans (hx3_.trans hx4_))),?_⟩
   congr 1
   rw [decide_eq_decide,zeo hth.2]
   exact ⟨fun h=>⟨hat0,fun h6=>by omega,fun _=>h⟩,fun h=>h.2.2 c3⟩
 refine ⟨(hx1_.trans (hx2_.trans (hx3_.trans hx4_))),?_⟩
 have:GoR c s t:=⟨hat0,fun h6=>absurd h6 c2,fun h4=>absurd h4 c3⟩
 simp only [this,decide_true]
def zhj (c:DCode) (s:DState) (t:Int):Int:=if 0≤zeb s t∧(atI c s t).op=6∧0≤ow s (atI c s t).arg then (atI c s t).arg else -1
def zco (c:DCode) (s:DState):Nat→List Int
 | 0=>[]
 | k+1=>if GoR c s k then zco c s k++[(k:Int)] else zco c s k
theorem zgf (c:DCode) (s:DState):∀ k,(zco c s k).length≤k
 | 0=>Nat.le_refl _
 | k+1=>by
   have:=zgf c s k
   rw [zco]
   split
   · simp;omega
   omega
def zcW (c:DCode) (s:DState):List Int:=zco c s s.stacks.length
def F58 (a0 a1:Value) (w:World) (R:VW):Prop:=
 oP (Instr.box 36 a0) w fun x2 w=>
 oP (Instr.box 46 a1) w fun x3 w=>
 oP (Instr.buildSlice 33 0 #[]) w fun x7 w=>
 LOOPI [5,6] [x7,(iV 0)] w fun u3 w next3=>
 rF 46 x3 2 w fun x9=>
 rL 44 x9 w fun x10=>
 rN 44 3 x10 w fun x11=>
 rC (u3 6) x11 w fun x12=>
 BR x12
 (rL 36 x2 w fun x15=>
 rL 46 x3 w fun x16=>
 cL 126 [x15,x16,(u3 6)] w fun x18 w=>
 BR x18
 (oP (Instr.buildSlice 33 1 #[(0,(u3 6))]) w fun x21 w=>
 oP (Builtin.append_ #[33,33] 33 [(u3 5),x21].toArray) w fun x22 w=>
 rA (u3 6) (iV 1) w fun x14=>
 next3 [x22,x14] w)
 (rA (u3 6) (iV 1) w fun x14=>
 next3 [(u3 5),x14] w))
 (R (u3 5) w)
def cfg58:Cfg:=⟨extL,[],[(3,8388448,[5,6])],[],[],[],[]⟩
theorem F58_call {a0 a1:Value} {w:World} {R:VW} (h:F58 a0 a1 w R):cL 58 [a0,a1] w R:=co (g:=cfg58) Tryz.func58 (by kernel_rfl) (by kernel_rfl) (by kernel_rfl) h
theorem zm6 {w:World} {v0:Value} {W0:World} {c:DCode} {v1:Value} {W1:World} {s:DState}  (h0:Is W0 v0 c) (e0:Ext W0 w) (h1:Is W1 v1 s) (e1:Ext W1 w) (hc:CodeR c) (hs:zbQ c s) :
   CALL Tryz.prog 58 [v0,v1] w fun r w'=>Ext w w'∧(Own w.heap.size w' r (zcW c s)):=by
 refine F58_call ?_
 unfold F58
 have hmany:=hs.2.2.1
 have hs_e0:=e0.size
 have hs_e1:=e1.size
 refine zaz zdW rfl h0 e0 fun w1_ hx1_ hA2 hV2=>?_
 have hs_hx1_:=hx1_.size
 refine zaz zck rfl h1 (e1.trans hx1_) fun w2_ hx2_ hA3 hV3=>?_
 have hs_hx2_:=hx2_.size
 refine zbW (α:=Int) u33 ty3 fun v7 w3_ hx3_ o7=>?_
 have hs_hx3_:=hx3_.size
 refine zaB (s.stacks.length) (fun k us w'=>∃ v:Value,us=[v,.int .i64 (k:Int)]∧Ext w3_ w'∧(RowI w3_.heap.size w'.heap.size 3 w' v (zco c s k))) (0) (by omega) ⟨_,rfl,Ext.refl w3_,zd1 _ _ _ _ _⟩ ?_
 rintro k m3 uu3 w4_ hk3 ⟨v5,hu,hx4_,hrow⟩
 have hs_hx4_:=hx4_.size
 obtain ⟨hu0,hu1⟩:=ze4 hu
 try rw [hu0]
 try rw [hu1]
 try clear hu0 hu1
 have hrl:=zgf c s k
 refine zaa za6 ?_
 refine zab zes (zaN hA3) (hx3_.trans hx4_) fun v10 h10=>?_
 have hln11:=zah h10
 refine zae u44 h10 ?_
 refine zai ?_
 refine br (fun c1=>?_) (fun c1=>?_)
 · refine zbd hV2 (hx2_.trans (hx3_.trans hx4_)) ?_
   refine zbd hV3 (hx3_.trans hx4_) ?_
   refine (zsm h0 (e0.trans (hx1_.trans (hx2_.trans (hx3_.trans hx4_)))) h1 (e1.trans (hx1_.trans (hx2_.trans (hx3_.trans hx4_)))) (by assumption) (by assumption)).mono ?_
   rintro _ w5_ ⟨hx5_,rfl⟩
   have hs_hx5_:=hx5_.size
   refine br (fun c2=>?_) (fun c2=>?_)
   · refine zcI (α:=Int) u33 ty3 z3 zc3 (by decide) (hrow.ext hx5_) (by omega) (ownI_int (lo:=w5_.heap.size) (hi:=w5_.heap.size) (by first | assumption | (unfold I64 at *;omega))) (by omega) (by omega) (by rw [zam];omega) (by omega) fun v22 w6_ hc6_ o22=>?_
     have hs_hc6_:=hc6_.size
     have o7_c6:=(o7.ext (hx4_.trans hx5_)).chg hc6_ (by omega)
     refine zag (by omega) ?_
     refine ⟨m3-1,by omega,k+1,by omega,_,rfl,(Ext.chgI (hx4_.trans hx5_) hc6_ (by omega)),?_⟩
     rw [zco,if_pos c2];exact o22
   refine zag (by omega) ?_
   refine ⟨m3-1,by omega,k+1,by omega,_,rfl,(hx4_.trans hx5_),?_⟩
   rw [zco,if_neg c2];exact (hrow.ext hx5_).mono (by omega) (by omega)
 refine ⟨(hx1_.trans (hx2_.trans (hx3_.trans hx4_))),?_⟩
 have:k=s.stacks.length:=by omega
 subst this
 exact hrow.own.own.mono (by omega)
def F54 (a0 a1:Value) (w:World) (R:VW):Prop:=
 oP (Instr.box 36 a0) w fun x2 w=>
 oP (Instr.box 46 a1) w fun x3 w=>
 rF 46 x3 2 w fun x7=>
 rL 44 x7 w fun x8=>
 rN 44 3 x8 w fun x9=>
 LOOPI [5,10] [(Value.slice none 0 0),(iV 0)] w fun u3 w next3=>
 rC (u3 10) x9 w fun x11=>
 BR x11
 (rL 36 x2 w fun x13=>
 rL 46 x3 w fun x14=>
 cL 76 [x13,x14,(u3 10)] w fun x16 w=>
 BR x16
 (oP (Instr.buildSlice 33 1 #[(0,(u3 10))]) w fun x19 w=>
 oP (Builtin.append_ #[33,33] 33 [(u3 5),x19].toArray) w fun x20 w=>
 rA (u3 10) (iV 1) w fun x21=>
 next3 [x20,x21] w)
 (rA (u3 10) (iV 1) w fun x21=>
 next3 [(u3 5),x21] w))
 (R (u3 5) w)
def cfg54:Cfg:=⟨extL,[],[(3,4193376,[5,10])],[],[],[],[]⟩
theorem F54_call {a0 a1:Value} {w:World} {R:VW} (h:F54 a0 a1 w R):cL 54 [a0,a1] w R:=co (g:=cfg54) Tryz.func54 (by kernel_rfl) (by kernel_rfl) (by kernel_rfl) h
theorem zpe {w:World} {v0:Value} {W0:World} {c:DCode} {v1:Value} {W1:World} {s:DState}  (h0:Is W0 v0 c) (e0:Ext W0 w) (h1:Is W1 v1 s) (e1:Ext W1 w) (hc:CodeR c) (hs:zbQ c s) :
   CALL Tryz.prog 54 [v0,v1] w fun r w'=>Ext w w'∧(Own w.heap.size w' r (zcW c s)):=by
 refine F54_call ?_
 unfold F54
 have hmany:=hs.2.2.1
 have hs_e0:=e0.size
 have hs_e1:=e1.size
 refine zaz zdW rfl h0 e0 fun w1_ hx1_ hA2 hV2=>?_
 have hs_hx1_:=hx1_.size
 refine zaz zck rfl h1 (e1.trans hx1_) fun w2_ hx2_ hA3 hV3=>?_
 have hs_hx2_:=hx2_.size
 refine zaa za6 ?_
 refine zab zes (zaN hA3) (Ext.refl w2_) fun v8 h8=>?_
 have hln9:=zah h8
 refine zae u44 h8 ?_
 refine zaB (s.stacks.length) (fun k us w'=>∃ v:Value,us=[v,.int .i64 (k:Int)]∧Ext w2_ w'∧(RowI w2_.heap.size w'.heap.size 3 w' v (zco c s k))) (0) (by omega) ⟨_,rfl,Ext.refl w2_,zbE _ _ _ _⟩ ?_
 rintro k m3 uu3 w3_ hk3 ⟨v5,hu,hx3_,hrow⟩
 have hs_hx3_:=hx3_.size
 obtain ⟨hu0,hu1⟩:=ze4 hu
 try rw [hu0]
 try rw [hu1]
 try clear hu0 hu1
 have hrl:=zgf c s k
 refine zai ?_
 refine br (fun c1=>?_) (fun c1=>?_)
 · refine zbd hV2 (hx2_.trans hx3_) ?_
   refine zbd hV3 hx3_ ?_
   refine (zt4 h0 (e0.trans (hx1_.trans (hx2_.trans hx3_))) h1 (e1.trans (hx1_.trans (hx2_.trans hx3_))) (by assumption) (by assumption)).mono ?_
   rintro _ w4_ ⟨hx4_,rfl⟩
   have hs_hx4_:=hx4_.size
   refine br (fun c2=>?_) (fun c2=>?_)
   · refine zcI (α:=Int) u33 ty3 z3 zc3 (by decide) (hrow.ext hx4_) (by omega) (ownI_int (lo:=w4_.heap.size) (hi:=w4_.heap.size) (by first | assumption | (unfold I64 at *;omega))) (by omega) (by omega) (by rw [zam];omega) (by omega) fun v20 w5_ hc5_ o20=>?_
     have hs_hc5_:=hc5_.size
     refine zag (by omega) ?_
     refine ⟨m3-1,by omega,k+1,by omega,_,rfl,(Ext.chgI (hx3_.trans hx4_) hc5_ (by omega)),?_⟩
     rw [zco,if_pos c2];exact o20
   refine zag (by omega) ?_
   refine ⟨m3-1,by omega,k+1,by omega,_,rfl,(hx3_.trans hx4_),?_⟩
   rw [zco,if_neg c2];exact (hrow.ext hx4_).mono (by omega) (by omega)
 refine ⟨(hx1_.trans (hx2_.trans hx3_)),?_⟩
 have:k=s.stacks.length:=by omega
 subst this
 exact hrow.own.own.mono (by omega)
def zv3 (c:DCode) (s:DState):List Int:=if CodeR c∧zbQ c s then zcW c s else []
def F34 (a0 a1:Value) (w:World) (R:VW):Prop:=
 oP (Instr.box 36 a0) w fun x2 w=>
 oP (Instr.box 46 a1) w fun x3 w=>
 rL 36 x2 w fun x5=>
 rL 46 x3 w fun x6=>
 cL 73 [x5,x6] w fun x7 w=>
 rD (Op.unary .not x7) w fun x8=>
 BR x8
 (R (Value.slice none 0 0) w)
 (rL 36 x2 w fun x9=>
 rL 46 x3 w fun x10=>
 cL 54 [x9,x10] w fun x11 w=>
 R x11 w)
def zlF (c:DCode) (s:DState):Prop:=(CodeR c∧zbQ c s)∧¬zto s∧zcW c s=[]
instance (c:DCode) (s:DState):Decidable (zlF c s):=by unfold zlF;infer_instance
end Go.Proofs.YtcnglfeoglgebaaGreat
namespace Go.Sh
open Rep (rep)
section
variable {P:Program} {w w0:World} {α:Type} [Rep α]
theorem zlG [RepZ α] {z:Value} (hz:RepZ.zc α=[z]) (w:World):∀ n,Cells [] w (List.replicate n z) (List.replicate n (RepZ.zv:α))
 | 0=>⟨rfl,rfl⟩
 | n+1=>⟨[],[],[z],List.replicate n z,rfl,rfl,hz▸RepZ.zr w,zlG hz w n⟩
theorem zsn (z:Value) (n:Nat):(madeCells #[z] n).toList=List.replicate n z:=by
 apply List.ext_getElem
 · simp [madeCells]
 intro i h1 h2
 simp [madeCells,Nat.mod_one]
theorem zfE [RepZ α] {t e:TypeId} {by_:Nat} {z:Value} {K:Value→World→Prop} {n:Nat} (ht:P.underlying t=some (.slice e)) (he:tyI P e=some (Rep.size α,by_,Rep.agg α)) (h1:Rep.size α=1) (hzc:RepZ.zc α=[z]) (hz:zbU P e=some [z])
   (hb:by_*n≤281474976710656) (hm:n≤9223372036854775807)
   (k:∀ w',Ext w w'→RowI w.heap.size w'.heap.size e w' (.slice (some ⟨w.heap.size,0,none⟩) n n) (List.replicate n (RepZ.zv:α))→K (.slice (some ⟨w.heap.size,0,none⟩) n n) w') :
   OP P (Instr.makeSlice t (.int .i64 (n:Int)) (.int .i64 (n:Int))) w K:=by
 obtain ⟨i,d,hi,hd,hs,hby,hg⟩:=zbZ he
 unfold zbU at hz
 rw [hi] at hz
 obtain ⟨zz,hzz,hcz⟩:=Option.map_eq_some_iff.1 hz
 have hb':(i.bytes:Int)*(n:Int)≤281474976710656:=by
   have h:((i.bytes*n:Nat):Int)≤281474976710656:=by rw [hby];omega
   rwa [Int.natCast_mul] at h
 have hr:=run_make (P:=P) w t e i zz ht hi hzz .i64 .i64 n n (by omega) (Int.le_refl _) hb' (by omega)
 simp only [Int.toNat_natCast] at hr
 have hcells:zz.cells=#[z]:=by apply Array.ext';simpa using hcz
 have hlen:n*i.size=n:=by rw [hs,h1,Nat.mul_one]
 rw [hcells,hlen] at hr
 refine ⟨_,_,hr,k _ (zaI w _) (.inr ⟨[w.heap.size],⟨List.replicate n z,[],⟨?_,.inr ⟨w.heap.size,n,madeCells #[z] n,?_,Nat.zero_le _,heap_alloc_new w _,by simp,by rw [zam];omega,?_,?_⟩⟩,zlG hzc _ n,rfl,Wr.nil _⟩,by simp,?_⟩)⟩
 · simp [h1]
 · simp
 · rw [h1];simp [madeCells]
 · rw [zsn,List.length_replicate,h1,Nat.mul_one,List.take_of_length_le (by simp)]
 intro b hb
 simp only [List.mem_cons,List.not_mem_nil,or_false] at hb
 subst hb
 exact ⟨Nat.le_refl _,(Array.getElem?_eq_some_iff.1 (heap_alloc_new w _)).1⟩
theorem zaT {K:Value→Prop} {t:TypeId} {parts:Array (Nat×Value)} {cells:Array Value} (h:P.built t parts.toList=some cells) (k:K (.agg cells)):RD P (Instr.build t parts) w K:=
 zaQ (fun w' _=>run_build w' t parts cells h) k
theorem ziI {t by_ g e:Nat} {cs:List Value} {K:Value→Prop} (hB:Blk g e w cs) (ht:tyI P t=some (cs.length,by_,true)) (k:K (.agg cs.toArray)):RD P (Instr.loadAt t (.pointer (some ⟨g,0,none⟩))) w K:=
 zbd ⟨e,cs,by_,hB,rfl,ht⟩ (Ext.refl w) k
theorem zep {t by_ g e:Nat} {cs:List Value} {K:Value→Prop} (hB:Blk g e w cs) (ht:tyI P t=some (cs.length,by_,true)) (k:K (.agg cs.toArray)):RD P (zax t (.pointer (some ⟨g,0,none⟩))) w K:=by
 obtain ⟨i,d,hi,hd,hs,_,hg⟩:=zbZ ht
 refine zaQ (fun w' hx'=>?_) k
 have:=run_loadAt_mid w' g 0 t cs d (hB.ext hx').range hd hg (by simp [hi,hs])
 simpa [zax,asAddr,Instr.loadAt,Instr.sureAddr] using this
theorem zbR {t by_ g e:Nat} {cs:List Value} {us:Array Value} {lo hi:Nat} {x:α} {K:World→Prop} (ht:tyI P t=some (Rep.size α,by_,true)) (ha:Rep.agg α=true) (hB:Blk g e w cs) (hl:cs.length=Rep.size α) (hu:OwnI lo hi w (.agg us) x)
   (k:∀ w',ChgI g (g+1) w w'→Blk g e w' us.toList→K w'):OPU P (Instr.storeAt t (.pointer (some ⟨g,0,none⟩)) (.agg us)) w K:=by
 obtain ⟨F,⟨⟨cs',hr,hv⟩,_⟩,_⟩:=hu
 have hus:us.toList=cs':=by
   simp only [mkv,ha,cond_true,Value.agg.injEq] at hv
   rw [hv]
 have hl':=Rep.len hr
 rw [hv]
 refine zqa (by rw [ha];exact ht) hB hr rfl (by omega) fun w' hc hB'=>k w' (hc.toI (by simp)) ?_
 rw [hus]
 rw [List.take_zero,List.nil_append,Nat.zero_add,List.drop_of_length_le (by omega),List.append_nil] at hB'
 exact hB'
theorem zb0 {t by_ g e o:Nat} {cs:List Value} {u:Value} {lo hi:Nat} {x:α} {K:World→Prop} (ht:tyI P t=some (1,by_,false)) (h1:Rep.size α=1) (ha:Rep.agg α=false) (hB:Blk g e w cs) (ho:o<cs.length) (hu:OwnI lo hi w u x)
   (k:∀ w',ChgI g (g+1) w w'→Blk g e w' (cs.set o u)→K w'):OPU P (Instr.storeAt t (.pointer (some ⟨g,o,none⟩)) u) w K:=by
 obtain ⟨F,⟨⟨cs',hr,hv⟩,_⟩,_⟩:=hu
 have hl':=Rep.len hr
 rw [h1] at hl'
 obtain ⟨c,rfl⟩:=List.length_eq_one_iff.1 hl'
 have huc:u=c:=by simpa [mkv,ha] using hv
 subst huc
 refine zqa (by rw [h1,ha];exact ht) hB hr hv (by omega) fun w' hc hB'=>k w' (hc.toI (by simp)) ?_
 have:cs.set o u=cs.take o++[u]++cs.drop (o+1):=by
   rw [List.set_eq_take_append_cons_drop,if_pos ho];simp
 rw [this];exact hB'
theorem Blk.chgI {g e a b:Nat} {w':World} {cs:List Value} (h:Blk g e w cs) (hc:ChgI a b w w') (hd:g<a∨b≤g):Blk g e w' cs:=h.keep (hc.block g h.lt hd)
theorem zdb {a b c:Value} {s:DState} {lo hi l0 h0 l1 h1 l2 h2:Nat} (m0:OwnI l0 h0 w a s.vars) (m1:OwnI l1 h1 w b s.owner) (m2:OwnI l2 h2 w c s.stacks) (d01:h0≤l1∨h1≤l0) (d02:h0≤l2∨h2≤l0) (d12:h1≤l2∨h2≤l1)
   (b0:lo≤l0∧h0≤hi) (b1:lo≤l1∧h1≤hi) (b2:lo≤l2∧h2≤hi):OwnI lo hi w (.agg #[a,b,c]) s:=by
 obtain ⟨F0,M0,B0⟩:=m0
 obtain ⟨F1,M1,B1⟩:=m1
 obtain ⟨F2,M2,B2⟩:=m2
 refine ⟨F0++(F1++F2),zo8 M0 M1 M2 ?_,fun x hx=>?_⟩
 · rw [List.nodup_append,List.nodup_append]
   refine ⟨M0.nodup,⟨M1.nodup,M2.nodup,fun p hp q hq e=>?_⟩,fun p hp q hq e=>?_⟩
   · subst e;have:=B1 p hp;have:=B2 p hq;omega
   subst e
   have:=B0 p hp
   rcases List.mem_append.1 hq with hq | hq
   · have:=B1 p hq;omega
   have:=B2 p hq;omega
 rcases List.mem_append.1 hx with hx | hx
 · have:=B0 x hx;omega
 rcases List.mem_append.1 hx with hx | hx
 · have:=B1 x hx;omega
 have:=B2 x hx;omega
end
end Go.Sh
namespace Go.Sh
open Rep (rep)
def RowG {α:Type} [Rep α] (F:List Nat) (e:TypeId) (w:World) (v:Value) (l:List α):Prop:=(∃ a,v=.slice a 0 0∧l=[]∧F=[])∨RowF F e w v l
section
variable {P:Program} {w w0 w':World} {α β γ:Type} [Rep α] [Rep β] {e lo hi:Nat} {v:Value} {l:List α} {F:List Nat}
theorem RowG.lt (h:RowG F e w v l):∀ b∈F,b<w.heap.size:=by
 rcases h with ⟨a,_,_,rfl⟩ | h
 · simp
 exact h.lt
theorem RowG.keep (h:RowG F e w v l) (hk:∀ b∈F,w'.heap[b]?=w.heap[b]?):RowG F e w' v l:=by
 rcases h with h | h
 · exact .inl h
 exact .inr (h.keep hk)
theorem RowG.own (h:RowG F e w v l):OwnF F w v l:=by
 rcases h with ⟨a,rfl,rfl,rfl⟩ | h
 · exact ⟨_,⟨a,0,[],[],rfl,Nat.le_refl _,Nat.zero_le _,⟨rfl,rfl⟩,.inl ⟨rfl,rfl⟩⟩,rfl⟩
 exact h.own
theorem RowG.wr (h:RowG F e w v l):Wr F w:=by
 rcases h with ⟨a,_,_,rfl⟩ | h
 · exact Wr.nil w
 exact h.wr
theorem RowG.one (h:RowG F e w v l):v.oneCell'=true:=by
 obtain ⟨cs,⟨a,cap,Fi,xs,rfl,_⟩,rfl⟩:=h.own
 rfl
theorem zei:RowI lo hi e w v l↔∃ F,RowG F e w v l∧F.Nodup∧∀ b∈F,lo≤b∧b<hi:=by
 constructor
 · rintro (⟨a,h1,h2⟩ | ⟨F,h1,h2,h3⟩)
   · exact ⟨[],.inl ⟨a,h1,h2,rfl⟩,List.nodup_nil,by simp⟩
   exact ⟨F,.inr h1,h2,h3⟩
 rintro ⟨F,(⟨a,h1,h2,_⟩ | h1),h2',h3⟩
 · exact .inl ⟨a,h1,h2⟩
 exact .inr ⟨F,h1,h2',h3⟩
end
structure RV (α:Type) (e:TypeId) where
 v:Value
 l:List α
instance {α:Type} [Rep α] {e:TypeId}:Rep (RV α e) where
 size:=1
 agg:=false
 rep F w cs x:=cs=[x.v]∧RowG F e w x.v x.l
 pos:=by decide
 sz _:=rfl
 len:=by rintro _ _ _ _ ⟨rfl,_⟩;rfl
 one:=by rintro _ _ _ _ ⟨rfl,h⟩ v hv;simp at hv;subst hv;exact h.one
 keep:=by rintro _ _ _ _ _ ⟨rfl,h⟩ hk;exact ⟨rfl,h.keep hk⟩
 lt:=by rintro _ _ _ _ ⟨rfl,h⟩;exact h.lt
section
variable {P:Program} {w w0 w':World} {α β γ:Type} [Rep α] [Rep β] {e lo hi:Nat} {v:Value} {l:List α} {F:List Nat}
theorem zhk (h:RowI lo hi e w v l):OwnI lo hi w v (⟨v,l⟩:RV α e):=by
 obtain ⟨F,h1,h2,h3⟩:=zei.1 h
 exact ⟨F,⟨⟨[v],⟨rfl,h1⟩,rfl⟩,h2,h1.wr⟩,h3⟩
theorem zm7 {x:RV α e} (h:Is w v x):v=x.v∧Is w x.v x.l:=by
 obtain ⟨F,cs,⟨rfl,h1⟩,hv⟩:=h
 obtain ⟨cs,hr,hv'⟩:=h1.own
 exact ⟨hv,F,cs,hr,hv'⟩
theorem zh9 {t by_ b o:Nat} {x:RV α e} {K:Value→Prop} (ht:tyI P t=some (1,by_,false)) (h:At w0 b o x) (hx:Ext w0 w) (k:K x.v):RD P (Instr.loadAt t (.pointer (some ⟨b,o,none⟩))) w K:=
 zab (α:=RV α e) ht h hx fun v hv=>by rw [(zm7 hv).1];exact k
theorem zvd {k:Nat} (hm:RowG F e w v l) (hn:F.Nodup) (hk:k<l.length) :
   ∃ b a cap G,v=.slice (some ⟨b,a,none⟩) l.length cap∧Lens (fun F w l=>RowG F e w v l∧F.Nodup) F w b (a+k*Rep.size α) G l[k] (fun y=>l.set k y):=by
 rcases hm with ⟨a,_,rfl,_⟩ | hm
 · simp at hk
 have hwF:=hm.wr
 obtain ⟨xs,Fi,ho,hc,rfl,hwi⟩:=hm
 rcases ho.2 with ⟨_,h0⟩ | ⟨g,cap,cur,rfl,hb0,hg,h1,h2,h3,h4⟩
 · omega
 simp only [Value.ownBlock,Option.toList_some,List.cons_append,List.nil_append] at hn hwF ⊢
 have hlx:=ho.1
 have e0:l=l.take k++(l[k] :: l.drop (k+1)):=by simp
 have hc':=hc
 rw [e0] at hc'
 obtain ⟨F1,F2',x1,x2',hFi,hxs,c1,c2'⟩:=Cells.split hc'
 obtain ⟨G,F2,cg,x2,rfl,rfl,hgr,c2⟩:=c2'
 subst hFi hxs
 have hl1:x1.length=k*Rep.size α:=by rw [Cells.len c1,List.length_take];congr 1;omega
 have hlg:=Rep.len hgr
 have hn':=hn
 rw [List.nodup_cons] at hn
 obtain ⟨hbn,hn⟩:=hn
 rw [List.nodup_append] at hn
 obtain ⟨hn1,hn2,hn3⟩:=hn
 rw [List.nodup_append] at hn2
 obtain ⟨hnG,hnF2,hn4⟩:=hn2
 have hrange:w.rangeAt g 0 (x1++(cg++x2)):=by
   intro j u hu
   rw [←h4,List.getElem?_take] at hu
   split at hu
   · simpa [World.cell?,hg] using hu
   cases hu
 obtain ⟨r1,r2⟩:=zau hrange
 obtain ⟨rg,r3⟩:=zau r2
 rw [hl1] at rg r3
 refine ⟨g,0,cap,G,rfl,⟨cg,hgr,rg,hnG,hwi.sub (by simp +contextual),fun h=>hbn (by simp [h]),cur,e,hg⟩,by simp +contextual,fun w' G' y' hch hO hs=>?_⟩
 obtain ⟨cg',hg',rg',hnG',hwG',hbG',hwb'⟩:=hO
 have hlg':=Rep.len hg'
 obtain ⟨cur',hcur',hsame⟩:=hch.cell cur e hg
 have keep1:∀ c∈F1,w'.heap[c]?=w.heap[c]?:=fun c hc1=>by
   refine hch.chg.block c (Cells.lt c1 c hc1) fun hm=>?_
   rcases List.mem_cons.1 hm with rfl | hm
   · exact hbn (by simp [hc1])
   exact hn3 c hc1 c (by simp [hm]) rfl
 have keep2:∀ c∈F2,w'.heap[c]?=w.heap[c]?:=fun c hc1=>by
   refine hch.chg.block c (Cells.lt c2 c hc1) fun hm=>?_
   rcases List.mem_cons.1 hm with rfl | hm
   · exact hbn (by simp [hc1])
   exact hn4 c hm c hc1 rfl
 have hfit:k*Rep.size α+Rep.size α≤cur.size:=by
   rw [h3]
   have:=Nat.mul_le_mul_right (Rep.size α) (show k+1≤cap by omega)
   rw [Nat.add_mul,Nat.one_mul] at this
   exact this
 have hcell':∀ j,j<cg'.length→cur'[0+k*Rep.size α+j]?=cg'[j]?:=by
   intro j hj
   have:=rg' j cg'[j] (by simp [hj])
   simpa [World.cell?,hcur',hj] using this
 have hpos:=Rep.pos (α:=α)
 have hsz':cur'.size=cur.size:=by
   rcases Nat.lt_trichotomy cur'.size cur.size with h | h | h
   · exfalso
     rcases Nat.lt_or_ge cur'.size (k*Rep.size α+Rep.size α) with h' | h'
     · have:=hcell' (Rep.size α-1) (by omega)
       rw [List.getElem?_eq_getElem (by omega)] at this
       have:=(Array.getElem?_eq_some_iff.1 this).1
       omega
     have:=hsame cur'.size (.inr (by omega))
     rw [Array.getElem?_eq_none (Nat.le_refl _),Array.getElem?_eq_getElem h] at this
     cases this
   · exact h
   exfalso
   have:=hsame cur.size (.inr (by omega))
   rw [Array.getElem?_eq_none (Nat.le_refl _),Array.getElem?_eq_getElem h] at this
   cases this
 have hlset:(l.set k y').length=l.length:=by simp
 refine ⟨g :: (F1++(G'++F2)),⟨.inr ⟨x1++(cg'++x2),F1++(G'++F2),⟨?_,.inr ⟨g,cap,cur',by rw [hlset],hb0,hcur',by rw [hlset];exact h1,h2,by rw [hsz'];exact h3,?_⟩⟩,?_,rfl,?_⟩,zlp hn' hnG' hs⟩,?_⟩
 · rw [hlset]
   simp only [List.length_append] at hlx ⊢
   omega
 · rw [hlset]
   apply List.ext_getElem?
   intro j
   have hjx:(cur.toList.take (l.length*Rep.size α))[j]?=(x1++(cg++x2))[j]?:=by rw [h4]
   rcases Nat.lt_or_ge j (l.length*Rep.size α) with hj | hj
   · rw [List.getElem?_take,if_pos hj] at hjx ⊢
     rcases Nat.lt_or_ge j (k*Rep.size α) with h' | h'
     · rw [Array.getElem?_toList,hsame j (.inl (by omega)),←Array.getElem?_toList,hjx,List.getElem?_append_left (by omega),List.getElem?_append_left (by omega)]
     rcases Nat.lt_or_ge j (k*Rep.size α+Rep.size α) with h'' | h''
     · rw [Array.getElem?_toList,List.getElem?_append_right (by omega),List.getElem?_append_left (by omega),hl1,←hcell' (j-k*Rep.size α) (by omega)]
       congr 1
       omega
     rw [Array.getElem?_toList,hsame j (.inr (by omega)),←Array.getElem?_toList,hjx,List.getElem?_append_right (by omega),List.getElem?_append_right (by omega),List.getElem?_append_right (by omega),List.getElem?_append_right (by omega),hlg,hlg']
   rw [List.getElem?_take,if_neg (by omega),List.getElem?_eq_none]
   simp only [List.length_append] at hlx ⊢
   omega
 · have:l.set k y'=l.take k++(y' :: l.drop (k+1)):=by rw [List.set_eq_take_append_cons_drop];simp [hk]
   rw [this]
   exact Cells.append (Cells.keep c1 keep1) ⟨G',F2,cg',x2,rfl,rfl,hg',Cells.keep c2 keep2⟩
 · exact ((hwi.sub (by simp +contextual)).keep keep1).append (hwG'.append ((hwi.sub (by simp +contextual)).keep keep2))
 intro c hcm
 rcases List.mem_cons.1 hcm with rfl | hcm
 · exact .inl (by simp)
 rcases List.mem_append.1 hcm with hcm | hcm
 · exact .inl (by simp [hcm])
 rcases List.mem_append.1 hcm with hcm | hcm
 · exact .inr hcm
 exact .inl (by simp [hcm])
theorem Lens.elemV {H:List Nat→World→γ→Prop} {S:List Nat} {b o:Nat} {G:List Nat} {x:RV β e} {upd:RV β e→γ} (h:Lens H S w b o G x upd) {k:Nat} (hk:k<x.l.length) :
   ∃ b2 a cap G2,x.v=.slice (some ⟨b2,a,none⟩) x.l.length cap∧(∀ c∈b2 :: G2,c∈G)∧Lens H S w b2 (a+k*Rep.size β) G2 x.l[k] (fun y=>upd ⟨x.v,x.l.set k y⟩):=by
 obtain ⟨⟨cs,⟨rfl,hrow⟩,hr,hn,hw,hb,hwb⟩,hsub,hback⟩:=h
 obtain ⟨b2,a,cap,G2,hu,hL⟩:=zvd hrow hn hk
 have hG:∀ c∈G,c∈S:=fun c hc=>hsub c (by simp [hc])
 refine ⟨b2,a,cap,G2,hu,hL.sub,hL.here,fun c hc=>hG c (hL.sub c hc),fun w' G' y' hch hO hs=>?_⟩
 obtain ⟨F1,⟨hR1,hN1⟩,hF1⟩:=hL.back w' G' y' hch hO fun c hc=>by
   rcases hs c hc with h | h
   · exact .inl h
   exact .inr fun e=>h (hG c e)
 have hchG:Chg G w w':=hch.chg.mono hL.sub
 have hbl:b<w.heap.size:=by obtain ⟨c,e,h⟩:=hwb;exact (Array.getElem?_eq_some_iff.1 h).1
 have hbk:w'.heap[b]?=w.heap[b]?:=hchG.block b hbl hb
 have hs1:∀ c∈F1,c∈G∨c∉S:=fun c hc=>by
   rcases hF1 c hc with h | h
   · exact .inl h
   rcases hs c h with h | h
   · exact .inl (hL.sub c (by simp [h]))
   exact .inr h
 have hbF1:b∉F1:=fun hm=>by
   rcases hs1 b hm with h | h
   · exact hb h
   exact h (hsub b (by simp))
 obtain ⟨F',hM',hF'⟩:=hback w' F1 ⟨x.v,x.l.set k y'⟩ ⟨hchG.mono (by simp +contextual),fun c e hc=>⟨c,by rw [hbk];exact hc,fun _ _=>rfl⟩⟩
   ⟨[x.v],⟨rfl,hR1⟩,zaK hr hbk,hN1,hR1.wr,hbF1,by obtain ⟨c,e,h⟩:=hwb;exact ⟨c,e,by rw [hbk];exact h⟩⟩ hs1
 refine ⟨F',hM',fun c hc=>?_⟩
 rcases hF' c hc with h | h
 · exact .inl h
 rcases hF1 c h with h | h
 · exact .inl (hG c h)
 exact .inr h
theorem zoh {t te:TypeId} {by_:Nat} {H:List Nat→World→γ→Prop} {S:List Nat} {b o:Nat} {G:List Nat} {x:RV β e} {upd:RV β e→γ} {k:Nat} {K:Value→Prop} (ht:P.underlying t=some (.slice te)) (he:tyI P te=some (Rep.size β,by_,Rep.agg β)) (h:Lens H S w b o G x upd) (hk:k<x.l.length)
   (kk:∀ b2 o2 G2,Lens H S w b2 o2 G2 x.l[k] (fun y=>upd ⟨x.v,x.l.set k y⟩)→K (.pointer (some ⟨b2,o2,none⟩))):RD P (Instr.indexAt t x.v (.int .i64 (k:Int))) w K:=by
 obtain ⟨b2,a,cap,G2,hv,_,hL⟩:=h.elemV hk
 refine zaQ (v:=.pointer (some ⟨b2,a+k*Rep.size β,none⟩)) (fun w' _=>?_) (kk _ _ _ hL)
 rw [hv,zbH ht he (by omega) (by omega)];simp
instance:RepZ (RV α e):=⟨⟨.slice none 0 0,[]⟩,[.slice none 0 0],fun _=>⟨rfl,.inl ⟨none,rfl,rfl,rfl⟩⟩⟩
end
end Go.Sh
namespace Go.Sh
open Rep (rep)
abbrev RInts:=RV Int 3
abbrev RIntss:=RV RInts 33
structure DStV where
 vars:List Int
 owner:List Int
 stacks:RIntss
theorem DStV.ext_iff {x y:DStV}:x=y↔(x.vars=y.vars∧x.owner=y.owner∧x.stacks=y.stacks):=⟨fun h=>by rw [h];exact ⟨rfl,rfl,rfl⟩,fun h=>by obtain ⟨h0,h1,h2⟩:=h;cases x;cases y;simp only at h0 h1 h2;simp only [h0,h1,h2]⟩
instance:Rep DStV:=Rep.via fun x=>(x.vars,x.owner,x.stacks)
theorem zd4 {w:World} {b o:Nat} {x:DStV} (h:At w b o x):At w b (o+2) x.stacks:=za4 (α:=List Int) (β:=RIntss) (p:=(x.owner,x.stacks)) (za4 (α:=List Int) (β:=(List Int)×RIntss) (p:=(x.vars,x.owner,x.stacks)) h)
instance:RepZ DStV:=⟨⟨(RepZ.zv:List Int),(RepZ.zv:List Int),(RepZ.zv:RIntss)⟩,RepZ.zc ((List Int)×(List Int)×RIntss),fun w=>RepZ.zr (α:=(List Int)×(List Int)×RIntss) w⟩
theorem zm8 {γ:Type} {H:List Nat→World→γ→Prop} {F:List Nat} {w:World} {b o:Nat} {G:List Nat} {x:DStV} {upd:DStV→γ} (h:Lens H F w b o G x upd) :
   ∃ G1,Lens H F w b (o+0) G1 x.vars (fun y=>upd ⟨y,x.owner,x.stacks⟩):=by
 have h':Lens H F w b o G (x.vars,x.owner,x.stacks) (fun p:(List Int)×(List Int)×RIntss=>upd ⟨p.1,p.2.1,p.2.2⟩):=⟨h.here,h.sub,fun w' G' y' hc hO hs=>h.back w' G' _ hc hO hs⟩
 obtain ⟨G0,h'⟩:=h'.fst
 exact ⟨_,h'⟩
theorem zm9 {γ:Type} {H:List Nat→World→γ→Prop} {F:List Nat} {w:World} {b o:Nat} {G:List Nat} {x:DStV} {upd:DStV→γ} (h:Lens H F w b o G x upd) :
   ∃ G1,Lens H F w b (o+1) G1 x.owner (fun y=>upd ⟨x.vars,y,x.stacks⟩):=by
 have h':Lens H F w b o G (x.vars,x.owner,x.stacks) (fun p:(List Int)×(List Int)×RIntss=>upd ⟨p.1,p.2.1,p.2.2⟩):=⟨h.here,h.sub,fun w' G' y' hc hO hs=>h.back w' G' _ hc hO hs⟩
 obtain ⟨G0,h'⟩:=h'.snd
 obtain ⟨G1,h'⟩:=h'.fst
 exact ⟨_,h'⟩
theorem zcp {γ:Type} {H:List Nat→World→γ→Prop} {F:List Nat} {w:World} {b o:Nat} {G:List Nat} {x:DStV} {upd:DStV→γ} (h:Lens H F w b o G x upd) :
   ∃ G1,Lens H F w b (o+2) G1 x.stacks (fun y=>upd ⟨x.vars,x.owner,y⟩):=by
 have h':Lens H F w b o G (x.vars,x.owner,x.stacks) (fun p:(List Int)×(List Int)×RIntss=>upd ⟨p.1,p.2.1,p.2.2⟩):=⟨h.here,h.sub,fun w' G' y' hc hO hs=>h.back w' G' _ hc hO hs⟩
 obtain ⟨G0,h'⟩:=h'.snd
 obtain ⟨G1,h'⟩:=h'.snd
 exact ⟨_,h'⟩
theorem zso {w:World} {F:List Nat} {cs:List Value} {x:DStV} (h:rep F w cs x):∃ F0 c0 F1 c1 F2 c2,F=(F0++(F1++F2))∧cs=(c0++(c1++c2))∧rep F0 w c0 x.vars∧rep F1 w c1 x.owner∧rep F2 w c2 x.stacks:=by
 obtain ⟨F0,G0,c0,d0,rfl,rfl,h0,h⟩:=h
 obtain ⟨F1,G1,c1,d1,rfl,rfl,h1,h⟩:=h
 exact ⟨_,_,_,_,_,_,rfl,rfl,h0,h1,h⟩
def DStV.er (z:DStV):DState:=⟨z.vars,z.owner,z.stacks.l.map RV.l⟩
section
variable {w:World}
theorem zsp {F G H:List Nat} {a b:Value} {s:DStV} (h1:Mine F w a s.vars) (h2:Mine G w b s.owner) (h3:Mine H w s.stacks.v s.stacks) (hn:(F++(G++H)).Nodup):Mine (F++(G++H)) w (.agg #[a,b,s.stacks.v]) s:=
 ⟨⟨[a,b,s.stacks.v],zat (zbk rfl h1.own) (zat (zbk rfl h2.own) (zbk rfl h3.own)),rfl⟩,hn,h1.wr.append (h2.wr.append h3.wr)⟩
theorem zoi {a b:Value} {s:DStV} {lo hi l0 h0 l1 h1 l2 h2:Nat} (m0:OwnI l0 h0 w a s.vars) (m1:OwnI l1 h1 w b s.owner) (m2:OwnI l2 h2 w s.stacks.v s.stacks) (d01:h0≤l1∨h1≤l0) (d02:h0≤l2∨h2≤l0) (d12:h1≤l2∨h2≤l1)
   (b0:lo≤l0∧h0≤hi) (b1:lo≤l1∧h1≤hi) (b2:lo≤l2∧h2≤hi):OwnI lo hi w (.agg #[a,b,s.stacks.v]) s:=by
 obtain ⟨F0,M0,B0⟩:=m0
 obtain ⟨F1,M1,B1⟩:=m1
 obtain ⟨F2,M2,B2⟩:=m2
 refine ⟨F0++(F1++F2),zsp M0 M1 M2 ?_,fun x hx=>?_⟩
 · rw [List.nodup_append,List.nodup_append]
   refine ⟨M0.nodup,⟨M1.nodup,M2.nodup,fun p hp q hq e=>?_⟩,fun p hp q hq e=>?_⟩
   · subst e;have:=B1 p hp;have:=B2 p hq;omega
   subst e
   have:=B0 p hp
   rcases List.mem_append.1 hq with hq | hq
   · have:=B1 p hq;omega
   have:=B2 p hq;omega
 rcases List.mem_append.1 hx with hx | hx
 · have:=B0 x hx;omega
 rcases List.mem_append.1 hx with hx | hx
 · have:=B1 x hx;omega
 have:=B2 x hx;omega
end
end Go.Sh
namespace Go.Proofs.YtcnglfeoglgebaaGreat
open Go Go.Sh Go.Proofs
open Rep (rep)
def F77 (a0:Value) (w:World) (R:VW):Prop:=
 oP (Instr.box 46 a0) w fun x1 w=>
 oP (Instr.alloc 46 true (.tuple #[])) w fun x2 w=>
 (fun w0=>PAR w0 [[(0,6)],[(1,7),(0,6)],[(2,8),(1,7)],[(3,9)],[(4,10),(3,9)],[(5,11),(4,10),(2,8)],[(6,12),(2,8),(5,11)],[(7,3)]] (fun Q=>
 (∀ (u1:Env) (T:Nat→Nat×Nat) (w:World),Ext w0 w→zaH [] w0.heap.size w.heap.size T→(True)→(fun w1=>rF 46 x1 0 w fun x6=>
 Ext w1 w∧Q 0 (upd u1 6 x6) (zbM T 0 (w1.heap.size,w.heap.size)) w) w) ∧
 (∀ (u1:Env) (T:Nat→Nat×Nat) (w:World),Ext w0 w→zaH [0] w0.heap.size w.heap.size T→(Q 0 u1 T w∧True)→(fun w1=>rL 33 (u1 6) w fun x7=>
 Ext w1 w∧Q 1 (upd u1 7 x7) (zbM T 1 (w1.heap.size,w.heap.size)) w) w) ∧
 (∀ (u1:Env) (T:Nat→Nat×Nat) (w:World),Ext w0 w→zaH [1] w0.heap.size w.heap.size T→(Q 1 u1 T w∧True)→(fun w1=>cL 157 [(u1 7)] w fun x8 w=>
 Ext w1 w∧Q 2 (upd u1 8 x8) (zbM T 2 (w1.heap.size,w.heap.size)) w) w) ∧
 (∀ (u1:Env) (T:Nat→Nat×Nat) (w:World),Ext w0 w→zaH [] w0.heap.size w.heap.size T→(True)→(fun w1=>rF 46 x1 1 w fun x9=>
 Ext w1 w∧Q 3 (upd u1 9 x9) (zbM T 3 (w1.heap.size,w.heap.size)) w) w) ∧
 (∀ (u1:Env) (T:Nat→Nat×Nat) (w:World),Ext w0 w→zaH [3] w0.heap.size w.heap.size T→(Q 3 u1 T w∧True)→(fun w1=>rL 33 (u1 9) w fun x10=>
 Ext w1 w∧Q 4 (upd u1 10 x10) (zbM T 4 (w1.heap.size,w.heap.size)) w) w) ∧
 (∀ (u1:Env) (T:Nat→Nat×Nat) (w:World),Ext w0 w→zaH [4,2] w0.heap.size w.heap.size T→(Q 4 u1 T w∧Q 2 u1 T w∧True)→(fun w1=>cL 157 [(u1 10)] w fun x11 w=>
 Ext w1 w∧Q 5 (upd u1 11 x11) (zbM T 5 (w1.heap.size,w.heap.size)) w) w) ∧
 (∀ (u1:Env) (T:Nat→Nat×Nat) (w:World),Ext w0 w→zaH [2,5] w0.heap.size w.heap.size T→(Q 2 u1 T w∧Q 5 u1 T w∧True)→(fun w1=>rD (Instr.build 46 #[(0,(u1 8)),(1,(u1 11))]) w fun x12=>
 Ext w1 w∧Q 6 (upd u1 12 x12) (zbM T 6 (w1.heap.size,w.heap.size)) w) w) ∧
 (∀ (u1:Env) (T:Nat→Nat×Nat) (w:World),Ext w0 w→zaH [] w0.heap.size w.heap.size T→(True)→(fun w1=>oP (Instr.alloc 46 true (.tuple #[])) w fun x3 w=>
 Ext w1 w∧Q 7 (upd u1 3 x3) (zbM T 7 (w1.heap.size,w.heap.size)) w) w) ∧
 True)
 (fun Q=>∀ (u1:Env) (T:Nat→Nat×Nat) (w:World),Ext w0 w→zaH [0,1,2,3,4,5,6,7] w0.heap.size w.heap.size T→(Q 0 u1 T w∧Q 1 u1 T w∧Q 2 u1 T w∧Q 3 u1 T w∧Q 4 u1 T w∧Q 5 u1 T w∧Q 6 u1 T w∧Q 7 u1 T w∧True) →
 oS 46 (u1 3) (u1 12) w fun w=>
 rF 46 x1 2 w fun x13=>
 rL 44 x13 w fun x14=>
 rN 44 3 x14 w fun x15=>
 LOOPI [16] [(iV 0)] w fun u3 w next3=>
 rC (u3 16) x15 w fun x17=>
 BR x17
 (rX 44 x14 (u3 16) w fun x18=>
 rL 33 x18 w fun x19=>
 (fun w=>rF 46 (u1 3) 2 w fun x20=>
 rL 44 x20 w fun x21=>
 (fun w_=>cL 157 [x19] w_ fun x23 w=>
 Ext w_ w ∧
 (fun w_=>oP (Instr.buildSlice 44 1 #[(0,x23)]) w_ fun x24 w=>
 Ext w_ w ∧
 (oP (Builtin.append_ #[44,44] 44 [x21,x24].toArray) w fun x25 w=>
 rF 46 (u1 3) 2 w fun x26=>
 oS 44 x26 x25 w fun w=>
 rA (u3 16) (iV 1) w fun x27=>
 next3 [x27] w)) w) w) (World.drew1 w))
 (rL 46 (u1 3) w fun x28=>
 oS 46 x2 x28 w fun w=>
 rD (zax 46 x2) w fun r2=>R r2 w))) (World.drew1 w)
def cfg77:Cfg:=⟨extL,[],[(3,268369952,[16])],[(5,[0,1,2,3,4,5,6,7],24)],[(1,8136,8)],[],[]⟩
theorem F77_call {a0:Value} {w:World} {R:VW} (h:F77 a0 w R):cL 77 [a0] w R:=co (g:=cfg77) Tryz.func77 (by kernel_rfl) (by kernel_rfl) (by kernel_rfl) h
def F79 (a0:Value) (w:World) (R:VW):Prop:=
 oP (Instr.box 46 a0) w fun x1 w=>
 oP (Instr.alloc 46 true (.tuple #[])) w fun x2 w=>
 (fun w0=>PAR w0 [[(0,5)],[(1,6)],[(2,7),(1,6)],[(3,8),(0,5),(2,7)],[(4,9)],[(5,10)],[(6,11),(5,10)],[(7,12),(4,9),(6,11),(3,8)],[(8,13),(3,8),(7,12)],[(9,3)]] (fun Q=>
 (∀ (u1:Env) (T:Nat→Nat×Nat) (w:World),Ext w0 w→zaH [] w0.heap.size w.heap.size T→(True)→(fun w1=>oP (Instr.buildSlice 33 0 #[]) w fun x5 w=>
 Ext w1 w∧Q 0 (upd u1 5 x5) (zbM T 0 (w1.heap.size,w.heap.size)) w) w) ∧
 (∀ (u1:Env) (T:Nat→Nat×Nat) (w:World),Ext w0 w→zaH [] w0.heap.size w.heap.size T→(True)→(fun w1=>rF 46 x1 0 w fun x6=>
 Ext w1 w∧Q 1 (upd u1 6 x6) (zbM T 1 (w1.heap.size,w.heap.size)) w) w) ∧
 (∀ (u1:Env) (T:Nat→Nat×Nat) (w:World),Ext w0 w→zaH [1] w0.heap.size w.heap.size T→(Q 1 u1 T w∧True)→(fun w1=>rL 33 (u1 6) w fun x7=>
 Ext w1 w∧Q 2 (upd u1 7 x7) (zbM T 2 (w1.heap.size,w.heap.size)) w) w) ∧
 (∀ (u1:Env) (T:Nat→Nat×Nat) (w:World),Ext w0 w→zaH [0,2] w0.heap.size w.heap.size T→(Q 0 u1 T w∧Q 2 u1 T w∧True)→(fun w1=>oP (Builtin.append_ #[33,33] 33 [(u1 5),(u1 7)].toArray) w fun x8 w=>
 Ext w1 w∧Q 3 (upd u1 8 x8) (zbM T 3 (w1.heap.size,w.heap.size)) w) w) ∧
 (∀ (u1:Env) (T:Nat→Nat×Nat) (w:World),Ext w0 w→zaH [] w0.heap.size w.heap.size T→(True)→(fun w1=>oP (Instr.buildSlice 33 0 #[]) w fun x9 w=>
 Ext w1 w∧Q 4 (upd u1 9 x9) (zbM T 4 (w1.heap.size,w.heap.size)) w) w) ∧
 (∀ (u1:Env) (T:Nat→Nat×Nat) (w:World),Ext w0 w→zaH [] w0.heap.size w.heap.size T→(True)→(fun w1=>rF 46 x1 1 w fun x10=>
 Ext w1 w∧Q 5 (upd u1 10 x10) (zbM T 5 (w1.heap.size,w.heap.size)) w) w) ∧
 (∀ (u1:Env) (T:Nat→Nat×Nat) (w:World),Ext w0 w→zaH [5] w0.heap.size w.heap.size T→(Q 5 u1 T w∧True)→(fun w1=>rL 33 (u1 10) w fun x11=>
 Ext w1 w∧Q 6 (upd u1 11 x11) (zbM T 6 (w1.heap.size,w.heap.size)) w) w) ∧
 (∀ (u1:Env) (T:Nat→Nat×Nat) (w:World),Ext w0 w→zaH [4,6,3] w0.heap.size w.heap.size T→(Q 4 u1 T w∧Q 6 u1 T w∧Q 3 u1 T w∧True)→(fun w1=>oP (Builtin.append_ #[33,33] 33 [(u1 9),(u1 11)].toArray) w fun x12 w=>
 Ext w1 w∧Q 7 (upd u1 12 x12) (zbM T 7 (w1.heap.size,w.heap.size)) w) w) ∧
 (∀ (u1:Env) (T:Nat→Nat×Nat) (w:World),Ext w0 w→zaH [3,7] w0.heap.size w.heap.size T→(Q 3 u1 T w∧Q 7 u1 T w∧True)→(fun w1=>rD (Instr.build 46 #[(0,(u1 8)),(1,(u1 12))]) w fun x13=>
 Ext w1 w∧Q 8 (upd u1 13 x13) (zbM T 8 (w1.heap.size,w.heap.size)) w) w) ∧
 (∀ (u1:Env) (T:Nat→Nat×Nat) (w:World),Ext w0 w→zaH [] w0.heap.size w.heap.size T→(True)→(fun w1=>oP (Instr.alloc 46 true (.tuple #[])) w fun x3 w=>
 Ext w1 w∧Q 9 (upd u1 3 x3) (zbM T 9 (w1.heap.size,w.heap.size)) w) w) ∧
 True)
 (fun Q=>∀ (u1:Env) (T:Nat→Nat×Nat) (w:World),Ext w0 w→zaH [0,1,2,3,4,5,6,7,8,9] w0.heap.size w.heap.size T→(Q 0 u1 T w∧Q 1 u1 T w∧Q 2 u1 T w∧Q 3 u1 T w∧Q 4 u1 T w∧Q 5 u1 T w∧Q 6 u1 T w∧Q 7 u1 T w∧Q 8 u1 T w∧Q 9 u1 T w∧True) →
 oS 46 (u1 3) (u1 13) w fun w=>
 LOOPI [4] [(iV 0)] w fun u3 w next3=>
 rF 46 x1 2 w fun x15=>
 rL 44 x15 w fun x16=>
 rN 44 3 x16 w fun x17=>
 rC (u3 4) x17 w fun x18=>
 BR x18
 ((fun w=>rF 46 (u1 3) 2 w fun x21=>
 rL 44 x21 w fun x22=>
 rF 46 x1 2 w fun x24=>
 rL 44 x24 w fun x25=>
 rX 44 x25 (u3 4) w fun x27=>
 rL 33 x27 w fun x28=>
 (fun w_=>oP (Instr.buildSlice 33 0 #[]) w_ fun x23 w=>
 Ext w_ w ∧
 ((fun w_=>oP (Builtin.append_ #[33,33] 33 [x23,x28].toArray) w_ fun x29 w=>
 Ext w_ w ∧
 ((fun w_=>oP (Instr.buildSlice 44 1 #[(0,x29)]) w_ fun x30 w=>
 Ext w_ w ∧
 (oP (Builtin.append_ #[44,44] 44 [x22,x30].toArray) w fun x31 w=>
 rF 46 (u1 3) 2 w fun x32=>
 oS 44 x32 x31 w fun w=>
 rA (u3 4) (iV 1) w fun x20=>
 next3 [x20] w)) w)) w)) w) (World.drew1 w))
 (rL 46 (u1 3) w fun x33=>
 oS 46 x2 x33 w fun w=>
 rD (zax 46 x2) w fun r2=>R r2 w))) (World.drew1 w)
def cfg79:Cfg:=⟨extL,[],[(3,8589918224,[4])],[(5,[0,1,3,4,5,6,7,2,8,9,10,11,12],772)],[(1,16360,10)],[],[]⟩
theorem F79_call {a0:Value} {w:World} {R:VW} (h:F79 a0 w R):cL 79 [a0] w R:=co (g:=cfg79) Tryz.func79 (by kernel_rfl) (by kernel_rfl) (by kernel_rfl) h
theorem zpX:zbU Tryz.prog 46=some [.slice none 0 0,.slice none 0 0,.slice none 0 0]:=by kernel_rfl
theorem zdr {lo hi:Nat} {w:World} {v:Value} {α:Type} [Rep α] {l:List α} (h:OwnI lo hi w v l):∃ a n c,v=.slice a n c:=by
 obtain ⟨a,cap,Fi,xs,hv,_⟩:=zcc h.is
 exact ⟨a,_,cap,hv⟩
theorem zez {P:Program} {w w0:World} {α:Type} [Rep α] [Flat α] {t ty e:TypeId} {by_:Nat} {a:Option Addr} {src:Value} {m:List α} {K:Value→World→Prop} (ht:P.underlying t=some (.slice e)) (he:tyI P e=some (Rep.size α,by_,Rep.agg α))
   (hzc:(P.info? e).map (fun i=>(i.zero.map (·.cells.size)))=some (some (Rep.size α))) (hs:Is w0 src m) (hx:Ext w0 w) (hm:m.length≤maxLen) (hb:m.length*by_≤140737488355328)
   (k:∀ v' w',Ext w w'→RowI w.heap.size w'.heap.size e w' v' m→K v' w'):OP P (Builtin.append_ #[t,t] ty [.slice a 0 0,src].toArray) w K:=
 zhf (lo:=w.heap.size) (hi:=w.heap.size) (l:=([]:List α)) ht he hzc (zd1 _ _ _ _ _) (Nat.le_refl _) hs hx (by simpa using hm) (by simpa using hb) fun v' w' hc hr=>k v' w' ((Ext.refl w).chgI hc (Nat.le_refl _)) (by simpa using hr)
theorem zqz {w w0:World} {v:Value} {l:List Int} (h:Is w0 v l) (hx:Ext w0 w) (hn:l.length≤1073741824) :
   CALL Tryz.prog 157 [v] w fun r w'=>Ext w w'∧RowI w.heap.size w'.heap.size 3 w' r l:=by
 refine F157_call ?_
 unfold F157
 obtain ⟨a,cap,Fi,xs,rfl,h1,h2,hc,h4⟩:=zcc h
 refine zed zo5 ?_
 refine zb4 (fun hnil=>?_) (fun hnn=>?_)
 · have:l=[]:=by
     rcases h4 with h4 | ⟨b,o,ha,_⟩
     · exact h4
     subst ha;simp at hnil
   subst this
   exact ⟨Ext.refl w,zbE _ _ _ _⟩
 refine zbW (α:=Int) zo5 zsc fun a1 w1 hx1 hr1=>?_
 refine zez (α:=Int) zo5 zsc zu7 h (hx.trans hx1) (by rw [zam];omega) (by omega) fun v2 w2 hx2 hr2=>?_
 exact ⟨hx1.trans hx2,hr2.mono hx1.size (Nat.le_refl _)⟩
def zv4 (s:DState):Prop:=s.vars.length≤1073741824∧s.owner.length≤1073741824∧s.stacks.length≤1073741824∧∀ x∈s.stacks,x.length≤1073741824
def cpQ (s:DState) (g1:Nat) (w0:World):ParQ:=fun i u T w=>match i with
 | 0=>u 6=.pointer (some ⟨g1,0+0,none⟩)
 | 1=>Is w0 (u 7) s.vars
 | 2=>OwnI (T 2).1 (T 2).2 w (u 8) s.vars
 | 3=>u 9=.pointer (some ⟨g1,0+1,none⟩)
 | 4=>Is w0 (u 10) s.owner
 | 5=>OwnI (T 5).1 (T 5).2 w (u 11) s.owner
 | 6=>u 12=.agg #[u 8,u 11,.slice none 0 0]
 | 7=>∃ g,u 3=.pointer (some ⟨g,0,none⟩)∧(T 7).1≤g∧g<(T 7).2∧Blk g 46 w [.slice none 0 0,.slice none 0 0,.slice none 0 0]
 | _=>True
theorem zlH {w W:World} {v:Value} {s:DState} (h:Is W v s) (e:Ext W w) (hsz:zv4 s) :
   CALL Tryz.prog 77 [v] w fun r w'=>Ext w w'∧∃ z:DStV,OwnI w.heap.size w'.heap.size w' r z∧z.er=s:=by
 obtain ⟨hz1,hz2,hz3,hz4⟩:=hsz
 refine F77_call ?_
 unfold F77
 refine zcz h e fun w1 hx1 hA=>?_
 refine zbD zpX fun w2 hx2 hB2=>?_
 have hg2:=hB2.lt
 have hs1:=hx1.size
 have hx3:=zak w2
 have hs3:=hx3.size
 refine PAR.mk (cpQ s w.heap.size (World.drew1 w2)) ?_ ?_ ?_
 · intro i u u' T T' wa wb hxa hxb hd hq
   match i,hd,hq with
   | 0,hd,hq=>exact (hd (0,6) (by decide)).1.trans hq
   | 1,hd,hq=>have:=(hd (1,7) (by decide)).1;show Is _ (u' 7) _;simp only [this];exact hq
   | 2,hd,hq=>
     obtain ⟨e1,e2⟩:=hd (2,8) (by decide)
     simp only at e1 e2
     show OwnI (T' 2).1 (T' 2).2 wb (u' 8) s.vars
     rw [e1,e2];exact OwnI.ext hq hxb
   | 3,hd,hq=>exact (hd (3,9) (by decide)).1.trans hq
   | 4,hd,hq=>have:=(hd (4,10) (by decide)).1;show Is _ (u' 10) _;simp only [this];exact hq
   | 5,hd,hq=>
     obtain ⟨e1,e2⟩:=hd (5,11) (by decide)
     simp only at e1 e2
     show OwnI (T' 5).1 (T' 5).2 wb (u' 11) s.owner
     rw [e1,e2];exact OwnI.ext hq hxb
   | 6,hd,hq=>
     have e1:=(hd (6,12) (by decide)).1
     have e2:=(hd (2,8) (by decide)).1
     have e3:=(hd (5,11) (by decide)).1
     simp only at e1 e2 e3
     show u' 12=.agg #[u' 8,u' 11,.slice none 0 0]
     rw [e1,e2,e3];exact hq
   | 7,hd,⟨g,q1,q2,q3,q4⟩=>
     obtain ⟨e1,e2⟩:=hd (7,3) (by decide)
     simp only at e1 e2
     exact ⟨g,e1.trans q1,by rw [e2];exact q2,by rw [e2];exact q3,q4.ext hxb⟩
   | n+8,_,_=>trivial
 · refine ⟨fun u T w' hx _ _=>?_,fun u T w' hx _ hp=>?_,fun u T w' hx _ hp=>?_,fun u T w' hx _ _=>?_,fun u T w' hx _ hp=>?_,fun u T w' hx _ hp=>?_,fun u T w' hx _ hp=>?_,fun u T w' hx _ _=>?_,trivial⟩
   · exact zaa zf3 ⟨Ext.refl _,rfl⟩
   · have q0:u 6=_:=hp.1
     rw [q0]
     exact zab za1 (zcn hA) (hx2.trans (hx3.trans hx)) fun v6 h6=>⟨Ext.refl _,(h6.ext (hx2.trans hx3))⟩
   · have q1:Is _ (u 7) s.vars:=hp.1
     exact (zn1 q1 hx hz1).mono fun r w4 ⟨hx4,ho⟩=>⟨hx4,ho.toI⟩
   · exact zaa zdp ⟨Ext.refl _,rfl⟩
   · have q0:u 9=_:=hp.1
     rw [q0]
     exact zab za1 (zcH hA) (hx2.trans (hx3.trans hx)) fun v6 h6=>⟨Ext.refl _,(h6.ext (hx2.trans hx3))⟩
   · have q1:Is _ (u 10) s.owner:=hp.1
     exact (zn1 q1 hx hz2).mono fun r w4 ⟨hx4,ho⟩=>⟨hx4,ho.toI⟩
   · have o1:OwnI _ _ _ (u 8) s.vars:=hp.1
     have o2:OwnI _ _ _ (u 11) s.owner:=hp.2.1
     obtain ⟨a,n,cap,q1⟩:=zdr o1
     obtain ⟨a',n',cap',q1'⟩:=zdr o2
     rw [q1,q1']
     refine zaT (cells:=#[.slice a n cap,.slice a' n' cap',.slice none 0 0]) (by kernel_rfl) ⟨Ext.refl _,?_⟩
     show _=Value.agg #[u 8,u 11,.slice none 0 0]
     rw [q1,q1'];rfl
   exact zbD zpX fun w4 hx4 hB=>⟨hx4,w'.heap.size,rfl,Nat.le_refl _,hB.lt,hB⟩
 rintro u T w4 hx4 hap ⟨-,-,o8,-,-,o11,q12,⟨g,q3,hg0,hg1,hB3⟩,-⟩
 have q12:u 12=.agg #[u 8,u 11,.slice none 0 0]:=q12
 have o8:OwnI (T 2).1 (T 2).2 w4 (u 8) s.vars:=o8
 have o11:OwnI (T 5).1 (T 5).2 w4 (u 11) s.owner:=o11
 have t2:=hap.1 2 (by decide)
 have t5:=hap.1 5 (by decide)
 have t7:=hap.1 7 (by decide)
 have d25:=hap.2 2 (by decide) 5 (by decide) (by decide)
 have d27:=hap.2 2 (by decide) 7 (by decide) (by decide)
 have d57:=hap.2 5 (by decide) 7 (by decide) (by decide)
 generalize u 8=v8 at *
 generalize u 11=v11 at *
 have hs4:=hx4.size
 rw [q12,q3]
 refine zbR (x:=(⟨s.vars,s.owner,[]⟩:DState)) (lo:=0) (hi:=w4.heap.size) zck rfl hB3 rfl
   (zdb (l2:=0) (h2:=0) o8 o11 (zb6 none) (by omega) (by omega) (by omega) (by omega) (by omega) (by omega)) fun w5 hc5 hB5=>?_
 have hs5:=hc5.size
 have hx15:Ext w1 w5:=Ext.chgI (hx2.trans (hx3.trans hx4)) hc5 (by omega)
 replace o8:=o8.chg hc5 (by omega)
 replace o11:=o11.chg hc5 (by omega)
 have hB25:=((hB2.ext hx3).ext hx4).chgI hc5 (by omega)
 refine zaa za6 ?_
 refine zab zes (zaN hA) hx15 fun v14 h14=>?_
 refine zae u44 h14 ?_
 refine zaB s.stacks.length (fun k us w'=>us=[.int .i64 (k:Int)]∧w5.heap.size≤w'.heap.size∧Ext w1 w'∧OwnI (T 2).1 (T 2).2 w' v8 s.vars∧OwnI (T 5).1 (T 5).2 w' v11 s.owner ∧
   (∃ v1 hi,∃ l:List RInts,hi≤w'.heap.size∧w5.heap.size≤hi∧l.map RV.l=s.stacks.take k∧Blk g 46 w' [v8,v11,v1]∧RowI w5.heap.size hi 33 w' v1 l)∧Blk w1.heap.size 46 w' [.slice none 0 0,.slice none 0 0,.slice none 0 0]) 0 (Nat.zero_le _)
   ⟨rfl,Nat.le_refl _,hx15,o8,o11,⟨.slice none 0 0,w5.heap.size,[],Nat.le_refl _,Nat.le_refl _,by simp,hB5,zbE _ _ _ _⟩,hB25⟩ ?_
 rintro k m uu w7 hkm ⟨hu,hs7,hx7,o8,o11,⟨v1,hi,l,hhi,hhi2,hl,hB7,r7⟩,hB27⟩
 simp only [List.map_cons,List.map_nil,List.cons.injEq,and_true] at hu
 rw [hu]
 have hll:l.length=k:=by have:=congrArg List.length hl;simp at this;omega
 refine zai ?_
 refine br (fun hlt=>?_) (fun hge=>?_)
 · have hk:k<s.stacks.length:=by omega
   refine zad u44 za1 h14 hk fun b o hA2=>?_
   refine zab za1 hA2 hx7 fun v19 h19=>?_
   have hx8:=zak w7
   have hs8:=hx8.size
   refine zaa za6 ?_
   refine zaA zes (hB7.ext hx8) rfl ?_
   refine (zqz h19 (hx7.trans hx8) (hz4 _ (List.getElem_mem hk))).mono ?_
   rintro r23 w9 ⟨hx9,r9⟩
   have hs9:=hx9.size
   refine ⟨hx9,?_⟩
   refine zkn (α:=RInts) u44 za1 z33 zu8 (by decide) ((r7.ext hx8).ext hx9) (by omega) (zhk r9) (by omega) (by omega) (by rw [zam];omega) (by omega) fun v25 w10 hc10 r10=>?_
   have hs10:=hc10.size
   have hx79:=hx8.trans hx9
   refine zaa za6 ?_
   refine zb0 (α:=List RInts) zes rfl rfl ((hB7.ext hx79).chgI hc10 (by omega)) (by simp) r10.own fun w11 hc11 hB11=>?_
   have hs11:=hc11.size
   refine zag (by omega) ?_
   refine ⟨m-1,by omega,k+1,by omega,rfl,by omega,Ext.chgI (Ext.chgI (hx7.trans hx79) hc10 (by omega)) hc11 (by omega),((o8.ext hx79).chg hc10 (by omega)).chg hc11 (by omega),((o11.ext hx79).chg hc10 (by omega)).chg hc11 (by omega),⟨v25,w10.heap.size,_,by omega,by omega,?_,hB11,r10.chg hc11 (by omega)⟩,((hB27.ext hx79).chgI hc10 (by omega)).chgI hc11 (by omega)⟩
   rw [List.map_append,hl,List.take_succ_eq_append_getElem hk];rfl
 have hk:k=s.stacks.length:=by omega
 refine ziI hB7 zck ?_
 have ost:OwnI w2.heap.size w7.heap.size w7 (.agg #[v8,v11,v1]) (⟨s.vars,s.owner,⟨v1,l⟩⟩:DStV):=
   zoi (s:=⟨s.vars,s.owner,⟨v1,l⟩⟩) o8 o11 (zhk r7) (by omega) (by omega) (by omega) (by omega) (by omega) (by omega)
 refine zbR zck rfl hB27 rfl ost fun w13 hc13 hB13=>?_
 have hs13:=hc13.size
 refine zep hB13 zck ?_
 refine ⟨Ext.chgI (hx1.trans hx7) hc13 (by omega),_,(ost.chg hc13 (by omega)).mono (by omega) (by omega),?_⟩
 show (⟨s.vars,s.owner,l.map RV.l⟩:DState)=s
 rw [hl,hk,List.take_length]
def cqQ (s:DState) (g1:Nat) (w0:World):ParQ:=fun i u T w=>match i with
 | 0=>∃ a,u 5=.slice (some a) 0 0
 | 1=>u 6=.pointer (some ⟨g1,0+0,none⟩)
 | 2=>Is w0 (u 7) s.vars
 | 3=>OwnI (T 3).1 (T 3).2 w (u 8) s.vars
 | 4=>∃ a,u 9=.slice (some a) 0 0
 | 5=>u 10=.pointer (some ⟨g1,0+1,none⟩)
 | 6=>Is w0 (u 11) s.owner
 | 7=>OwnI (T 7).1 (T 7).2 w (u 12) s.owner
 | 8=>u 13=.agg #[u 8,u 12,.slice none 0 0]
 | 9=>∃ g,u 3=.pointer (some ⟨g,0,none⟩)∧(T 9).1≤g∧g<(T 9).2∧Blk g 46 w [.slice none 0 0,.slice none 0 0,.slice none 0 0]
 | _=>True
theorem zpf {w W:World} {v:Value} {s:DState} (h:Is W v s) (e:Ext W w) (hsz:zv4 s) :
   CALL Tryz.prog 79 [v] w fun r w'=>Ext w w'∧∃ z:DStV,OwnI w.heap.size w'.heap.size w' r z∧z.er=s:=by
 obtain ⟨hz1,hz2,hz3,hz4⟩:=hsz
 refine F79_call ?_
 unfold F79
 refine zcz h e fun w1 hx1 hA=>?_
 refine zbD zpX fun w2 hx2 hB2=>?_
 have hg2:=hB2.lt
 have hs1:=hx1.size
 have hx3:=zak w2
 have hs3:=hx3.size
 refine PAR.mk (cqQ s w.heap.size (World.drew1 w2)) ?_ ?_ ?_
 · intro i u u' T T' wa wb hxa hxb hd hq
   match i,hd,hq with
   | 0,hd,⟨a,hq⟩=>exact ⟨a,(hd (0,5) (by decide)).1.trans hq⟩
   | 1,hd,hq=>exact (hd (1,6) (by decide)).1.trans hq
   | 2,hd,hq=>have:=(hd (2,7) (by decide)).1;show Is _ (u' 7) _;simp only [this];exact hq
   | 3,hd,hq=>
     obtain ⟨e1,e2⟩:=hd (3,8) (by decide)
     simp only at e1 e2
     show OwnI (T' 3).1 (T' 3).2 wb (u' 8) s.vars
     rw [e1,e2];exact OwnI.ext hq hxb
   | 4,hd,⟨a,hq⟩=>exact ⟨a,(hd (4,9) (by decide)).1.trans hq⟩
   | 5,hd,hq=>exact (hd (5,10) (by decide)).1.trans hq
   | 6,hd,hq=>have:=(hd (6,11) (by decide)).1;show Is _ (u' 11) _;simp only [this];exact hq
   | 7,hd,hq=>
     obtain ⟨e1,e2⟩:=hd (7,12) (by decide)
     simp only at e1 e2
     show OwnI (T' 7).1 (T' 7).2 wb (u' 12) s.owner
     rw [e1,e2];exact OwnI.ext hq hxb
   | 8,hd,hq=>
     have e1:=(hd (8,13) (by decide)).1
     have e2:=(hd (3,8) (by decide)).1
     have e3:=(hd (7,12) (by decide)).1
     simp only at e1 e2 e3
     show u' 13=.agg #[u' 8,u' 12,.slice none 0 0]
     rw [e1,e2,e3];exact hq
   | 9,hd,⟨g,q1,q2,q3,q4⟩=>
     obtain ⟨e1,e2⟩:=hd (9,3) (by decide)
     simp only at e1 e2
     exact ⟨g,e1.trans q1,by rw [e2];exact q2,by rw [e2];exact q3,q4.ext hxb⟩
   | n+10,_,_=>trivial
 · refine ⟨fun u T w' hx _ _=>?_,fun u T w' hx _ _=>?_,fun u T w' hx _ hp=>?_,fun u T w' hx _ hp=>?_,fun u T w' hx _ _=>?_,fun u T w' hx _ _=>?_,fun u T w' hx _ hp=>?_,fun u T w' hx _ hp=>?_,fun u T w' hx _ hp=>?_,fun u T w' hx _ _=>?_,trivial⟩
   · exact zbW (α:=Int) u33 ty3 fun a w4 hx4 _=>⟨hx4,a,rfl⟩
   · exact zaa zf3 ⟨Ext.refl _,rfl⟩
   · have q0:u 6=_:=hp.1
     rw [q0]
     exact zab za1 (zcn hA) (hx2.trans (hx3.trans hx)) fun v6 h6=>⟨Ext.refl _,(h6.ext (hx2.trans hx3))⟩
   · obtain ⟨a,q0⟩:∃ a,u 5=.slice (some a) 0 0:=hp.1
     have q1:Is _ (u 7) s.vars:=hp.2.1
     rw [q0]
     exact zez (α:=Int) u33 ty3 zc3 q1 hx (by rw [zam];omega) (by omega) fun v4 w4 hx4 r4=>⟨hx4,r4.own⟩
   · exact zbW (α:=Int) u33 ty3 fun a w4 hx4 _=>⟨hx4,a,rfl⟩
   · exact zaa zdp ⟨Ext.refl _,rfl⟩
   · have q0:u 10=_:=hp.1
     rw [q0]
     exact zab za1 (zcH hA) (hx2.trans (hx3.trans hx)) fun v6 h6=>⟨Ext.refl _,(h6.ext (hx2.trans hx3))⟩
   · obtain ⟨a,q0⟩:∃ a,u 9=.slice (some a) 0 0:=hp.1
     have q1:Is _ (u 11) s.owner:=hp.2.1
     rw [q0]
     exact zez (α:=Int) u33 ty3 zc3 q1 hx (by rw [zam];omega) (by omega) fun v4 w4 hx4 r4=>⟨hx4,r4.own⟩
   · have o1:OwnI _ _ _ (u 8) s.vars:=hp.1
     have o2:OwnI _ _ _ (u 12) s.owner:=hp.2.1
     obtain ⟨a,n,cap,q1⟩:=zdr o1
     obtain ⟨a',n',cap',q1'⟩:=zdr o2
     rw [q1,q1']
     refine zaT (cells:=#[.slice a n cap,.slice a' n' cap',.slice none 0 0]) (by kernel_rfl) ⟨Ext.refl _,?_⟩
     show _=Value.agg #[u 8,u 12,.slice none 0 0]
     rw [q1,q1'];rfl
   exact zbD zpX fun w4 hx4 hB=>⟨hx4,w'.heap.size,rfl,Nat.le_refl _,hB.lt,hB⟩
 rintro u T w4 hx4 hap ⟨-,-,-,o8,-,-,-,o11,q12,⟨g,q3,hg0,hg1,hB3⟩,-⟩
 have q12:u 13=.agg #[u 8,u 12,.slice none 0 0]:=q12
 have o8:OwnI (T 3).1 (T 3).2 w4 (u 8) s.vars:=o8
 have o11:OwnI (T 7).1 (T 7).2 w4 (u 12) s.owner:=o11
 have t2:=hap.1 3 (by decide)
 have t5:=hap.1 7 (by decide)
 have t7:=hap.1 9 (by decide)
 have d25:=hap.2 3 (by decide) 7 (by decide) (by decide)
 have d27:=hap.2 3 (by decide) 9 (by decide) (by decide)
 have d57:=hap.2 7 (by decide) 9 (by decide) (by decide)
 generalize u 8=v8 at *
 generalize u 12=v11 at *
 have hs4:=hx4.size
 rw [q12,q3]
 refine zbR (x:=(⟨s.vars,s.owner,[]⟩:DState)) (lo:=0) (hi:=w4.heap.size) zck rfl hB3 rfl
   (zdb (l2:=0) (h2:=0) o8 o11 (zb6 none) (by omega) (by omega) (by omega) (by omega) (by omega) (by omega)) fun w5 hc5 hB5=>?_
 have hs5:=hc5.size
 have hx15:Ext w1 w5:=Ext.chgI (hx2.trans (hx3.trans hx4)) hc5 (by omega)
 replace o8:=o8.chg hc5 (by omega)
 replace o11:=o11.chg hc5 (by omega)
 have hB25:=((hB2.ext hx3).ext hx4).chgI hc5 (by omega)
 refine zaB s.stacks.length (fun k us w'=>us=[.int .i64 (k:Int)]∧w5.heap.size≤w'.heap.size∧Ext w1 w'∧OwnI (T 3).1 (T 3).2 w' v8 s.vars∧OwnI (T 7).1 (T 7).2 w' v11 s.owner ∧
   (∃ v1 hi,∃ l:List RInts,hi≤w'.heap.size∧w5.heap.size≤hi∧l.map RV.l=s.stacks.take k∧Blk g 46 w' [v8,v11,v1]∧RowI w5.heap.size hi 33 w' v1 l)∧Blk w1.heap.size 46 w' [.slice none 0 0,.slice none 0 0,.slice none 0 0]) 0 (Nat.zero_le _)
   ⟨rfl,Nat.le_refl _,hx15,o8,o11,⟨.slice none 0 0,w5.heap.size,[],Nat.le_refl _,Nat.le_refl _,by simp,hB5,zbE _ _ _ _⟩,hB25⟩ ?_
 rintro k m uu w7 hkm ⟨hu,hs7,hx7,o8,o11,⟨v1,hi,l,hhi,hhi2,hl,hB7,r7⟩,hB27⟩
 simp only [List.map_cons,List.map_nil,List.cons.injEq,and_true] at hu
 rw [hu]
 have hll:l.length=k:=by have:=congrArg List.length hl;simp at this;omega
 refine zaa za6 ?_
 refine zab zes (zaN hA) hx7 fun v16 h16=>?_
 refine zae u44 h16 ?_
 refine zai ?_
 refine br (fun hlt=>?_) (fun hge=>?_)
 · have hk:k<s.stacks.length:=by omega
   have hx8:=zak w7
   have hs8:=hx8.size
   refine zaa za6 ?_
   refine zaA zes (hB7.ext hx8) rfl ?_
   refine zaa za6 ?_
   refine zab zes (zaN hA) (hx7.trans hx8) fun v14 h14=>?_
   refine zad u44 za1 h14 hk fun b o hA2=>?_
   refine zab za1 hA2 (hx7.trans hx8) fun v19 h19=>?_
   have hlk:=hz4 _ (List.getElem_mem hk)
   refine zbW (α:=Int) u33 ty3 fun a23 w8' hx8' _=>?_
   refine ⟨hx8',?_⟩
   have hs8':=hx8'.size
   refine zez (α:=Int) u33 ty3 zc3 h19 (hx7.trans (hx8.trans hx8')) (by rw [zam];omega) (by omega) fun r23 w9 hx9' r9'=>?_
   have hs9':=hx9'.size
   refine ⟨hx9',?_⟩
   have hx9:=hx8'.trans hx9'
   have hs9:=hx9.size
   have r9:=r9'.mono hs8' (Nat.le_refl _)
   refine zkn (α:=RInts) u44 za1 z33 zu8 (by decide) ((r7.ext hx8).ext hx9) (by omega) (zhk r9) (by omega) (by omega) (by rw [zam];omega) (by omega) fun v25 w10 hc10 r10=>?_
   have hs10:=hc10.size
   have hx79:=hx8.trans hx9
   refine zaa za6 ?_
   refine zb0 (α:=List RInts) zes rfl rfl ((hB7.ext hx79).chgI hc10 (by omega)) (by simp) r10.own fun w11 hc11 hB11=>?_
   have hs11:=hc11.size
   refine zag (by omega) ?_
   refine ⟨m-1,by omega,k+1,by omega,rfl,by omega,Ext.chgI (Ext.chgI (hx7.trans hx79) hc10 (by omega)) hc11 (by omega),((o8.ext hx79).chg hc10 (by omega)).chg hc11 (by omega),((o11.ext hx79).chg hc10 (by omega)).chg hc11 (by omega),⟨v25,w10.heap.size,_,by omega,by omega,?_,hB11,r10.chg hc11 (by omega)⟩,((hB27.ext hx79).chgI hc10 (by omega)).chgI hc11 (by omega)⟩
   rw [List.map_append,hl,List.take_succ_eq_append_getElem hk];rfl
 have hk:k=s.stacks.length:=by omega
 refine ziI hB7 zck ?_
 have ost:OwnI w2.heap.size w7.heap.size w7 (.agg #[v8,v11,v1]) (⟨s.vars,s.owner,⟨v1,l⟩⟩:DStV):=
   zoi (s:=⟨s.vars,s.owner,⟨v1,l⟩⟩) o8 o11 (zhk r7) (by omega) (by omega) (by omega) (by omega) (by omega) (by omega)
 refine zbR zck rfl hB27 rfl ost fun w13 hc13 hB13=>?_
 have hs13:=hc13.size
 refine zep hB13 zck ?_
 refine ⟨Ext.chgI (hx1.trans hx7) hc13 (by omega),_,(ost.chg hc13 (by omega)).mono (by omega) (by omega),?_⟩
 show (⟨s.vars,s.owner,l.map RV.l⟩:DState)=s
 rw [hl,hk,List.take_length]
end Go.Proofs.YtcnglfeoglgebaaGreat
namespace Go.Sh
open Rep (rep)
structure Raw where
 v:Value
instance:Rep Raw where
 size:=1
 agg:=false
 rep F _ cs x:=F=[]∧cs=[x.v]∧x.v.oneCell'=true
 pos:=by decide
 sz _:=rfl
 len:=by rintro _ _ _ _ ⟨_,rfl,_⟩;rfl
 one:=by rintro _ _ _ _ ⟨_,rfl,h⟩ v hv;simp at hv;subst hv;exact h
 keep:=by rintro _ _ _ _ _ h _;exact h
 lt:=by rintro _ _ _ _ ⟨rfl,_⟩ b hb;cases hb
section
variable {P:Program} {w w0 w' w1:World} {α β γ:Type} [Rep α] [Rep β] {e lo hi:Nat} {v:Value} {F G S:List Nat} {b o g:Nat}
theorem ChgAt.ext_left {n:Nat} (hx:Ext w w1) (h:ChgAt b o n G w1 w'):ChgAt b o n G w w':=
 ⟨(hx.chg _).trans h.chg,fun c e hc=>h.cell c e (by rw [hx.heap (Array.getElem?_eq_some_iff.1 hc).1];exact hc)⟩
theorem OAt.ext {x:α} (h:OAt G w b o x) (hx:Ext w w1):OAt G w1 b o x:=h.keep fun c hc=>hx.heap (h.lts c hc)
theorem Lens.ext {H:List Nat→World→γ→Prop} {y:β} {upd:β→γ} (h:Lens H S w b o G y upd) (hx:Ext w w1):Lens H S w1 b o G y upd:=
 ⟨h.here.ext hx,h.sub,fun w' G' y' hch hO hs=>h.back w' G' y' (hch.ext_left hx) hO hs⟩
theorem za2 {ft by_:Nat} {u:Value} {K:Value→Prop} (hft:tyI P ft=some (1,by_,false)) (hr:w.rangeAt b o [u]) (k:K u):RD P (Instr.loadAt ft (.pointer (some ⟨b,o,none⟩))) w K:=by
 refine zaQ (fun w' hx'=>?_) k
 have h0:w'.cell? ⟨b,o,none⟩=some u:=by simpa using (za7 hr hx') 0 u rfl
 have hA:=zcl hft w'
 simp [Instr.loadAt,Instr.sureAddr,loadVar,hA,h0]
theorem zia {t by_:Nat} {u old:Value} {K:World→Prop} (ht:tyI P t=some (1,by_,false)) (hw:∃ c e,w.heap[b]?=some (.cells c e (0,0))) (hr:w.rangeAt b o [old]) (ho:old.oneCell'=true) (hu:u.oneCell'=true)
   (k:∀ w',ChgAt b o 1 [] w w'→w'.rangeAt b o [u]→K w'):OPU P (Instr.storeAt t (.pointer (some ⟨b,o,none⟩)) u) w K:=by
 refine zit (β:=Raw) (G:=[]) (y:=⟨old⟩) (y':=⟨u⟩) (G':=[]) ht ⟨[old],⟨rfl,rfl,ho⟩,hr,List.nodup_nil,Wr.nil w,by simp,hw⟩ ⟨[u],⟨rfl,rfl,hu⟩,rfl⟩ List.nodup_nil (Wr.nil w) (by simp) fun w' hc hO=>k w' hc ?_
 obtain ⟨cs,⟨_,rfl,_⟩,hr',_⟩:=hO
 exact hr'
theorem zfF {t by_:Nat} {y y':β} {upd:β→α} {u:Value} {K:World→Prop} (ht:tyI P t=some (Rep.size β,by_,Rep.agg β)) (hL:Lens (VH g) (g :: F) w b o G y upd) (hF:∀ b∈F,lo≤b∧b<hi) (hg:lo≤g∧g<hi) (hu:Mine [] w u y')
   (k:∀ w',ChgI lo hi w w'→VarI lo hi w' g (upd y')→K w'):OPU P (Instr.storeAt t (.pointer (some ⟨b,o,none⟩)) u) w K:=by
 refine zfB ht hL hu (by simp) fun w' hc ⟨F',h1,h2⟩=>k w' (hc.toI fun c hcm=>?_) ⟨F',h1,fun c hcm=>?_⟩
 · rcases List.mem_cons.1 hcm with rfl | hcm
   · exact hg
   exact hF c hcm
 rcases h2 c hcm with h | h
 · rcases List.mem_cons.1 h with rfl | h
   · obtain ⟨_,_,_,_,_,hn,_⟩:=h1;exact absurd hcm hn
   exact hF c h
 simp at h
theorem VarI.mono {lo' hi':Nat} {x:α} (h:VarI lo hi w g x) (h1:lo'≤lo) (h2:hi≤hi'):VarI lo' hi' w g x:=by
 obtain ⟨F,h,hF⟩:=h;exact ⟨F,h,fun b hb=>by have:=hF b hb;omega⟩
theorem zoj:∀ {l:List (RV α e)} {F:List Nat} {xs:List Value},Cells F w xs l→Cells F w xs (l.map RV.l)
 | [],_,_,h=>h
 | x :: l,_,_,⟨F1,F2,c1,c2,hF,h,⟨hc,h1⟩,h2⟩=>by
   obtain ⟨cs,hr,hv⟩:=h1.own
   have:cs=[x.v]:=by
     obtain ⟨a,cap,Fi,xs,rfl,_⟩:=hr
     rw [hv];rfl
   subst this
   exact ⟨F1,F2,c1,c2,hF,h,by rw [hc];exact hr,zoj h2⟩
theorem zve {e2:TypeId} {cs:List Value} {x:RV (RV α e) e2} (h:rep F w cs x):rep F w cs (x.l.map RV.l):=by
 obtain ⟨rfl,h⟩:=h
 obtain ⟨cs,⟨a,cap,Fi,xs,rfl,h1,h2,hc,h4⟩,hv⟩:=h.own
 have hvv:x.v=.slice a x.l.length cap:=hv
 rw [hvv]
 refine ⟨a,cap,Fi,xs,by simp,by simpa using h1,h2,zoj hc,?_⟩
 rcases h4 with ⟨h4,h5⟩ | h4
 · exact .inl ⟨by simp [h4],h5⟩
 exact .inr h4
theorem zdK {t ty:TypeId} {by_:Nat} {u:Value} {x:β} {l:List β} {GX:List Nat} {K:World→Value→World→Prop} {C:Value→World→Prop} (ht:P.underlying t=some (.slice e)) (he:tyI P e=some (Rep.size β,by_,Rep.agg β)) (hz:zbw P e=true)
   (hzc:(P.info? e).map (fun i=>(i.zero.map (·.cells.size)))=some (some (Rep.size β))) (hsz:Rep.size β≤1000) (hv:RowG G e w v l) (hn:G.Nodup) (hx:Mine GX w u x) (hd:∀ c∈GX,c∉G) (hm:l.length+1≤maxLen) (hb:(l.length+1)*by_≤140737488355328)
   (k:∀ w1 v' w' G',Ext w w1→Chg G w1 w'→RowG G' e w' v' (l++[x])→G'.Nodup→(∀ c∈G',c∈G∨c∈GX∨w.heap.size≤c)→K w1 v' w')
   (hC:∀ s w1,Ext w w1→OP P (Builtin.append_ #[t,t] ty [v,s].toArray) w1 (K w1)→C s w1):OP P (Instr.buildSlice t 1 #[(0,u)]) w C:=by
 refine zgD ht he hz hsz hx fun w1 hx1 hm1=>?_
 obtain ⟨⟨cs,⟨a,cap,Fi,xs,rfl,h1,h2,hc,h4⟩,hveq⟩,hn1,hw1⟩:=hm1
 simp only [mkv,Rep.agg,cond_false,List.headD_cons,Value.slice.injEq,List.length_cons,List.length_nil] at hveq
 obtain ⟨rfl,_,rfl⟩:=hveq
 rcases h4 with ⟨h4,_⟩ | ⟨b,o,hab,hFe,hra,hbl⟩
 · simp at h4
 simp only [List.cons.injEq] at hFe
 obtain ⟨_,rfl⟩:=hFe
 refine hC _ w1 hx1 ?_
 have key:∀ (v:Value) (F:List Nat),RowF F e w v l→F.Nodup→(∀ c∈F,c∈G)→OP P (Builtin.append_ #[t,t] ty [v,.slice (some ⟨w.heap.size,0,none⟩) 1 1].toArray) w1 (K w1):=by
   intro v F hF hFn hFG
   have hF1:=hF.ext hx1
   have hdd:(GX++F).Nodup:=by
     rw [List.nodup_append]
     exact ⟨hx.nodup,hFn,fun p hp q hq e=>hd p hp (hFG _ (e▸hq))⟩
   refine zev (m:=[x]) ht he hzc hF1 hFn rfl hc (.inr ⟨b,o,hab,hra⟩) (hw1.sub (by simp +contextual)) hdd (by simpa using hm) (by simpa using hb) fun v' w' F' hch hfull hr' hn' hs'=>?_
   have hown:∀ c∈v.ownBlock.toList,c∈G:=fun c hc=>by
     obtain ⟨xs,Fi,_,_,rfl,_⟩:=hF
     exact hFG c (by simp only [List.mem_append];exact .inl hc)
   refine k w1 v' w' F' hx1 (hch.mono hown) (.inr hr') hn' fun c hc=>?_
   rcases hs' c hc with h | h | h
   · exact .inl (hFG c h)
   · exact .inr (.inl h)
   exact .inr (.inr (Nat.le_trans hx1.size h))
 rcases hv with ⟨a0,rfl,rfl,rfl⟩ | hF
 · have kn:=key (.slice none 0 0) [] (zgC e w) List.nodup_nil (by simp)
   cases a0 with
   | none=>exact kn
   | some x0=>
     simp only [Option.some.injEq,Addr.mk.injEq] at hab
     obtain ⟨rfl,rfl,_⟩:=hab
     exact zh4 (zeT (α:=β) (n:=1) ht he hzc (by simpa using Cells.len hc) hra (by omega) (by rw [zam];omega) (by simpa using hb)) kn
 exact key v G hF hn (fun _ h=>h)
theorem zfG {t by_:Nat} {x:RV β e} {upd:RV β e→α} {w2:World} {v':Value} {l':List β} {G':List Nat} {K:World→Prop} (ht:tyI P t=some (1,by_,false)) (hL:Lens (VH g) (g :: F) w b o G x upd) (hlt:∀ c∈g :: F,c<w.heap.size) (hc:Chg G w w2)
   (hR:RowG G' e w2 v' l') (hN:G'.Nodup) (hs:∀ c∈G',c∈G∨w.heap.size≤c)
   (k:∀ w3,Chg (b :: G) w w3→(∃ F',OAt F' w3 g 0 (upd ⟨v',l'⟩)∧∀ c∈F',c∈g :: F∨w.heap.size≤c)→K w3):OPU P (Instr.storeAt t (.pointer (some ⟨b,o,none⟩)) v') w2 K:=by
 obtain ⟨cs,⟨rfl,hrow⟩,hr,hn,hw,hb,hwb⟩:=hL.here
 have hbl:b<w.heap.size:=hlt b (hL.sub b (by simp))
 have hbk:w2.heap[b]?=w.heap[b]?:=hc.block b hbl hb
 have hwb2:∃ c e,w2.heap[b]?=some (.cells c e (0,0)):=by obtain ⟨c,e,h⟩:=hwb;exact ⟨c,e,by rw [hbk];exact h⟩
 have hbG':b∉G':=fun hm=>by
   rcases hs b hm with h | h
   · exact hb h
   omega
 refine zia ht hwb2 (zaK hr hbk) hrow.one hR.one fun w3 hc3 hr3=>?_
 have hcat:ChgAt b o 1 G w w3:=by
   refine ⟨(hc.mono (by simp +contextual)).trans (hc3.chg.mono (by simp +contextual)),fun c e hcc=>?_⟩
   obtain ⟨c',h1,h2⟩:=hc3.cell c e (by rw [hbk];exact hcc)
   exact ⟨c',h1,h2⟩
 have hkeep:∀ c∈G',w3.heap[c]?=w2.heap[c]?:=fun c hcm=>hc3.chg.block c (hR.lt c hcm) (by simp;exact fun e=>hbG' (e▸hcm))
 obtain ⟨c',e',hc'⟩:=hwb2
 obtain ⟨c'',hc'',_⟩:=hc3.cell c' e' hc'
 obtain ⟨F',h1,h2⟩:=hL.back w3 G' ⟨v',l'⟩ hcat ⟨[v'],⟨rfl,hR.keep hkeep⟩,hr3,hN,(hR.keep hkeep).wr,hbG',c'',e',hc''⟩ fun c hcm=>by
   rcases hs c hcm with h | h
   · exact .inl h
   exact .inr fun hm=>by have:=hlt c hm;omega
 refine k w3 hcat.chg ⟨F',h1,fun c hcm=>?_⟩
 rcases h2 c hcm with h | h
 · exact .inl h
 rcases hs c h with h | h
 · exact .inl (hL.sub c (by simp [h]))
 exact .inr h
theorem zcL {t:TypeId} {by_:Nat} {u:Value} {x:β} {K:Value→World→Prop} (ht:P.underlying t=some (.slice e)) (he:tyI P e=some (Rep.size β,by_,Rep.agg β)) (hz:zbw P e=true) (hsz:Rep.size β≤1000) (hx:Mine [] w u x)
   (k:∀ v w',Ext w w'→RowI w.heap.size w'.heap.size e w' v [x]→K v w'):OP P (Instr.buildSlice t 1 #[(0,u)]) w K:=by
 obtain ⟨⟨cs,hr,rfl⟩,hn,hw⟩:=hx
 have hcl:=zdV hr
 have hlen:=Rep.len hr
 have hvs:(mkv β cs).cells.size=Rep.size β:=by rw [←Array.length_toList,hcl,hlen]
 obtain ⟨i,d,hi,hd,hs,hby,hg⟩:=zbZ he
 unfold zbw at hz
 rw [hi] at hz
 obtain ⟨z,hz⟩:=Option.isSome_iff_exists.1 hz
 have hpos:=Rep.pos (α:=β)
 refine ⟨_,w.alloc (.cells (mkv β cs).cells e),?_,k (.slice (some ⟨w.heap.size,0,none⟩) 1 1) _ (zaI w _) (.inr ⟨[w.heap.size],⟨cs,[],⟨by simp [hlen],.inr ⟨w.heap.size,1,(mkv β cs).cells,rfl,Nat.zero_le _,heap_alloc_new w _,Nat.le_refl _,by rw [zam];omega,by rw [hvs,Nat.one_mul],?_⟩⟩,Cells.single (zbO hr (zaI w _)),rfl,Wr.nil _⟩,by simp,?_⟩)⟩
 · have hne:¬Rep.size β=0:=by omega
   have h24:¬2^24<Rep.size β:=by omega
   simp only [Instr.buildSlice,Sem.run_bind,run_underlying ht,Result.andThen_ok,zaw he,Nat.one_mul]
   simp [h24,hne,zeroValue,typeInfo,hi,hz,zn9 _ _ _ hvs,newRow]
 · rw [hcl,List.length_singleton,Nat.one_mul,List.take_of_length_le (by omega)]
 intro b hb
 simp only [List.mem_cons,List.not_mem_nil,or_false] at hb
 subst hb
 exact ⟨Nat.le_refl _,(Array.getElem?_eq_some_iff.1 (heap_alloc_new w _)).1⟩
theorem Ext.toX {X:Nat→Prop} (h:Ext w w'):ExtX X w w':=⟨h.os,h.tape,h.output,h.size,fun b hb _=>h.block b hb⟩
theorem Chg.toX {X:Nat→Prop} (h:Chg G w w') (hX:∀ c∈G,X c):ExtX X w w':=⟨h.os,h.tape,h.output,h.size,fun b hb hn=>h.block b hb fun hm=>hn (hX b hm)⟩
theorem zcX {X:Nat→Prop} {m:Sem Value} {K:Value→Prop} (hX:∀ b,X b→w0.heap.size≤b) (hx:Ext w0 w) (h:RD P m w0 K):RDX P X m w K:=by
 obtain ⟨v,h1,h2⟩:=h
 exact ⟨v,fun w' hw=>h1 w' ⟨hw.os.trans hx.os,hw.tape.trans hx.tape,hw.output.trans hx.output,Nat.le_trans hx.size hw.size,fun b hb=>(hw.block b (Nat.lt_of_lt_of_le hb hx.size) fun hXb=>by have:=hX b hXb;omega).trans (hx.block b hb)⟩,h2⟩
theorem zb1 {X:Nat→Prop} {t i off:Nat} {K:Value→Prop} (hf:zdz P t i=some off) (k:K (.pointer (some ⟨b,o+off,none⟩))):RDX P X (Instr.fieldAt t (.pointer (some ⟨b,o,none⟩)) i) w K:=by
 obtain ⟨v,h1,h2⟩:=zaa (P:=P) (w:=w) (K:=fun v=>∀ w':World,(Instr.fieldAt t (.pointer (some ⟨b,o,none⟩)) i).run P w'=.ok v w'∧v=.pointer (some ⟨b,o+off,none⟩)) hf (fun w'=>by
   obtain ⟨v,h1,h2⟩:=zaa (P:=P) (w:=w') (b:=b) (o:=o) (K:=fun v=>v=.pointer (some ⟨b,o+off,none⟩)) hf rfl
   subst h2
   exact ⟨h1 w' (Ext.refl w'),rfl⟩)
 refine ⟨v,fun w' _=>(h2 w').1,?_⟩
 rw [(h2 w).2];exact k
theorem zcg {X:Nat→Prop} {ft by_:Nat} {u:Value} {K:Value→Prop} (hft:tyI P ft=some (1,by_,false)) (hr:w.rangeAt b o [u]) (hX:¬X b) (k:K u):RDX P X (Instr.loadAt ft (.pointer (some ⟨b,o,none⟩))) w K:=by
 refine ⟨u,fun w' hx'=>?_,k⟩
 have hb:=zfA hr (by simp)
 have h0:w'.cell? ⟨b,o,none⟩=some u:=by simpa using (zaK hr (hx'.block b hb hX)) 0 u rfl
 have hA:=zcl hft w'
 simp [Instr.loadAt,Instr.sureAddr,loadVar,hA,h0]
theorem zqA {x:Int} (h:At w b o x):w.rangeAt b o [.int .i64 x]:=by
 obtain ⟨F,cs,⟨_,rfl,_⟩,hr⟩:=h
 exact hr
end
end Go.Sh
