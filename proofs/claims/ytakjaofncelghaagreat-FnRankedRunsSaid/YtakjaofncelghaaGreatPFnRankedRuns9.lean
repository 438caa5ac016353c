/-
  The law FnRankedRuns of the given program returns true for every input, and its arguments read afterwards as before: the given statement Rows.FnRankedRunsSaid.
-/
import Derived.Test.YtakjaofncelghaaGreatPFnRankedRuns8
set_option linter.unusedVariables false
set_option linter.unusedSimpArgs false
set_option linter.unusedSectionVars false
namespace Go.Proofs.YtakjaofncelghaaGreat
open Go Go.Sh Go.Proofs
open Rep (rep)
def F56 (a0 a1 a2:Value) (w:World) (R:VW):Prop:=
 oX 28 a0 w λx3 w=>
 oX 36 a1 w λx4 w=>
 oP (aL 36) w λx6 w=>
 rL 36 x4 w λx12=>
 cL 55 [x12] w λx13 w=>
 oP (aL 36) w λx7 w=>
 oS 36 x7 x13 w λw=>
 rF 36 x7 2 w λx14=>
 rL 33 x14 w λx15=>
 rX 33 x15 a2 w λx17=>
 rL 25 x17 w λx18=>
 rN 25 3 x18 w λx19=>
 rB .sub 3 T0 U0 x19 (iV 1) w λx20=>
 rF 36 x7 2 w λx21=>
 rL 33 x21 w λx22=>
 rX 33 x22 a2 w λx24=>
 rL 25 x24 w λx25=>
 rX 25 x25 x20 w λx27=>
 rL 3 x27 w λx28=>
 rF 28 x3 4 w λx29=>
 rL 26 x29 w λx30=>
 rX 26 x30 x28 w λx32=>
 rL 118 x32 w λx33=>
 oP (aL 118) w λx10 w=>
 oS 118 x10 x33 w λw=>
 rI x28 w λx35=>
 JOIN [11] (λJ30=>
 rF 118 x10 0 w λx36=>
 rL 3 x36 w λx37=>
 rQ x37 (iV 1) w λx39=>
 BR x39
 ((λw=>rF 36 x7 0 w λx40=>
 rL 25 x40 w λx41=>
 rF 118 x10 1 w λx42=>
 rL 3 x42 w λx43=>
 rF 118 x10 2 w λx44=>
 rL 116 x44 w λx45=>
 rF 28 x3 0 w λx46=>
 rL 24 x46 w λx47=>
 rF 36 x4 0 w λx48=>
 rL 25 x48 w λx49=>
 (λw_=>cL 98 [x45,x47,x49] w_ λx50 w=>
 Ext w_ w ∧
 rX 25 x41 x43 w λx51=>
 oS 3 x51 x50 w λw=>
 J30 [x35] w) w) (World.drew1 w))
 (rQ x37 (iV 2) w λx53=>
 BR x53
 (rF 118 x10 2 w λx54=>
 rL 116 x54 w λx55=>
 rF 28 x3 0 w λx56=>
 rL 24 x56 w λx57=>
 rF 36 x4 0 w λx58=>
 rL 25 x58 w λx59=>
 cL 98 [x55,x57,x59] w λx60 w=>
 rQ x60 (iV 0) w λx61=>
 BR x61
 (rF 118 x10 3 w λx62=>
 rL 3 x62 w λx63=>
 J30 [x63] w)
 (J30 [x35] w))
 (rQ x37 (iV 3) w λx65=>
 BR x65
 (rF 118 x10 3 w λx66=>
 rL 3 x66 w λx67=>
 J30 [x67] w)
 (rQ x37 (iV 4) w λx69=>
 BR x69
 ((λw=>XR λX=>RDX tp X (Instr.fieldAt 36 x7 2) w λx70=>
 RDX tp X (Instr.loadAt 33 x70) w λx71=>
 RDX tp X (Instr.fieldAt 36 x7 2) w λx73=>
 RDX tp X (Instr.loadAt 33 x73) w λx74=>
 RDX tp X (Instr.indexAt 33 x74 a2) w λx76=>
 RDX tp X (Instr.loadAt 25 x76) w λx77=>
 RDX tp X (Instr.fieldAt 28 x3 3) w λx78=>
 RDX tp X (Instr.loadAt 25 x78) w λx79=>
 RDX tp X (Instr.fieldAt 118 x10 1) w λx80=>
 RDX tp X (Instr.loadAt 3 x80) w λx81=>
 RDX tp X (Instr.indexAt 25 x79 x81) w λx82=>
 RDX tp X (Instr.loadAt 3 x82) w λx83=>
 (λw_=>oP (bS 25 x83) w_ λx84 w=>
 ExtX X w_ w ∧
 ((λw_=>oP (aP 25 x77 x84) w_ λx85 w=>
 ExtX X w_ w ∧
 (RDX tp X (Instr.indexAt 33 x71 a2) w λx86=>
 oS 25 x86 x85 w λw=>
 rL 36 x7 w λx87=>
 oS 36 x6 x87 w λw=>
 rD (zaJ 36 x6) w λr6=>R r6 w)) w)) w) (World.drew1 w))
 (rQ x37 (iV 5) w λx89=>
 BR x89
 (rF 36 x7 2 w λx90=>
 rL 33 x90 w λx91=>
 rN 33 3 x91 w λx92=>
 rB .lss 3 T0 U0 x92 (iV 6) w λx93=>
 BR x93
 ((λw=>rF 36 x7 2 w λx94=>
 rL 33 x94 w λx95=>
 rF 28 x3 3 w λx96=>
 rL 25 x96 w λx97=>
 rF 118 x10 1 w λx98=>
 rL 3 x98 w λx99=>
 rX 25 x97 x99 w λx100=>
 rL 3 x100 w λx101=>
 (λw_=>oP (bS 25 x101) w_ λx102 w=>
 Ext w_ w ∧
 ((λw_=>oP (bS 33 x102) w_ λx103 w=>
 Ext w_ w ∧
 (oP (aP 33 x95 x103) w λx104 w=>
 rF 36 x7 2 w λx105=>
 oS 33 x105 x104 w λw=>
 J30 [x35] w)) w)) w) (World.drew1 w))
 (J30 [x35] w))
 (rQ x37 (iV 6) w λx107=>
 BR x107
 (rF 36 x7 1 w λx108=>
 rL 25 x108 w λx109=>
 rF 118 x10 1 w λx110=>
 rL 3 x110 w λx111=>
 rX 25 x109 x111 w λx113=>
 oS 3 x113 a2 w λw=>
 J30 [x35] w)
 (rQ x37 (iV 7) w λx115=>
 BR x115
 (rF 36 x7 1 w λx116=>
 rL 25 x116 w λx117=>
 rF 118 x10 1 w λx118=>
 rL 3 x118 w λx119=>
 rX 25 x117 x119 w λx120=>
 rL 3 x120 w λx121=>
 rB .eql 3 T0 T0 x121 a2 w λx123=>
 BR x123
 (rF 36 x7 1 w λx124=>
 rL 25 x124 w λx125=>
 rF 118 x10 1 w λx126=>
 rL 3 x126 w λx127=>
 rX 25 x125 x127 w λx128=>
 oS 3 x128 (iV (-1)) w λw=>
 J30 [x35] w)
 (J30 [x35] w))
 (rQ x37 (iV 9) w λx130=>
 BR x130
 ((λw=>rF 36 x7 2 w λx131=>
 rL 33 x131 w λx132=>
 rF 36 x7 2 w λx134=>
 rL 33 x134 w λx135=>
 rX 33 x135 a2 w λx137=>
 rL 25 x137 w λx138=>
 rD (Instr.sliceAt 25 x138 none (some x20) none) w λx140=>
 rX 33 x132 a2 w λx141=>
 oS 25 x141 x140 w λw=>
 rB .gtr 3 T0 U0 x20 (iV 0) w λx143=>
 BR x143
 (rF 36 x7 2 w λx144=>
 rL 33 x144 w λx145=>
 rX 33 x145 a2 w λx147=>
 rL 25 x147 w λx148=>
 rB .sub 3 T0 U0 x20 (iV 1) w λx150=>
 rX 25 x148 x150 w λx151=>
 rL 3 x151 w λx152=>
 rI x152 w λx153=>
 rX 25 x148 x150 w λx154=>
 oS 3 x154 x153 w λw=>
 rL 36 x7 w λx155=>
 oS 36 x6 x155 w λw=>
 rD (zaJ 36 x6) w λr6=>R r6 w)
 (rL 36 x7 w λx155=>
 oS 36 x6 x155 w λw=>
 rD (zaJ 36 x6) w λr6=>R r6 w)) (World.drew1 w))
 (J30 [x35] w))))))))) (λu30 w=>
 rF 36 x7 2 w λx156=>
 rL 33 x156 w λx157=>
 rX 33 x157 a2 w λx159=>
 rL 25 x159 w λx160=>
 rX 25 x160 x20 w λx163=>
 oS 3 x163 (u30 11) w λw=>
 rL 36 x7 w λx164=>
 oS 36 x6 x164 w λw=>
 rD (zaJ 36 x6) w λr6=>R r6 w)
def cfg56:Cfg:={ ext:=extL,joins:=[(30,91343852333181432387730302044767688659776309248,[11])],loops:=[],draws:=[(8,[0,1,2,3,4,5,6,7,8,9,10,11,12],1024),(15,[0,1,2,3,4,5,6,7,8,9,10,11,12,13,14,15,16,17],49152),(19,[0,1,2,3,4,5,6,7,8,9,10,11,12],768),(26,[0,1,2,3,4,5,6,7,8,9,10,11],0)],pars:=[],xs:=[15] }
theorem F56_call {a0 a1 a2 w R} (h:F56 a0 a1 a2 w R):cL 56 [a0,a1,a2] w R:=co (g:=cfg56) Tryz.func56 h
theorem zws {P:Program} {w:World} {t e:TypeId} {by_:Nat} {u:Value} {l:List Int} {G:List Nat} {k:Nat} {K:Value→Prop} (ht:P.underlying t=some (.slice e)) (he:tyI P e=some (1,by_,false)) (hm:Mine G w u l) (hk:k≤l.length) (hne:l≠[])
   (kk:∀ b a cap v G',u=.slice (some ⟨b,a,none⟩) l.length cap→Mine G' w v (l.take k)→(∀ c∈G',c∈G)→(0<k→v=.slice (some ⟨b,a,none⟩) k cap)→K v):RD P (Instr.sliceAt t u none (some (.int .i64 (k:Int))) none) w K:=by
 obtain ⟨⟨cs,⟨a,cap,Fi,xs,rfl,h1,h2,hc,h4⟩,rfl⟩,hn,hw⟩:=hm;rcases h4 with ⟨h4,_⟩ | ⟨b,o,rfl,rfl,hr,hb⟩
 · exact absurd h4 hne
 have hFi:=Cells.flat (xs:=xs) hc;subst hFi
 have hbd:∀ w',(Instr.sliceBounds true l.length cap none (some (.int .i64 (k:Int))) none).run P w'=.ok (0,k,cap) w':=λw'=>by
   have h5:(k:Int)≤(cap:Int):=by omega
   simp [Instr.sliceBounds,Instr.sliceBound,asIntOf,h5];intro h6;omega
 have e0:l=l.take k++l.drop k:=by simp
 have hc':=hc;rw [e0] at hc';obtain ⟨F1,F2,x1,x2,hFF,rfl,c1,c2⟩:=Cells.split hc';obtain ⟨rfl,rfl⟩:=List.append_eq_nil_iff.1 hFF.symm;have hlk:(l.take k).length=k:=by simp;omega
 have hval:∃ v:Value,(∀ w',(Instr.sliceAt t (.slice (some ⟨b,o,none⟩) l.length cap) none (some (.int .i64 (k:Int))) none).run P w'=.ok v w')∧v=.slice (some ⟨b,o,none⟩) k cap:=by
   refine ⟨_,λw'=>?_,rfl⟩;simp only [Instr.sliceAt,Instr.slice,Sem.run_bind,run_underlying ht,Result.andThen_ok,hbd,zaM he];simp [Addr.add_mid]
 obtain ⟨v,hrun,rfl⟩:=hval;refine za3 (λw' _=>hrun w') ?_;by_cases h0:k=0
 · subst h0
   refine kk b o cap _ [] rfl ?_ (by simp) (λh=>by omega);have:l.take 0=[]:=by simp
   rw [this];exact ⟨⟨_,⟨some ⟨b,o,none⟩,cap,[],[],rfl,z0 _,h2,⟨rfl,rfl⟩,.inl ⟨rfl,rfl⟩⟩,rfl⟩,List.nodup_nil,Wr.nil w⟩
 refine kk b o cap _ [b] rfl ?_ (by simp) (λ_=>rfl);refine ⟨⟨_,⟨some ⟨b,o,none⟩,cap,[],x1,rfl,by rw [hlk];omega,h2,c1,.inr ⟨b,o,rfl,rfl,(zaz hr).1,hb⟩⟩,by rw [hlk];rfl⟩,by simp,hw.sub (by simp)⟩
theorem zru {w W0 W1:World} {v0 v1:Value} {c:DCode} {s:DState} {t:Int} (h0:Is W0 v0 c) (e0:Ext W0 w) (h1:Is W1 v1 s) (e1:Ext W1 w) (hc:CodeR c) (hs:zaF c s) (hgo:GoR c s t) :
   CALL tp 56 [v0,v1,.int .i64 t] w λr w'=>Ext w w'∧Own w.heap.size w' r (zch c s t):=by
 obtain ⟨tn,rfl,htn,hne,hl8,hat⟩:=ziY hs hgo.1;have hatlt:=zlS hs tn;have hat0:0≤zcH s tn:=hgo.1;have hpos:=List.length_pos_iff.2 hne;refine F56_call ?_;unfold F56;refine zcb h0 e0 λw1 hx1 hA1=>?_;refine zcb h1 (e1.trans hx1) λw2 hx2 hA2=>?_;refine zbH ztL λw3 hx3 hB3=>?_;have hg3:=hB3.lt;have hs1:=hx1.size;have hs2:=hx2.size;refine zab zcT hA2 hx3 λv12 h12=>?_;refine (zkV h12 hx3 (zlU hc hs)).mono ?_;rintro r13 w4 ⟨hx4,z,o13,hz⟩;have hs4:=hx4.size;refine zfp (α:=DStV) ztL λw5 hx5 hv5=>?_;have hs5:=hx5.size;have hg5:=hv5.lt;refine zbf zcT hv5 (o13.ext hx5) (by omega) λw6 hc6 hv6=>?_;have hs6:=hc6.size;have hx36:Ext w3 w6:=Ext.chgI (hx4.t hx5) hc6 (by omega);have hzl:z.stacks.l.map RV.l=s.stacks:=congrArg DState.stacks hz;have hzn:tn<z.stacks.l.length:=by have:=congrArg List.length hzl;simp at this;omega
 refine zaa zaW ?_;refine zab (α:=RIntss) zd5 (zeu hv6.at) (Ext.refl w6) λv15 k15=>?_;obtain ⟨rfl,h15⟩:=zku k15;refine zad (α:=RInts) u33 zaK h15 hzn λb17 o17 hA17=>?_;refine zab (α:=RInts) zaK hA17 (Ext.refl w6) λv18 k18=>?_;obtain ⟨rfl,h18⟩:=zku k18;obtain ⟨x,hx⟩:∃ x,x=z.stacks.l[tn]:=⟨_,rfl⟩
 have hxl:x.l=stk s tn:=by
   have e1:(z.stacks.l.map RV.l)[tn]?=s.stacks[tn]?:=by rw [hzl]
   rw [List.getElem?_map,List.getElem?_eq_getElem hzn,List.getElem?_eq_getElem htn] at e1;have e2:=Option.some.inj e1;rw [hx,e2];exact zdK (t:=(tn:Int)) (by simpa using htn)
 rw [←hx] at h18 ⊢;refine zae u25 h18 ?_;refine za0 (by unfold I64;rw [hxl];omega) ?_;obtain ⟨top,htop⟩:∃ top:Nat,(x.l.length:Int)-1=top:=⟨x.l.length-1,by rw [hxl];omega⟩;have htl:top<x.l.length:=by omega
 rw [htop];have hx7:=Ext.refl w6;have hs7:=hx7.size;have hx16:Ext w1 w6:=hx2.t (hx3.t hx36);have hx26:Ext w2 w6:=hx3.t hx36;refine zaa zaW ?_;refine ziT zd5 (zeu hv6.at) (Ext.refl w6) ?_;refine zad (α:=RInts) u33 zaK h15 hzn λb24 o24 hA24=>?_;rw [←hx] at hA24;refine ziT zaK hA24 (Ext.refl w6) ?_;refine zad u25 ty3 h18 htl λb26 o26 hA26=>?_
 have hget:x.l[top]=zcH s tn:=by
   rw [zeJ,hat,hxl];congr 1;rw [hxl] at htop;omega
 rw [hget] at hA26;refine zac ty3 hA26 hx7 λhI27=>?_;refine zaa zaR ?_;refine zab zdn (zal hA1) hx16 λv23 h23=>?_;refine zax u26 zbm h23 hgo.1 (by omega) λb28 o28 hA28=>?_;rw [zaE] at hA28;refine zab zbm hA28 hx16 λv29 h29=>?_;refine zcX zhM rfl zbm rfl h29 hx16 λw8 hx8 hA10 hV10=>?_;have hs8:=hx8.size;have hins:=hc.f.ins;refine zcG (by unfold I64;omega) ?_;have hR:=zhm hc hs hgo.1;obtain ⟨I,hI⟩:∃ I,I=atI c s tn:=⟨_,rfl⟩;have hA10:At w8 w6.heap.size 0 I:=by rw [hI];exact hA10
 have hx68:=hx7.t hx8;have hv8:VarI w3.heap.size w8.heap.size w8 w4.heap.size z:=(hv6.ext hx68).mono (lr _) (by omega);have hx38:Ext w3 w8:=hx36.t hx68
 have hres:∀ (zz:DState) (w9:World),Ext w3 w9→VarI w3.heap.size w9.heap.size w9 w4.heap.size zz→zz=zch c s tn →
     RD tp (Instr.loadAt 36 (.pointer (some ⟨w4.heap.size,0,none⟩))) w9 λx148=>OPU tp (Instr.storeAt 36 (.pointer (some ⟨w2.heap.size,0,none⟩)) x148) w9 λw'=>
       RD tp (zaJ 36 (.pointer (some ⟨w2.heap.size,0,none⟩))) w' λr6=>Ext w w'∧Own w.heap.size w' r6 (zch c s tn):=by
   intro zz w9 hx9 hv9 he;have hs9:=hx9.size;refine zdm zcT hv9 (Ext.refl w9) λv148 o148=>?_;obtain ⟨a,b,c',rfl⟩:=zxe o148;refine zbU (α:=DState) zcT rfl (hB3.ext hx9) rfl o148 λw10 hc10 hB10=>?_;refine zer hB10 zcT ?_;refine ⟨Ext.chgI (hx1.t (hx2.t (hx3.t hx9))) hc10 (by omega),?_⟩;have:=o148.chg hc10 (by omega);rw [he] at this;exact this.own.mono (by omega)
 refine JOIN.mk (λus w'=>us=[.int .i64 (zcx c s tn)]∧Ext w3 w'∧∃ z':DStV,VarI w3.heap.size w'.heap.size w' w4.heap.size z'∧z'.vars=(zaN c s tn).vars∧z'.owner=(zaN c s tn).owner∧z'.stacks.l.map RV.l=(zaN c s tn).stacks∧z'.stacks.l[tn]?=some x∧(I.op≠4∧I.op≠9)) ?_ ?_
 · refine zaa za6 ?_
   refine zac ty3 (zaA hA10) (Ext.refl w8) λ_=>?_;have hzv:z.vars=s.vars:=congrArg DState.vars hz;have hzo:z.owner=s.owner:=congrArg DState.owner hz;have hzx:z.stacks.l[tn]?=some x:=by rw [List.getElem?_eq_getElem hzn,hx]
   have same:∀ w9,Ext w8 w9→(I.op≠1∧I.op≠4∧I.op≠5∧I.op≠6∧I.op≠7∧I.op≠9)→∃ z':DStV,VarI w3.heap.size w9.heap.size w9 w4.heap.size z'∧z'.vars=(zaN c s tn).vars∧z'.owner=(zaN c s tn).owner∧z'.stacks.l.map RV.l=(zaN c s tn).stacks∧z'.stacks.l[tn]?=some x∧(I.op≠4∧I.op≠9):=by
     rintro w9 hx9 ⟨q1,q4,q5,q6,q7,q9⟩;have he:zaN c s tn=s:=by unfold zaN;rw [←hI,if_neg q1,if_neg q5,if_neg q6,if_neg q7]
     rw [he];exact ⟨z,(hv8.ext hx9).mono (lr _) hx9.size,hzv,hzo,hzl,hzx,q4,q9⟩
   have hnext:I.op≠2→I.op≠3→zcx c s tn=zcH s tn+1:=λq2 q3=>by unfold zcx;rw [←hI,if_neg q2,if_neg q3]
   refine zag ?_;refine br (λq1=>?_) (λq1=>?_)
   · have hx9:=zai w8
     have hs9:=hx9.size;have hg8:=hv8.lt;obtain ⟨har0,har1⟩:=zsN hc hs hat0 (hI▸q1);rw [←hI] at har0 har1;obtain ⟨ar,har⟩:∃ ar:Nat,I.arg=ar:=⟨I.arg.toNat,by omega⟩;have har2:ar<z.vars.length:=by rw [hzv];omega
     obtain ⟨u,b,a,cap,hr,hIs,hu,hst⟩:=zpX (hv8.ext hx9) (by omega) har2;refine zaa zel ?_;refine zca zaK hr ?_;refine zaa zaZ ?_;refine zac ty3 (zaw hA10) hx9 λ_=>?_;refine zaa zdo ?_;refine zab za4 (zb3 hA10) hx9 λv54 h54=>?_;refine zaa zdR ?_;refine zab zc0 (zbe hA1) (hx16.t (hx68.t hx9)) λv56 h56=>?_;refine zaa zel ?_;refine zab zaK (zbt hA2) (hx26.t (hx68.t hx9)) λv58 h58=>?_
     have hok:zaU 6 I.term=true:=by
       have:=hR.2.2.1;rw [←hI,if_pos (.inl q1)] at this;exact this.1
     refine (zhp h54 hx9 h56 (hx16.t (hx68.t hx9)) h58 (hx26.t (hx68.t hx9)) hok).mono ?_;rintro _ w10 ⟨hx10,rfl⟩;refine ⟨hx10,?_⟩;have hs10:=hx10.size;rw [har];refine zcD u25 ty3 hu har2 ?_;have hwr:=zdb c.globals s.vars 6 I.term;refine hst w10 hx10 _ (by unfold I64;omega) _ λw11 hc11 hv11=>?_;have hs11:=hc11.size;have hrest:zaN c s tn=⟨s.vars.set I.arg.toNat (workT c.globals s.vars 6 I.term),s.owner,s.stacks⟩:=by unfold zaN;rw [←hI,if_pos q1]
     refine ⟨by rw [hnext (by omega) (by omega)],Ext.chgI ((hx38.t hx9).trans hx10) hc11 (by omega),_,hv11.mono (lr _) (by omega),?_,?_,?_,hzx,by omega,by omega⟩
     · rw [hrest,hzv,har];rfl
     · rw [hrest];exact hzo
     rw [hrest];exact hzl
   refine zag ?_;refine br (λq2=>?_) (λq2=>?_)
   · refine zaa zdo ?_
     refine zab za4 (zb3 hA10) (Ext.refl w8) λv54 h54=>?_;refine zaa zdR ?_;refine zab zc0 (zbe hA1) (hx16.t hx68) λv56 h56=>?_;refine zaa zel ?_;refine zab zaK (zbt hA2) (hx26.t hx68) λv58 h58=>?_
     have hok:zaU 6 I.term=true:=by
       have:=hR.2.2.1;rw [←hI,if_pos (.inr q2)] at this;exact this.1
     refine (zhp h54 (Ext.refl w8) h56 (hx16.t hx68) h58 (hx26.t hx68) hok).mono ?_;rintro _ w9 ⟨hx9,rfl⟩;refine zag ?_;refine br (λq=>?_) (λq=>?_)
     · refine zaa zcC ?_
       refine zac ty3 (zbB hA10) hx9 λ_=>?_;exact ⟨by unfold zcx;rw [←hI,if_pos q2,if_pos q],hx38.t hx9,same w9 hx9 (by omega)⟩
     exact ⟨by unfold zcx;rw [←hI,if_pos q2,if_neg q],hx38.t hx9,same w9 hx9 (by omega)⟩
   refine zag ?_;refine br (λq3=>?_) (λq3=>?_)
   · refine zaa zcC ?_
     refine zac ty3 (zbB hA10) (Ext.refl w8) λ_=>?_;exact ⟨by unfold zcx;rw [←hI,if_neg q2,if_pos q3],hx38,same w8 (Ext.refl w8) (by omega)⟩
   have hn:=hnext q2 q3;refine zag ?_;refine br (λq4=>?_) (λq4=>?_)
   · have hx9:=zai w8
     have hs9:=hx9.size;have hg8:=hv8.lt;obtain ⟨har0,har1⟩:=zgf hc hs hat0 (.inl (hI▸q4));rw [←hI] at har0 har1;obtain ⟨ar,har⟩:∃ ar:Nat,I.arg=ar:=⟨I.arg.toNat,by omega⟩;obtain ⟨F,hO,hF⟩:=hv6.ext (hx68.t hx9);have hlt:=hO.lts;obtain ⟨G1,hL1⟩:=zcP (Lens.var hO);obtain ⟨b2,a2,cap2,G2,hv2,hG21,hL2⟩:=hL1.elemV hzn;rw [←hx] at hL2;obtain ⟨cs1,⟨rfl,_⟩,hr1,_,_,hg1,_⟩:=hL1.here;obtain ⟨cs,⟨rfl,hrow⟩,hr2,hnG,_,hb2,_⟩:=hL2.here
     have hG2F:∀ c∈G2,c∈F:=λc hcm=>by
       rcases List.mem_cons.1 (hL2.sub c (by simp [hcm])) with rfl | h
       · exact absurd (hG21 _ (by simp [hcm])) hg1
       exact h
     have hGb:∀ c∈G2,w3.heap.size≤c∧c<w4.heap.size:=λc hcm=>hF c (hG2F c hcm);have hX3:∀ c,c∈G2→w3.heap.size≤c:=λc hcm=>(hGb c hcm).1;have hx39:=hx38.t hx9;refine XR.mk (λc=>c∈G2) ?_;refine zet zaW ?_;refine zeI zd5 hr1 (λh=>by have:=hGb _ h;omega) ?_;refine zet zaW ?_;refine zeI zd5 hr1 (λh=>by have:=hGb _ h;omega) ?_;refine zdv (w0:=w3) hX3 hx39 ?_;refine zcD u33 zaK hv2 hzn ?_;refine zeI zaK hr2 hb2 ?_;refine zet za7 ?_;refine zdv (w0:=w3) hX3 hx39 ?_;refine zab zaK (zap hA1) (hx2.t hx3) λv74 h74=>?_;refine zet zaZ ?_;refine zeI ty3 (zbF (zsp (zaw hA10)) hx9) (λh=>by have:=hGb _ h;omega) ?_;rw [har];refine zdv (w0:=w3) hX3 hx39 ?_;refine zad u25 ty3 h74 (by omega) λb77 o77 hA77=>?_;rw [zbr] at hA77;refine zdv (w0:=w3) hX3 hx39 ?_;refine zac ty3 hA77 (hx2.t hx3) λhI78=>?_;refine zd9 (β:=Int) (G:=G2) u25 ty3 z3 zc3 (by decide) hrow hnG (zbh hI78) (by simp) (by rw [zak,hxl];omega) (by rw [hxl];omega) (λw10 v80 w11 G' hx10 hc11 hR11 hN11 hs11=>?_) λsv w10 hx10 hop=>⟨hx10.toX,hop⟩;refine ⟨hc11.toX (λc h=>h),?_⟩;have hs10:=hx10.size;have hs11':=hc11.size;have hc911:Chg G2 (World.drew1 w8) w11:=(hx10.chg G2).trans hc11;have hx311:Ext w3 w11:=Ext.chgI hx39 (hc911.toI (lo:=w3.heap.size) (hi:=w4.heap.size) hGb) (lr _);refine zdv (w0:=w3) hX3 hx311 ?_;refine zcD u33 zaK hv2 hzn ?_;refine zgb zaK hL2 hlt hc911 hR11 hN11 (λc hcm=>?_) λw12 hc12 ⟨F',hO',hF'⟩=>?_
     · rcases hs11 c hcm with h | h | h
       · exact .inl h
       · simp at h
       exact .inr h
     have hs12:=hc12.size
     have hcI:ChgI w3.heap.size w8.heap.size (World.drew1 w8) w12:=hc12.toI λc hcm=>by
       have:=hL2.sub c hcm;rcases List.mem_cons.1 this with rfl | h
       · exact ⟨by omega,hg8⟩
       have:=hF c h;omega
     refine hres _ w12 (Ext.chgI hx39 hcI (lr _)) (zlV ⟨F',hO',λc hcm=>?_⟩) ?_
     · have h1:=hO'.lts c (by simp [hcm])
       rcases hF' c hcm with h | h
       · rcases List.mem_cons.1 h with rfl | h
         · obtain ⟨_,_,_,_,_,hnn,_⟩:=hO';exact absurd hcm hnn
         have:=hF c h;omega
       omega
     unfold zch DStV.er;have e1:((tn:Int)).toNat=tn:=by omega
     rw [←hI,if_pos q4];simp only [DState.mk.injEq,hzv,hzo,true_and];rw [List.map_set,hzl,hxl,e1,har,Int.toNat_natCast]
   refine zag ?_;refine br (λq5=>?_) (λq5=>?_)
   · have hg8:=hv8.lt
     obtain ⟨har0,har1⟩:=zgf hc hs hat0 (.inr (hI▸q5));rw [←hI] at har0 har1;obtain ⟨ar,har⟩:∃ ar:Nat,I.arg=ar:=⟨I.arg.toNat,by omega⟩;have hzlen:z.stacks.l.length=s.stacks.length:=by have:=congrArg List.length hzl;simpa using this
     refine zaa zaW ?_;refine zab (α:=RIntss) zd5 (zeu hv8.at) (Ext.refl w8) λv86 k86=>?_;obtain ⟨rfl,h86⟩:=zku k86;refine zae u33 h86 ?_;rw [hzlen];refine zaf ?_;refine br (λqq=>?_) (λqq=>?_)
     · have hx9:=zai w8
       have hs9:=hx9.size;obtain ⟨F,hO,hF⟩:=hv8.ext hx9;have hlt:=hO.lts;obtain ⟨G1,hL1⟩:=zcP (Lens.var hO);refine zaa zaW ?_;refine ziT zd5 (zeu hv8.at) hx9 ?_;refine zaa za7 ?_;refine zab zaK (zap hA1) (hx16.t (hx68.t hx9)) λv92 h92=>?_;refine zaa zaZ ?_;refine zac ty3 (zaw hA10) hx9 λ_=>?_;rw [har];refine zad u25 ty3 h92 (by omega) λb95 o95 hA95=>?_;rw [zbr] at hA95;refine zac ty3 hA95 (hx16.t (hx68.t hx9)) λhI96=>?_;refine zbE (β:=Int) u25 ty3 z3 (by decide) (zbh hI96) λv97 w10 hx10 r97=>?_;refine ⟨hx10,?_⟩;have hs10:=hx10.size;obtain ⟨GX,hMX,hGX⟩:=zh5 r97;obtain ⟨cs,⟨rfl,hrow⟩,_,hnG,_⟩:=hL1.here;have hGlt:∀ c∈G1,c<(World.drew1 w8).heap.size:=λc hcm=>hlt c (hL1.sub c (by simp [hcm]));refine zd9 (β:=RInts) (G:=G1) (w:=w10) u33 zaK z25 zt5 (by decide) (hrow.keep λc hcm=>hx10.heap (hGlt c hcm)) hnG hMX (λc hcm hg=>by have:=hGX c hcm;have:=hGlt c hg;omega) (by rw [zak,hzlen];omega) (by rw [hzlen];omega) (λw11 v99 w12 G' hx11 hc12' hR12 hN12 hs12=>?_) λsv w11 hx11 hop=>⟨hx11,hop⟩;have hc12:Chg G1 w10 w12:=(hx11.chg G1).trans hc12';refine zaa zaW ?_;refine zgb zd5 hL1 hlt ((hx10.chg G1).trans hc12) hR12 hN12 (λc hcm=>?_) λw13 hc13 ⟨F',hO',hF'⟩=>?_
       · rcases hs12 c hcm with h | h | h
         · exact .inl h
         · exact .inr (hGX c h).1
         exact .inr (by omega)
       have hs13:=hc13.size
       have hcI:ChgI w3.heap.size w8.heap.size (World.drew1 w8) w13:=hc13.toI λc hcm=>by
         have:=hL1.sub c hcm;rcases List.mem_cons.1 this with rfl | h
         · exact ⟨by omega,hg8⟩
         exact hF c h
       have hrest:zaN c s tn=⟨s.vars,s.owner,s.stacks++[[en c I.arg.toNat]]⟩:=by unfold zaN;rw [←hI,if_neg q1,if_pos q5,if_pos (by omega)]
       refine ⟨by rw [hn],Ext.chgI (hx38.t hx9) hcI (lr _),_,⟨F',hO',λc hcm=>?_⟩,?_,?_,?_,?_,by omega,by omega⟩
       · have h1:=hO'.lts c (by simp [hcm])
         rcases hF' c hcm with h | h
         · rcases List.mem_cons.1 h with rfl | h
           · obtain ⟨_,_,_,_,_,hnn,_⟩:=hO';exact absurd hcm hnn
           have:=hF c h;omega
         omega
       · rw [hrest];exact hzv
       · rw [hrest];exact hzo
       · rw [hrest]
         simp only [List.map_append,List.map_cons,List.map_nil,hzl,har,Int.toNat_natCast]
       show (z.stacks.l++_)[tn]?=some x;rw [List.getElem?_append_left hzn];exact hzx
     have hrest:zaN c s tn=s:=by unfold zaN;rw [←hI,if_neg q1,if_pos q5,if_neg (by omega)]
     refine ⟨by rw [hn],hx38,z,hv8,?_,?_,?_,hzx,by omega,by omega⟩
     · rw [hrest];exact hzv
     · rw [hrest];exact hzo
     rw [hrest];exact hzl
   refine zag ?_;refine br (λq6=>?_) (λq6=>?_)
   · have hg8:=hv8.lt
     obtain ⟨har0,har1⟩:=zdN hc hs hat0 (.inl (hI▸q6));rw [←hI] at har0 har1;obtain ⟨ar,har⟩:∃ ar:Nat,I.arg=ar:=⟨I.arg.toNat,by omega⟩;have har2:ar<z.owner.length:=by rw [hzo];omega
     obtain ⟨u,b,a,cap,hr,hIs,hu,hst⟩:=zhq hv8 (by omega) har2;refine zaa zc2 ?_;refine zca zaK hr ?_;refine zaa zaZ ?_;refine zac ty3 (zaw hA10) (Ext.refl w8) λ_=>?_;rw [har];refine zcD u25 ty3 hu har2 ?_;have hmany:=hs.2.2.1;refine hst w8 (Ext.refl w8) _ (by unfold I64;omega) _ λw11 hc11 hv11=>?_;have hs11:=hc11.size;have hrest:zaN c s tn=⟨s.vars,s.owner.set I.arg.toNat tn,s.stacks⟩:=by unfold zaN;rw [←hI,if_neg q1,if_neg q5,if_pos q6]
     refine ⟨by rw [hn],Ext.chgI hx38 hc11 (by omega),_,hv11.mono (lr _) (by omega),?_,?_,?_,hzx,by omega,by omega⟩
     · rw [hrest];exact hzv
     · rw [hrest,hzo,har];rfl
     rw [hrest];exact hzl
   refine zag ?_;refine br (λq7=>?_) (λq7=>?_)
   · have hg8:=hv8.lt
     obtain ⟨har0,har1⟩:=zdN hc hs hat0 (.inr (hI▸q7));rw [←hI] at har0 har1;obtain ⟨ar,har⟩:∃ ar:Nat,I.arg=ar:=⟨I.arg.toNat,by omega⟩;have har2:ar<z.owner.length:=by rw [hzo];omega
     obtain ⟨u,b,a,cap,hr,hIs,hu,hst⟩:=zhq hv8 (by omega) har2;refine zaa zc2 ?_;refine zca zaK hr ?_;refine zaa zaZ ?_;refine zac ty3 (zaw hA10) (Ext.refl w8) λ_=>?_;rw [har];refine zad u25 ty3 hIs har2 λb115 o115 hA115=>?_;refine zac ty3 hA115 (Ext.refl w8) λ_=>?_
     have how:z.owner[ar]=ow s I.arg:=by
       have:ar<s.owner.length:=by rw [←hzo];exact har2
       rw [har,←zsH this];congr 1
     rw [how];refine zag ?_;refine br (λqq=>?_) (λqq=>?_)
     · refine zaa zc2 ?_
       refine zca zaK hr ?_;refine zaa zaZ ?_;refine zac ty3 (zaw hA10) (Ext.refl w8) λ_=>?_;rw [har];refine zcD u25 ty3 hu har2 ?_;refine hst w8 (Ext.refl w8) _ (by unfold I64;omega) _ λw11 hc11 hv11=>?_;have hs11:=hc11.size;have hrest:zaN c s tn=⟨s.vars,s.owner.set I.arg.toNat (-1),s.stacks⟩:=by unfold zaN;rw [←hI,if_neg q1,if_neg q5,if_neg q6,if_pos q7,if_pos qq]
       refine ⟨by rw [hn],Ext.chgI hx38 hc11 (by omega),_,hv11.mono (lr _) (by omega),?_,?_,?_,hzx,by omega,by omega⟩
       · rw [hrest];exact hzv
       · rw [hrest,hzo,har];rfl
       rw [hrest];exact hzl
     have hrest:zaN c s tn=s:=by unfold zaN;rw [←hI,if_neg q1,if_neg q5,if_neg q6,if_pos q7,if_neg qq]
     refine ⟨by rw [hn],hx38,z,hv8,?_,?_,?_,hzx,by omega,by omega⟩
     · rw [hrest];exact hzv
     · rw [hrest];exact hzo
     rw [hrest];exact hzl
   refine zag ?_;refine br (λq9=>?_) (λq9=>?_)
   · have hx9:=zai w8
     have hs9:=hx9.size;have hg8:=hv8.lt;have hx39:=hx38.t hx9;obtain ⟨F,hO,hF⟩:=hv6.ext (hx68.t hx9);have hlt:=hO.lts;obtain ⟨G1v,hL1v⟩:=zcP (Lens.var hO);obtain ⟨b2v,a2v,cap2v,G2v,hv2v,hG21v,hL2v⟩:=hL1v.elemV hzn;rw [←hx] at hL2v;obtain ⟨cs1,⟨rfl,_⟩,hr1v,_,_,hg1v,_⟩:=hL1v.here;obtain ⟨cs2,⟨rfl,hrow2⟩,hr2v,_,_,_,hwb2⟩:=hL2v.here;have hOs:OAt F (World.drew1 w8) w4.heap.size 0 s:=by have:=zsM hO;rwa [hz] at this
     obtain ⟨G1,hL1⟩:=zd3 (Lens.var hOs);obtain ⟨_,_,_,_,_,hgG1,_⟩:=hL1.here;obtain ⟨u1,b2,a2,cap2,G2,hr1,hIs1,hu1,hL2⟩:=hL1.elem htn;have hu:u1=z.stacks.v:=zcQ hr1 hr1v;refine zaa zaW ?_;refine zca zd5 hr1 ?_;refine zaa zaW ?_;refine zca zd5 hr1 ?_;refine zcD u33 zaK hu1 htn ?_
     have hbb:b2=b2v∧a2=a2v:=by
       rw [hu,hv2v] at hu1;simp only [Value.slice.injEq,Option.some.injEq,Addr.mk.injEq] at hu1;exact ⟨hu1.1.1.symm,hu1.1.2.1.symm⟩
     obtain ⟨rfl,rfl⟩:=hbb;obtain ⟨ux,hMx,hrx,hGx,_⟩:=hL2.row;obtain ⟨_,_,_,_,_,hb2G2,_⟩:=hL2.here;have hux:ux=x.v:=zcQ hrx hr2v;have hsl:s.stacks[tn]=x.l:=by rw [hxl];exact zdK (t:=(tn:Int)) (by simpa using htn)
     rw [hux,hsl] at hMx;refine zca zaK hr2v ?_;refine zws u25 ty3 hMx (by omega) (by rw [hxl];exact hne) λbx ax capx v132 G' hxv hM' hG' hv'=>?_;refine zcD u33 zaK hu1 htn ?_;have hb2G':b2∉G':=λh=>hb2G2 (hG' _ h);have hb2g:b2≠w4.heap.size:=λe=>hg1v (e▸hG21v b2 (by simp));have hrep':=zbA rfl hM'.own;have hone':v132.oneCell'=true:=Rep.one hrep' v132 (by simp);refine ziU zaK hwb2 hr2v hrow2.one hone' λw10 hch hr10=>?_;have hkeep':∀ c∈G',w10.heap[c]?=(World.drew1 w8).heap[c]?:=λc hcm=>hch.chg.block c (hM'.lt c hcm) (by simp;exact λe=>hb2G' (e▸hcm));obtain ⟨cb,eb,hcb⟩:=hwb2;obtain ⟨cb',hcb',_⟩:=hch.cell cb eb hcb;have hOy:OAt G' w10 b2 (a2+tn*Rep.size (List Int)) (x.l.take top):=⟨[v132],Rep.keep hrep' hkeep',hr10,hM'.nodup,hM'.wr.keep hkeep',hb2G',cb',eb,hcb'⟩;have hg10:w10.heap[w4.heap.size]?=(World.drew1 w8).heap[w4.heap.size]?:=hch.chg.block _ (hlt _ (by simp)) (by simp;exact λe=>hb2g e.symm);obtain ⟨F',hO',hF'⟩:=hL2.back w10 G' (x.l.take top) (hch.mono (lr _) (lr _) (by simp)) hOy (λc hcm=>.inl (hG' c hcm));have hs10:=hch.chg.size
     have hFb:∀ c∈F',w3.heap.size≤c∧c<w4.heap.size:=λc hcm=>by
       have hin:c∈w4.heap.size :: F:=by
         rcases hF' c hcm with h | h
         · exact h
         exact hGx c (hG' c h)
       rcases List.mem_cons.1 hin with rfl | h
       · obtain ⟨_,_,_,_,_,hnn,_⟩:=hO';exact absurd hcm hnn
       exact hF c h
     have hb2F:b2∈w4.heap.size :: F:=hL2.sub b2 (by simp)
     have hcI:ChgI w3.heap.size w8.heap.size (World.drew1 w8) w10:=hch.chg.toI λc hcm=>by
       simp only [List.mem_cons,List.not_mem_nil,or_false] at hcm;subst hcm;rcases List.mem_cons.1 hb2F with h | h
       · rw [h];exact ⟨by omega,hg8⟩
       have:=hF _ h;omega
     have hx310:Ext w3 w10:=Ext.chgI hx39 hcI (lr _);have e1:((tn:Int)).toNat=tn:=by omega
     have hlen:x.l.length=top+1:=by omega
     have htop8:top<8:=by have h:=htl;rw [hxl] at h;omega
     refine zb1 ?_;refine br (λhp=>?_) (λhp=>?_)
     · refine zaa zaW ?_
       refine zca zd5 (za2 hr1 hg10) ?_;refine zcD u33 zaK hu1 htn ?_;refine zca zaK hr10 ?_;refine za0 (by unfold I64;omega) ?_;obtain ⟨tp,htp⟩:∃ tp:Nat,(top:Int)-1=tp:=⟨top-1,by omega⟩;rw [htp];obtain ⟨G1',hL1'⟩:=zd3 (Lens.var hO');have hk':tn<(s.stacks.set tn (x.l.take top)).length:=by simpa using htn
       obtain ⟨u1',b2',a2',cap2',G2',hr1',_,hu1',hL2'⟩:=hL1'.elem hk';have hu':u1'=u1:=zcQ hr1' (za2 hr1 hg10)
       have hbb':b2'=b2∧a2'=a2:=by
         rw [hu',hu1] at hu1';simp only [Value.slice.injEq,Option.some.injEq,Addr.mk.injEq] at hu1';exact ⟨hu1'.1.1.symm,hu1'.1.2.1.symm⟩
       obtain ⟨rfl,rfl⟩:=hbb';have hel:(s.stacks.set tn (x.l.take top))[tn]'hk'=x.l.take top:=List.getElem_set_self ..;simp only [hel] at hL2';obtain ⟨uy,by',ay',capy',G3',hry,hIsy,huy,hL3'⟩:=hL2'.elem (k:=tp) (by simp;omega);have huy':uy=v132:=zcQ hry hr10;have hv132:=hv' (by omega)
       have hbx:by'=bx∧ay'=ax:=by
         rw [huy',hv132] at huy;simp only [Value.slice.injEq,Option.some.injEq,Addr.mk.injEq] at huy;exact ⟨huy.1.1.symm,huy.1.2.1.symm⟩
       obtain ⟨rfl,rfl⟩:=hbx;refine zcD u25 ty3 hv132 (k:=tp) (by omega) ?_
       have hval:(x.l.take top)[tp]'(by simp;omega)=st x.l tp:=by
         rw [List.getElem_take,zeJ]
       refine zac ty3 hL3'.here.at (Ext.refl w10) λhI140=>?_;rw [hval]
       have hstr:0≤st x.l tp∧st x.l tp<c.ins.length:=by
         have hmem:=hs.2.2.2.2.2 x.l (by rw [←hsl];exact List.getElem_mem _);exact hmem.2.1 tp (by omega)
       refine zcG (by unfold I64;omega) ?_;refine zcD u25 ty3 hv132 (k:=tp) (by omega) ?_;have hg10':w4.heap.size<w10.heap.size:=by omega
       refine zga (α:=DState) (lo:=w3.heap.size) (hi:=w10.heap.size) ty3 hL3' (λc hcm=>by have:=hFb c hcm;omega) (by omega) (zbh (x:=st x.l tp+1) (by unfold I64;omega)) λw11 hc11 hv11=>?_;have hs11:=hc11.size;refine hres _ w11 (Ext.chgI hx310 hc11 (lr _)) (hv11.mono (lr _) (by omega)) ?_;unfold zch;rw [←hI,if_neg q4,if_pos q9];simp only [DState.mk.injEq,true_and,e1,List.set_set];congr 1;unfold zfg;rw [←hxl,hlen,if_neg (by omega),show top+1-1=top by omega,show top+1-2=tp by omega]
     refine hres _ w10 hx310 ⟨F',hO',λc hcm=>by have:=hFb c hcm;omega⟩ ?_;unfold zch;rw [←hI,if_neg q4,if_pos q9];simp only [DState.mk.injEq,true_and,e1];congr 1;unfold zfg;have ht0:top=0:=by omega
     subst ht0;rw [←hxl,hlen];simp
   exact ⟨by rw [hn],hx38,same w8 (Ext.refl w8) (by omega)⟩
 rintro uj w9 ⟨hu,hx9,z',hv9,hz1,hz2,hz3,hz4,ho4,ho9⟩;try replace hu:=zbG hu
 rw [hu];have hs9:=hx9.size;obtain ⟨hk',hxk⟩:=List.getElem?_eq_some_iff.1 hz4;have hg9:=hv9.lt;obtain ⟨F,hO,hF⟩:=hv9;obtain ⟨G1,hL1⟩:=zcP (Lens.var hO);obtain ⟨b2,a2,cap2,G2,hv2,_,hL2⟩:=hL1.elemV hk';rw [hxk] at hL2;obtain ⟨cs1,⟨rfl,_⟩,hr1,_⟩:=hL1.here;obtain ⟨cs2,⟨rfl,_⟩,hr2,_⟩:=hL2.here;refine zaa zaW ?_;refine zca zd5 hr1 ?_;refine zcD u33 zaK hv2 hk' ?_;refine zca zaK hr2 ?_;refine zpM (e:=3) u25 ty3 hL2 htl λb3 o3 G3 hL3=>?_
 have hI64:I64 (zcx c s tn):=by
   have hto:I.op=2∨I.op=3→I64 I.to:=λh=>by
     have:=hR.2.2.2;rw [←hI,if_pos h] at this;obtain ⟨i,hi,_,_,hpr⟩:=hc.f.find hc.1.procs8.2 hat0 hatlt.2;have h1:=hc.f.nonneg hi;have h2:=(hc.f.lt i hi).2;rw [hpr,zds,Int.toNat_natCast] at this;unfold I64;omega
   unfold zcx;rw [←hI];split
   · split
     · exact hto (.inl (by assumption))
     unfold I64;omega
   split
   · exact hto (.inr (by assumption))
   unfold I64;omega
 refine zga ty3 hL3 hF (by omega) (zbh hI64) λw10 hc10 hv10=>?_;have hs10:=hc10.size;refine hres _ w10 (Ext.chgI hx9 hc10 (lr _)) (zlV (hv10.mono (lr _) (by omega))) ?_;unfold zch DStV.er;rw [←hI,if_neg ho4,if_neg ho9];simp only [DState.mk.injEq,hz1,hz2,true_and];have e1:((tn:Int)).toNat=tn:=by omega
 have e2:(stk s tn).length-1=top:=by rw [←hxl];omega
 rw [List.map_set,hz3,hxl,e1,e2]
theorem zhB {w W:World} {v:Value} {s:DState} (h:Is W v s) (e:Ext W w) (hsz:zv3 s) :
   CALL tp 52 [v] w λr w'=>Ext w w'∧Own w.heap.size w' r s:=
 (ziy h e hsz).mono λr w' ⟨hx,z,ho,hz⟩=>⟨hx,hz▸(zsL ho).own⟩
theorem zpf {w W:World} {v:Value} {s:DState} (h:Is W v s) (e:Ext W w) (hsz:zv3 s) :
   CALL tp 55 [v] w λr w'=>Ext w w'∧Own w.heap.size w' r s:=
 (zkV h e hsz).mono λr w' ⟨hx,z,ho,hz⟩=>⟨hx,hz▸(zsL ho).own⟩
def zhC (c:DCode) (s:DState) (t:Int):DState:=if (CodeR c∧zaF c s)∧GoR c s t then zch c s t else s
def F17 (a0 a1 a2:Value) (w:World) (R:VW):Prop:=
 oX 28 a0 w λx3 w=>
 oX 36 a1 w λx4 w=>
 oP (aL 36) w λx6 w=>
 rL 28 x3 w λx8=>
 rL 36 x4 w λx9=>
 cL 44 [x8,x9] w λx10 w=>
 rT x10 w λx11=>
 BR x11
 (rL 36 x4 w λx19=>
 cL 52 [x19] w λx20 w=>
 oS 36 x6 x20 w λw=>
 rD (zaJ 36 x6) w λr6=>R (Value.tuple #[r6,vF]) w)
 (rL 28 x3 w λx13=>
 rL 36 x4 w λx14=>
 cL 51 [x13,x14,a2] w λx16 w=>
 rT x16 w λx17=>
 BR x17
 (rL 36 x4 w λx19=>
 cL 52 [x19] w λx20 w=>
 oS 36 x6 x20 w λw=>
 rD (zaJ 36 x6) w λr6=>R (Value.tuple #[r6,vF]) w)
 (rL 28 x3 w λx21=>
 rL 36 x4 w λx22=>
 cL 53 [x21,x22,a2] w λx24 w=>
 oS 36 x6 x24 w λw=>
 rD (zaJ 36 x6) w λr6=>R (Value.tuple #[r6,vT]) w))
theorem F17_call {a0 a1 a2 w R} (h:F17 a0 a1 a2 w R):cL 17 [a0,a1,a2] w R:=co (g:=(kf [] [] [])) Tryz.func17 h
theorem zmm {w:World} {v0:Value} {W0:World} {c:DCode} {v1:Value} {W1:World} {s:DState} {t:Int}  (h0:Is W0 v0 c) (e0:Ext W0 w) (h1:Is W1 v1 s) (e1:Ext W1 w) (hz:zv3 s) :
   CALL tp 17 [v0,v1,.int .i64 t] w λr w'=>Ext w w'∧(∃ a,r=.tuple #[a,.bool (decide ((CodeR c∧zaF c s)∧GoR c s t))]∧Own w.heap.size w' a (zhC c s t)):=by
 refine F17_call ?_;unfold F17;have σe0:=e0.size;have σe1:=e1.size;refine zao zcv rfl h0 e0 λw1_ η1 hA3 hV3=>?_;have σ1:=η1.size;refine zao zcT rfl h1 (e1.trans η1) λw2_ η2 hA4 hV4=>?_;have σ2:=η2.size;refine zfp (α:=DState) zxR λw3_ η3 hv6=>?_;have hg6:=hv6.lt;have σ3:=η3.size;refine zau hV3 (η2.t η3) ?_;refine zau hV4 η3 ?_;refine (zeV h0 (e0.t (η1.t (η2.t η3))) h1 (e1.trans (η1.t (η2.t η3)))).mono ?_;rintro _ w4_ ⟨η4,rfl⟩;have σ4:=η4.size;refine zav ?_;refine br (λc1=>?_) (λc1=>?_)
 · refine zau hV4 (η3.t η4) ?_
   refine (zhB h1 (e1.trans (η1.t (η2.t (η3.t η4)))) (by assumption)).mono ?_;rintro r20 w5_ ⟨η5,o20⟩;have o20:=o20.toI;have σ5:=η5.size;refine zbf zcT (hv6.ext (η4.t η5)) (o20.ext (Ext.refl w5_)) (by omega) λw6_ hc6_ hv6_s6=>?_;have σhc6_:=hc6_.size;have o20_c6:=(o20.ext (Ext.refl w5_)).chg hc6_ (by omega);refine zbT zcT hv6_s6 (Ext.refl w6_) λr6 hr6=>?_
   replace hr6:=hr6.ext (Ext.refl w6_)
   refine ⟨(Ext.chgI ((((η1.t η2).trans η3).trans η4).trans η5) hc6_ (by omega)),?_⟩;rw [decide_eq_false λh=>c1 h.1,show zhC c s t=s from if_neg λh=>c1 h.1];exact ⟨_,rfl,hr6.own.mono (by omega)⟩
 have hcs:=Decidable.not_not.1 c1;have hc:=hcs.1;have hs:=hcs.2;refine zau hV3 (η2.t (η3.t η4)) ?_;refine zau hV4 (η3.t η4) ?_;refine (zsI h0 (e0.t (η1.t (η2.t (η3.t η4)))) h1 (e1.trans (η1.t (η2.t (η3.t η4)))) (by assumption) (by assumption)).mono ?_;rintro _ w7_ ⟨η7,rfl⟩;have σ7:=η7.size;refine zav ?_;refine br (λc2=>?_) (λc2=>?_)
 · refine zau hV4 (η3.t (η4.t η7)) ?_
   refine (zhB h1 (e1.trans (η1.t (η2.t (η3.t (η4.t η7))))) (by assumption)).mono ?_;rintro r20 w8_ ⟨η8,o20⟩;have o20:=o20.toI;have σ8:=η8.size;refine zbf zcT (hv6.ext (η4.t (η7.t η8))) (o20.ext (Ext.refl w8_)) (by omega) λw9_ hc9_ hv6_s9=>?_;have σhc9_:=hc9_.size;have o20_c9:=(o20.ext (Ext.refl w8_)).chg hc9_ (by omega);refine zbT zcT hv6_s9 (Ext.refl w9_) λr6 hr6=>?_
   replace hr6:=hr6.ext (Ext.refl w9_)
   refine ⟨(Ext.chgI (((((η1.t η2).trans η3).trans η4).trans η7).trans η8) hc9_ (by omega)),?_⟩;rw [decide_eq_false λh=>c2 h.2,show zhC c s t=s from if_neg λh=>c2 h.2];exact ⟨_,rfl,hr6.own.mono (by omega)⟩
 have hgo:=Decidable.not_not.1 c2;refine zau hV3 (η2.t (η3.t (η4.t η7))) ?_;refine zau hV4 (η3.t (η4.t η7)) ?_;refine (zqY h0 (e0.t (η1.t (η2.t (η3.t (η4.t η7))))) h1 (e1.trans (η1.t (η2.t (η3.t (η4.t η7))))) (by assumption) (by assumption) (by assumption)).mono ?_;rintro r24 w10_ ⟨η10,o24⟩;have o24:=o24.toI;have σ10:=η10.size;refine zbf zcT (hv6.ext (η4.t (η7.t η10))) (o24.ext (Ext.refl w10_)) (by omega) λw11_ hc11_ hv6_s11=>?_;have σhc11_:=hc11_.size;have o24_c11:=(o24.ext (Ext.refl w10_)).chg hc11_ (by omega);refine zbT zcT hv6_s11 (Ext.refl w11_) λr6 hr6=>?_
 replace hr6:=hr6.ext (Ext.refl w11_)
 refine ⟨(Ext.chgI (((((η1.t η2).trans η3).trans η4).trans η7).trans η10) hc11_ (by omega)),?_⟩;rw [decide_eq_true ⟨hcs,hgo⟩,show zhC c s t=zch c s t from if_pos ⟨hcs,hgo⟩];exact ⟨_,rfl,hr6.own.mono (by omega)⟩
def F18 (a0 a1 a2:Value) (w:World) (R:VW):Prop:=
 oX 28 a0 w λx3 w=>
 oX 36 a1 w λx4 w=>
 oP (aL 36) w λx6 w=>
 rL 28 x3 w λx8=>
 rL 36 x4 w λx9=>
 cL 54 [x8,x9,a2] w λx11 w=>
 rT x11 w λx12=>
 BR x12
 (rL 36 x4 w λx13=>
 cL 55 [x13] w λx14 w=>
 oS 36 x6 x14 w λw=>
 rD (zaJ 36 x6) w λr6=>R (Value.tuple #[r6,vF]) w)
 (rL 28 x3 w λx15=>
 rL 36 x4 w λx16=>
 cL 56 [x15,x16,a2] w λx18 w=>
 oS 36 x6 x18 w λw=>
 rD (zaJ 36 x6) w λr6=>R (Value.tuple #[r6,vT]) w)
theorem F18_call {a0 a1 a2 w R} (h:F18 a0 a1 a2 w R):cL 18 [a0,a1,a2] w R:=co (g:=(kf [] [] [])) Tryz.func18 h
theorem zmn {w:World} {v0:Value} {W0:World} {c:DCode} {v1:Value} {W1:World} {s:DState} {t:Int}  (h0:Is W0 v0 c) (e0:Ext W0 w) (h1:Is W1 v1 s) (e1:Ext W1 w) (hz:zv3 s) :
   CALL tp 18 [v0,v1,.int .i64 t] w λr w'=>Ext w w'∧(∃ a,r=.tuple #[a,.bool (decide ((CodeR c∧zaF c s)∧GoR c s t))]∧Own w.heap.size w' a (zhC c s t)):=by
 refine F18_call ?_;unfold F18;have σe0:=e0.size;have σe1:=e1.size;refine zao zcv rfl h0 e0 λw1_ η1 hA3 hV3=>?_;have σ1:=η1.size;refine zao zcT rfl h1 (e1.trans η1) λw2_ η2 hA4 hV4=>?_;have σ2:=η2.size;refine zfp (α:=DState) zxR λw3_ η3 hv6=>?_;have hg6:=hv6.lt;have σ3:=η3.size;refine zau hV3 (η2.t η3) ?_;refine zau hV4 η3 ?_;refine (znd h0 (e0.t (η1.t (η2.t η3))) h1 (e1.trans (η1.t (η2.t η3)))).mono ?_;rintro _ w4_ ⟨η4,rfl⟩;have σ4:=η4.size;refine zav ?_;refine br (λc1=>?_) (λc1=>?_)
 · refine zau hV4 (η3.t η4) ?_
   refine (zpf h1 (e1.trans (η1.t (η2.t (η3.t η4)))) (by assumption)).mono ?_;rintro r14 w5_ ⟨η5,o14⟩;have o14:=o14.toI;have σ5:=η5.size;refine zbf zcT (hv6.ext (η4.t η5)) (o14.ext (Ext.refl w5_)) (by omega) λw6_ hc6_ hv6_s6=>?_;have σhc6_:=hc6_.size;have o14_c6:=(o14.ext (Ext.refl w5_)).chg hc6_ (by omega);refine zbT zcT hv6_s6 (Ext.refl w6_) λr6 hr6=>?_
   replace hr6:=hr6.ext (Ext.refl w6_)
   refine ⟨(Ext.chgI ((((η1.t η2).trans η3).trans η4).trans η5) hc6_ (by omega)),?_⟩;rw [decide_eq_false c1,show zhC c s t=s from if_neg c1];exact ⟨_,rfl,hr6.own.mono (by omega)⟩
 have hcs:=Decidable.not_not.1 c1;have hc:=hcs.1.1;have hs:=hcs.1.2;have hgo:=hcs.2;refine zau hV3 (η2.t (η3.t η4)) ?_;refine zau hV4 (η3.t η4) ?_;refine (zru h0 (e0.t (η1.t (η2.t (η3.t η4)))) h1 (e1.trans (η1.t (η2.t (η3.t η4)))) (by assumption) (by assumption) (by assumption)).mono ?_;rintro r18 w7_ ⟨η7,o18⟩;have o18:=o18.toI;have σ7:=η7.size;refine zbf zcT (hv6.ext (η4.t η7)) (o18.ext (Ext.refl w7_)) (by omega) λw8_ hc8_ hv6_s8=>?_;have σhc8_:=hc8_.size;have o18_c8:=(o18.ext (Ext.refl w7_)).chg hc8_ (by omega);refine zbT zcT hv6_s8 (Ext.refl w8_) λr6 hr6=>?_
 replace hr6:=hr6.ext (Ext.refl w8_)
 refine ⟨(Ext.chgI ((((η1.t η2).trans η3).trans η4).trans η7) hc8_ (by omega)),?_⟩;rw [decide_eq_true hcs,show zhC c s t=zch c s t from if_pos hcs];exact ⟨_,rfl,hr6.own.mono (by omega)⟩
def zeP (l:List Int) (t:Int):Nat→Nat
 | 0=>0
 | k+1=>if k<6∧l[k]?=some t then zeP l t k ||| 2^k else zeP l t k
theorem znZ (l:List Int) (t:Int) (k:Nat):zeP l t k<64:=by
 induction k with
 | zero=>simp [zeP]
 | succ k ih=>
   unfold zeP;split
   · rename_i h
     have h1:2^k<2^6:=Nat.pow_lt_pow_right (by omega) h.1;exact Nat.or_lt_two_pow (n:=6) ih h1
   exact ih
def zgA (s:DState) (t:Int):Nat:=if t<0 then 0 else zeP s.owner t s.owner.length
def F13 (a0 a1:Value) (w:World) (R:VW):Prop:=
 oX 36 a0 w λx2 w=>
 rB .lss 3 T0 U0 a1 (iV 0) w λx9=>
 BR x9
 (R (iV 0) w)
 (rF 36 x2 1 w λx10=>
 rL 25 x10 w λx11=>
 rN 25 3 x11 w λx12=>
 LOOPI [5,13] [(iV 0),(iV 0)] w λu5 w n5=>
 rC (u5 13) x12 w λx14=>
 BR x14
 (rX 25 x11 (u5 13) w λx16=>
 rL 3 x16 w λx17=>
 rB .lss 3 T0 U0 (u5 13) (iV 6) w λx19=>
 BR x19
 (rB .eql 3 T0 T0 x17 a1 w λx23=>
 BR x23
 (rD (convert 3 77 (u5 13)) w λx27=>
 rB .shl 3 U0 T0 (iV 1) x27 w λx28=>
 rB .or 3 T0 T0 (u5 5) x28 w λx29=>
 rI (u5 13) w λx30=>
 n5 [x29,x30] w)
 (rI (u5 13) w λx30=>
 n5 [(u5 5),x30] w))
 (rI (u5 13) w λx30=>
 n5 [(u5 5),x30] w))
 (R (u5 5) w))
theorem F13_call {a0 a1 w R} (h:F13 a0 a1 w R):cL 13 [a0,a1] w R:=co (g:=(kf [] [(5,2147475680,[5,13])] [])) Tryz.func13 h
theorem zhD {w:World} {v0:Value} {W0:World} {s:DState} {t:Int}  (h0:Is W0 v0 s) (e0:Ext W0 w)  :
   CALL tp 13 [v0,.int .i64 t] w λr w'=>Ext w w'∧(r=.int .i64 (zgA s t:Int)):=by
 refine F13_call ?_;unfold F13;refine zao zcT rfl h0 e0 λw1_ η1 hA2 hV2=>?_;refine zaf ?_;refine br (λc1=>?_) (λc1=>?_)
 · refine ⟨η1,?_⟩
   unfold zgA;rw [if_pos c1];rfl
 refine zaa zc2 ?_;refine zab zaK (zbu hA2) (Ext.refl w1_) λv11 h11=>?_;have hln12:=zah h11;refine zae u25 h11 ?_;refine zat (s.owner.length) (λk us w'=>us=[.int .i64 (zeP s.owner t k:Int),.int .i64 (k:Int)]∧Ext w1_ w'∧(True)) (0) (by omega) ⟨by simp [zeP],Ext.refl w1_,trivial⟩ ?_;rintro k m5 uu5 w2_ hk5 ⟨hu,η2,hinv⟩;obtain ⟨hu0,hu1⟩:=zd4 hu;try rw [hu0]
 try rw [hu1]
 try clear hu0 hu1
 have hlt:=znZ s.owner t k;refine zaf ?_;refine br (λc2=>?_) (λc2=>?_)
 · refine zad u25 ty3 h11 (by omega) λb16 o16 h16=>?_
   refine zac ty3 h16 η2 λhI17=>?_;refine zaf ?_;refine br (λc3=>?_) (λc3=>?_)
   · refine zag ?_
     refine br (λc4=>?_) (λc4=>?_)
     · refine zce (by kernel_rfl) u77 (by omega) ?_
       refine zfo (by omega) ?_;refine zhJ (by omega) (by have:2^k<2^6:=Nat.pow_lt_pow_right (by omega) (by omega);omega) ?_;refine zaB ?_;refine ⟨m5-1,by omega,k+1,by omega,by rw [zeP,if_pos ⟨by omega,by rw [List.getElem?_eq_getElem (by omega),c4]⟩],η2,?_⟩;trivial
     refine zaB ?_;refine ⟨m5-1,by omega,k+1,by omega,by rw [zeP,if_neg (by rw [List.getElem?_eq_getElem (by omega)];simp only [Option.some.injEq];exact λh=>c4 h.2)],η2,?_⟩;trivial
   refine zaB ?_;refine ⟨m5-1,by omega,k+1,by omega,by rw [zeP,if_neg (by omega)],η2,?_⟩;trivial
 refine ⟨(η1.t η2),?_⟩;unfold zgA;rw [if_neg (by omega),show k=s.owner.length by omega]
theorem zkm {c:DCode} {s:DState} {t:Int}:∀ {k:Nat},t∈zdw c s k→GoR c s t
 | 0,h=>by simp [zdw] at h
 | k+1,h=>by
   rw [zdw] at h;split at h
   · rcases List.mem_append.1 h with h | h
     · exact zkm h
     simp only [List.mem_cons,List.not_mem_nil,or_false] at h;subst h;assumption
   exact zkm h
theorem zhE (c:DCode) (s:DState) (t:Int):s.stacks.length≤(zaN c s t).stacks.length∧∀ u:Nat,u<s.stacks.length→(zaN c s t).stacks[u]?=s.stacks[u]?:=by
 unfold zaN;split
 · exact ⟨Nat.le_refl _,λ_ _=>rfl⟩
 split
 · split
   · exact ⟨by simp,λu hu=>by rw [List.getElem?_append_left hu]⟩
   exact ⟨Nat.le_refl _,λ_ _=>rfl⟩
 split
 · exact ⟨Nat.le_refl _,λ_ _=>rfl⟩
 split
 · split
   · exact ⟨Nat.le_refl _,λ_ _=>rfl⟩
   exact ⟨Nat.le_refl _,λ_ _=>rfl⟩
 exact ⟨Nat.le_refl _,λ_ _=>rfl⟩
theorem zkn {α:Type} {l:List α} {t:Int} {x:α} {u:Nat} (ht:0≤t) (hne:(u:Int)≠t):(l.set t.toNat x)[u]?=l[u]?:=by
 rw [List.getElem?_set,if_neg (by omega)]
theorem zpg {c:DCode} {s:DState} {t:Int} (ht:0≤t):s.stacks.length≤(zch c s t).stacks.length∧∀ u:Nat,(u:Int)≠t→u<s.stacks.length→(zch c s t).stacks[u]?=s.stacks[u]?:=by
 have hr:=zhE c s t;unfold zch;split
 · exact ⟨by simp,λu hne _=>zkn ht hne⟩
 split
 · exact ⟨by simp,λu hne _=>zkn ht hne⟩
 exact ⟨by simpa using hr.1,λu hne hu=>by rw [zkn ht hne];exact hr.2 u hu⟩
theorem zwt {c:DCode} {s:DState} {t:Int} {u:Nat} (ht:0≤t) (hu:u<s.stacks.length) (hne:(u:Int)≠t):zcH (zch c s t) u=zcH s u:=by
 obtain ⟨h1,h2⟩:=zpg (c:=c) (s:=s) ht;have h3:=h2 u hne hu;unfold zcH;rw [dif_pos ⟨by omega,by rw [Int.toNat_natCast];omega⟩,dif_pos ⟨by omega,by rw [Int.toNat_natCast];omega⟩];simp only [Int.toNat_natCast];rw [List.getElem?_eq_getElem hu,List.getElem?_eq_getElem (by omega)] at h3;rw [Option.some.inj h3]
theorem ztE {c:DCode} {p i j:Nat} (h:zct c p i) (hj:j∈zaO c i):zct c p j:=by
 rcases h with rfl | h
 · exact .inr (.one hj)
 exact .inr (h.trans (.one hj))
theorem zu0 {c:DCode} (hc:CodeR c) {i:Nat} (h:MetP c i):∃ p,UsedP c p∧zct c p i:=by
 induction h with
 | root h=>exact ⟨_,h.used,.inl rfl⟩
 | call h ho ih=>
   obtain ⟨p,hu,hl⟩:=ih;have hg:=zey hc (h.lt hc) (.inl ho);exact ⟨_,hu.call hg.2 ⟨_,h.lt hc,hl,ho,hg.1⟩,.inl rfl⟩
 | next _ _ hj ih=>obtain ⟨p,hu,hl⟩:=ih;exact ⟨p,hu,ztE hl hj⟩
 | back _ _ _ hj ih _=>obtain ⟨p,hu,hl⟩:=ih;exact ⟨p,hu,ztE hl hj⟩
theorem ztF {c:DCode} (hc:CodeR c) {i:Nat} (h:MetP c i) (ho:(zan c i).op=5):RootP c (agN c i):=by
 obtain ⟨p,⟨r,hr,hf⟩,hl⟩:=zu0 hc h;have hg:=zey hc (h.lt hc) (.inr ho);exact hr.spawn hf ⟨i,h.lt hc,hl,ho,hg.1⟩ hg.2
structure RunI (c:DCode) (s:DState):Prop where
 met:∀ l∈s.stacks,∀ x∈l,MetP c x.toNat
 may:∀ t l:Nat,l<s.owner.length→ow s l=t→0≤zcH s t→MayP c (zcH s t).toNat l
theorem zmo {v o:List Int} {ss:List (List Int)} {t:Nat} {L:List Int} (h:t<ss.length):zcH ⟨v,o,ss.set t L⟩ t=L.getLastD (-1):=by
 unfold zcH;rw [dif_pos ⟨by omega,by simpa using h⟩];simp
theorem zvB {l:List Int} {i:Nat} (h:i<l.length):st l i∈l:=by rw [←zeJ h];exact List.getElem_mem h
theorem RunI.at {c:DCode} {s:DState} (h:RunI c s) {t:Nat} (ha:0≤zcH s t):MetP c (zcH s t).toNat:=by
 obtain ⟨h0,h1⟩:=zev ha;rw [zlR h0 h1] at ha ⊢;have hne:stk s t≠[]:=λe=>by rw [e] at ha;simp [List.getLastD] at ha
 rw [zoP hne];have hl:=List.length_pos_iff.2 hne;exact h.met (stk s t) (by rw [←zdK h1];exact List.getElem_mem _) _ (zvB (by omega))
theorem ztG {c:DCode} (hc:CodeR c):RunI c (zeK c) where
 met l hl x hx:=by
   simp only [zeK,List.mem_cons,List.not_mem_nil,or_false] at hl;subst hl;simp only [List.mem_cons,List.not_mem_nil,or_false] at hx;subst hx;exact MetP.root RootP.main
 may t l hl ho _:=by
   exfalso
   have:ow (zeK c) l=-1:=by
     rw [←zsH hl];simp [zeK]
   omega
theorem zu1 {c:DCode} {s:DState} {t:Int} (ha:0≤zcH s t) (h4:¬(atI c s t).op=4) (h9:¬(atI c s t).op=9) (hto:(atI c s t).op=2∨(atI c s t).op=3→0≤(atI c s t).to):(zcx c s t).toNat∈zaO c (zcH s t).toNat:=by
 have e1:(zcH s t+1).toNat=(zcH s t).toNat+1:=by omega
 have e2:((zcH s t).toNat:Int)=zcH s t:=Int.toNat_of_nonneg ha;unfold zcx zaO;unfold atI at *;rw [if_neg h9,e2];by_cases h2:(zan c (zcH s t).toNat).op=2
 · have ht:=hto (.inl h2)
   rw [if_pos h2,if_neg (by omega)];by_cases hne:(zan c (zcH s t).toNat).to=zcH s t+1
   · rw [if_neg (λh=>h.2 hne)]
     split
     · rw [hne,e1];simp
     rw [e1];simp
   rw [if_pos ⟨h2,hne⟩];split
   · simp
   rw [e1];simp
 rw [if_neg h2];by_cases h3:(zan c (zcH s t).toNat).op=3
 · rw [if_pos h3,if_pos h3];simp
 rw [if_neg h3,if_neg h3,if_neg (λh=>h2 h.1),e1];simp
theorem ztH {c:DCode} {i:Nat} (h:(zan c i).op=4):i+1∈zaO c i:=by
 unfold zaO;rw [if_neg (by omega),if_neg (by omega),if_neg (by omega)];simp
theorem zxm {c:DCode} (hc:CodeR c) {i p:Nat} (hi:i<c.ins.length) (ho:(zan c i).op=9) (hp:zaH c i=(p:Int)) (hpl:p<c.procs.length):i=zN c p:=by
 have h5:=(hc.2.1.2.2.2 i hi).1 ho;rw [hp] at h5;have:=(ziC hc hpl).2.1;omega
theorem zko {l:List Int} {x d:Int}:(l++[x]).getLastD d=x:=by simp [List.getLastD_eq_getLast?]
theorem zf0 {l:List Int} {x d:Int} (h:l≠[]):(l.set (l.length-1) x).getLastD d=x:=by
 have hl:=List.length_pos_iff.2 h;rw [List.getLastD_eq_getLast?,List.getLast?_eq_getElem?,List.length_set,List.getElem?_set,if_pos rfl,if_pos (by omega)];rfl
theorem zn0 {o:List Int} {v:List Int} {ss:List (List Int)} {a l:Nat} {x:Int} (ha:a<o.length):ow ⟨v,o.set a x,ss⟩ l=if l=a then x else o.getD l 0:=by
 unfold ow;simp only [Int.toNat_natCast];rw [List.getD_eq_getElem?_getD,List.getElem?_set];by_cases h:a=l
 · subst h;rw [if_pos rfl,if_pos rfl,if_pos ha];rfl
 rw [if_neg h,if_neg (λe=>h e.symm),List.getD_eq_getElem?_getD]
theorem zlc {c:DCode} {s:DState} {t:Int} (hc:CodeR c) (hs:zaF c s) (hgo:GoR c s t) {l u:Nat} (hl:l<s.owner.length) (h:ow (zch c s t) l=u) :
   (ow s l=u∧¬((atI c s t).op=7∧(atI c s t).arg=l∧(u:Int)=t))∨((atI c s t).op=6∧(atI c s t).arg=l∧(u:Int)=t):=by
 have hsame:ow s l=u→¬(atI c s t).op=7→(ow s l=u∧¬((atI c s t).op=7∧(atI c s t).arg=l∧(u:Int)=t))∨((atI c s t).op=6∧(atI c s t).arg=l∧(u:Int)=t):=λh1 h2=>.inl ⟨h1,λh3=>h2 h3.1⟩;unfold zch at h;split at h
 · rename_i h4;exact hsame h (by omega)
 split at h
 · rename_i h9;exact hsame h (by omega)
 have h:ow (zaN c s t) l=u:=h;unfold zaN at h;split at h
 · rename_i h1;exact hsame h (by omega)
 split at h
 · rename_i h5
   split at h
   · exact hsame h (by omega)
   exact hsame h (by omega)
 split at h
 · rename_i h6
   have hg:=zdN hc hs hgo.1 (.inl h6);rw [zn0 hg.2] at h;split at h
   · rename_i e
     exact .inr ⟨h6,by omega,h.symm⟩
   exact hsame (by unfold ow;rw [Int.toNat_natCast];exact h) (by omega)
 split at h
 · rename_i h7
   have hg:=zdN hc hs hgo.1 (.inr h7);split at h
   · rename_i hot
     rw [zn0 hg.2] at h;split at h
     · omega
     rename_i hne
     exact .inl ⟨by unfold ow;rw [Int.toNat_natCast];exact h,λh3=>hne (by omega)⟩
   rename_i hot
   refine .inl ⟨h,λh3=>hot ?_⟩;have:ow s (atI c s t).arg=u:=by rw [h3.2.1];exact h
   omega
 rename_i h1 h5 h6 h7
 exact hsame h h7
theorem zu2 {c:DCode} {s:DState} {t:Int} (hc:CodeR c) (hs:zaF c s) (hgo:GoR c s t) (hI:RunI c s):RunI c (zch c s t):=by
 obtain ⟨tn,rfl,htn,hne,hl8,hat⟩:=ziY hs hgo.1;have hpos:=List.length_pos_iff.2 hne;have hk:=hs.2.2.2.2.2 (stk s tn) (by rw [←zdK (by omega)];exact List.getElem_mem _);have hlt:=zlS hs tn;have hat0:=hgo.1;have hmet:=hI.at hat0;have hmem:stk s tn∈s.stacks:=by rw [←zdK (t:=(tn:Int)) (by simpa using htn)];exact List.getElem_mem _
 have hil:(zcH s tn).toNat<c.ins.length:=by omega
 have hown:(zch c s tn).owner.length=s.owner.length:=by rw [(zkZ hc hs hgo).2.1,hs.2.1]
 -- the others
 have hoth:∀ (u l:Nat),u≠tn→l<s.owner.length→ow (zch c s tn) l=u→0≤zcH (zch c s tn) u→MayP c (zcH (zch c s tn) u).toNat l:=λu l hu hl ho ha=>by
   rcases zlc hc hs hgo hl ho with ⟨h1,_⟩ | ⟨_,_,h3⟩
   · have hul:u<s.stacks.length:=by
       have:=(zlT hs (i:=(l:Int)) (by omega) (by simpa using hl)).2;omega
     rw [zwt (by omega) hul (by omega)] at ha ⊢;exact hI.may u l hl h1 ha
   omega
 by_cases h4:(atI c s tn).op=4
 · have e:zch c s tn=⟨s.vars,s.owner,s.stacks.set tn (stk s tn++[en c (atI c s tn).arg.toNat])⟩:=by unfold zch;rw [if_pos h4,Int.toNat_natCast]
   have hen:(en c (atI c s tn).arg.toNat).toNat=eN c (agN c (zcH s tn).toNat):=rfl;refine ⟨λl hl x hx=>?_,λu l hl ho ha=>?_⟩
   · rw [e] at hl
     rcases zdW hl with rfl | hl
     · rcases List.mem_append.1 hx with hx | hx
       · exact hI.met _ hmem x hx
       simp only [List.mem_cons,List.not_mem_nil,or_false] at hx;rw [hx,hen];exact .call hmet h4
     exact hI.met l hl x hx
   rw [hown] at hl;by_cases hu:u=tn
   · subst hu
     have ho1:ow s l=u:=by rw [e] at ho;exact ho
     have:=hI.may u l hl ho1 hat0;rw [e,zmo htn,zko,hen];exact .call hmet h4 this
   exact hoth u l hu hl ho ha
 by_cases h9:(atI c s tn).op=9
 · have e:zch c s tn=⟨s.vars,s.owner,s.stacks.set tn (zfg (stk s tn))⟩:=by unfold zch;rw [if_neg h4,if_pos h9,Int.toNat_natCast]
   by_cases h1:(stk s tn).length-1=0
   · have ep:zfg (stk s tn)=[]:=by unfold zfg;rw [if_pos h1]
     rw [ep] at e;refine ⟨λl hl x hx=>?_,λu l hl ho ha=>?_⟩
     · rw [e] at hl
       rcases zdW hl with rfl | hl
       · cases hx
       exact hI.met l hl x hx
     rw [hown] at hl;by_cases hu:u=tn
     · subst hu
       rw [e,zmo htn] at ha;simp [List.getLastD] at ha
     exact hoth u l hu hl ho ha
   have ep:zfg (stk s tn)=((stk s tn).take ((stk s tn).length-1)).set ((stk s tn).length-2) (st (stk s tn) ((stk s tn).length-2)+1):=by unfold zfg;rw [if_neg h1]
   have h2:=hk.2.2 ((stk s tn).length-2) (by omega);have h3:=hk.2.1 ((stk s tn).length-2) (by omega);have hcm:MetP c (st (stk s tn) ((stk s tn).length-2)).toNat:=hI.met _ hmem _ (zvB (by omega));obtain ⟨b,hb⟩:∃ b:Nat,st (stk s tn) ((stk s tn).length-2)=b:=⟨_,(Int.toNat_of_nonneg h3.1).symm⟩;rw [hb] at ep h2 h3 hcm;simp only [Int.toNat_natCast] at h2 hcm;have hg:=zey hc (hcm.lt hc) (.inl h2.1)
   have hz:(zcH s tn).toNat=zN c (agN c b):=by
     refine zxm hc hil h9 ?_ hg.2;have h5:=h2.2;rw [show (stk s tn).length-2+1=(stk s tn).length-1 by omega,←hat,hg.1] at h5;rw [Int.toNat_of_nonneg hat0];exact h5
   have hlast:(zfg (stk s tn)).getLastD (-1)=(b:Int)+1:=by
     rw [ep];have hl':((stk s tn).take ((stk s tn).length-1)).length=(stk s tn).length-1:=by rw [List.length_take];omega
     have h6:(stk s tn).length-2=((stk s tn).take ((stk s tn).length-1)).length-1:=by omega
     rw [h6];exact zf0 (λe=>by rw [e] at hl';simp at hl';omega)
   have hb1:((b:Int)+1).toNat=b+1:=by omega
   have hnx:=ztH (c:=c) h2.1;refine ⟨λl hl x hx=>?_,λu l hl ho ha=>?_⟩
   · rw [e] at hl
     rcases zdW hl with rfl | hl
     · rw [ep] at hx
       rcases zdW hx with rfl | hx
       · rw [hb1]
         exact .back hcm h2.1 (hz▸hmet) hnx
       exact hI.met _ hmem x (List.mem_of_mem_take hx)
     exact hI.met l hl x hx
   rw [hown] at hl;by_cases hu:u=tn
   · subst hu
     have ho1:ow s l=u:=by rw [e] at ho;exact ho
     have:=hI.may u l hl ho1 hat0;rw [e,zmo htn,hlast,hb1];rw [hz] at this hmet;exact .back hcm h2.1 hmet this hnx
   exact hoth u l hu hl ho ha
 have e:zch c s tn=⟨(zaN c s tn).vars,(zaN c s tn).owner,(zaN c s tn).stacks.set tn ((stk s tn).set ((stk s tn).length-1) (zcx c s tn))⟩:=by unfold zch;rw [if_neg h4,if_neg h9,Int.toNat_natCast]
 have hnx:=zu1 (c:=c) hat0 h4 h9 λh=>(zic hc hat0 hlt.2 h).1;have hrl:=(zhE c s tn).1;refine ⟨λl hl x hx=>?_,λu l hl ho ha=>?_⟩
 · rw [e] at hl
   rcases zdW hl with rfl | hl
   · rcases zdW hx with rfl | hx
     · exact .next hmet h4 hnx
     exact hI.met _ hmem x hx
   by_cases h5:(atI c s tn).op=5∧s.stacks.length<6
   · have er:(zaN c s tn).stacks=s.stacks++[[en c (atI c s tn).arg.toNat]]:=by
       unfold zaN;rw [if_neg (by omega),if_pos h5.1,if_pos h5.2]
     rw [er] at hl;rcases List.mem_append.1 hl with hl | hl
     · exact hI.met l hl x hx
     simp only [List.mem_cons,List.not_mem_nil,or_false] at hl;subst hl;simp only [List.mem_cons,List.not_mem_nil,or_false] at hx;subst hx;exact .root (ztF hc hmet h5.1)
   have er:(zaN c s tn).stacks=s.stacks:=by
     unfold zaN;split
     · rfl
     split
     · rename_i h6
       rw [if_neg (λh7=>h5 ⟨h6,h7⟩)]
     split
     · rfl
     split
     · split<;>rfl
     rfl
   rw [er] at hl;exact hI.met l hl x hx
 rw [hown] at hl;by_cases hu:u=tn
 · subst hu
   have ha2:zcH (zch c s u) u=zcx c s u:=by
     rw [e,zmo (by omega)];exact zf0 hne
   rw [ha2];rcases zlc hc hs hgo hl ho with ⟨h1,h2⟩ | ⟨h1,h2,_⟩
   · refine .pass hmet h4 (λh7=>h2 ⟨h7.1,?_,rfl⟩) (hI.may u l hl h1 hat0) hnx
     have:=zdz hc hil (.inr h7.1);have h8:(atI c s u).arg=(agN c (zcH s u).toNat:Int):=this.1;omega
   refine .lock hmet h1 ?_ hnx;have:=zdz hc hil (.inl h1);have h8:(atI c s u).arg=(agN c (zcH s u).toNat:Int):=this.1;omega
 exact hoth u l hu hl ho ha
theorem zqo {c:DCode} {s:DState} (hc:CodeR c) (hs:zaF c s) (hI:RunI c s) {h:Nat} (hh:h<s.owner.length) {u:Int} (ho:ow s h=u) (hw:0≤zbc c s u):(zbc c s u).toNat∈nxL c h:=by
 have hw0:=hw;unfold zbc at hw;split at hw
 · rename_i h1
   have e:zbc c s u=(atI c s u).arg:=by unfold zbc;rw [if_pos h1]
   obtain ⟨hu0,_⟩:=zev h1.1;obtain ⟨un,rfl⟩:∃ n:Nat,u=n:=⟨u.toNat,by omega⟩;have hm:=hI.at h1.1;have hmay:=hI.may un h hh ho h1.1;have hg:=zdz hc (hm.lt hc) (.inl h1.2.1);have hg1:(atI c s un).arg=(agN c (zcH s un).toNat:Int):=hg.1;rw [e,hg1,Int.toNat_natCast];exact zbq.2 ⟨hg.2.1,(zcH s un).toNat,hm,h1.2.1,rfl,hmay⟩
 omega
theorem zld {c:DCode} {s:DState} (hc:CodeR c) (hs:zaF c s) (hI:RunI c s) (t:Int):∀ (n m:Nat) (u:Int),zjX c s t n m u≠0→0≤zbc c s u∧∃ x:Nat,(x=(zbc c s u).toNat∨RP (nxL c) (zbc c s u).toNat x)∧x<s.owner.length∧ow s x=t
 | 0,m,u,h=>absurd rfl h
 | n+1,m,u,h=>by
   rw [zjX] at h;split at h
   · exact absurd rfl h
   rename_i hw
   have hw:0≤zbc c s u:=by omega
   have hwl:=(zi2 hc hs u).2.2 hw;refine ⟨hw,?_⟩;have eow:∀ x:Int,0≤x→ow s (x.toNat:Int)=ow s x:=λx hx=>by rw [Int.toNat_of_nonneg hx]
   split at h
   · rename_i h2
     exact ⟨_,.inl rfl,hwl.1,by rw [eow _ hw];exact h2⟩
   obtain ⟨hw2,x,hx,hxl,hxo⟩:=zld hc hs hI t n _ _ h;have harc:=zqo hc hs hI hwl.1 (eow _ hw) hw2;refine ⟨x,.inr ?_,hxl,hxo⟩;rcases hx with rfl | hx
   · exact .one harc
   exact (RP.one harc).trans hx
theorem zwu {c:DCode} {s:DState} (hc:CodeR c) (hs:zaF c s) (hI:RunI c s) (h0:zeN c=[]) (t:Int):znm c s t=0:=by
 refine Classical.byContradiction λhn=>?_;obtain ⟨hw,x,hx,hxl,hxo⟩:=zld hc hs hI t _ _ _ hn;have harc:=zqo hc hs hI hxl hxo hw
 have hcyc:RP (nxL c) (zbc c s t).toNat (zbc c s t).toNat:=by
   rcases hx with rfl | hx
   · exact .one harc
   exact RP.trans hx (.one harc)
 have hlt:=(zi2 hc hs t).2.1;have hm:=zuZ (c:=c) (i:=(zbc c s t).toNat) (by omega);unfold zwk at hm;obtain ⟨p,hp,hfp⟩:=List.mem_flatten.1 hm;have:p∈zeN c:=zk7.2 ⟨hp,_,hfp,hcyc⟩;rw [h0] at this;cases this
theorem zgp {l:List Int} {t:Int} {i:Nat}:∀ {k:Nat},(zeP l t k).testBit i=true→l[i]?=some t
 | 0,h=>by simp [zeP] at h
 | k+1,h=>by
   rw [zeP] at h;split at h
   · rename_i hk
     rw [Nat.testBit_or,Bool.or_eq_true,Nat.testBit_two_pow] at h;rcases h with h | h
     · exact zgp h
     have:k=i:=by simpa using h
     subst this;exact hk.2
   exact zgp h
theorem zrv {s:DState} {t u:Int} (h:t≠u):zgA s t &&& zgA s u=0:=by
 refine Nat.eq_of_testBit_eq λi=>?_;rw [Nat.testBit_and,Nat.zero_testBit];cases h1:(zgA s t).testBit i
 · rfl
 cases h2:(zgA s u).testBit i
 · rfl
 exfalso;unfold zgA at h1 h2;split at h1
 · simp at h1
 split at h2
 · simp at h2
 have e1:=zgp h1;have e2:=zgp h2;rw [e1] at e2;exact h (Option.some.inj e2)
def F86 (a0:Value) (w:World) (R:VW):Prop:=
 oX 28 a0 w λx1 w=>
 oP (Instr.buildSlice 68 0 #[]) w λx7 w=>
 rL 28 x1 w λx8=>
 cL 155 [x8] w λx9 w=>
 LOOPI [3,5] [x7,(iV 0)] w λu4 w n4=>
 rN 70 3 x9 w λx12=>
 rC (u4 5) x12 w λx13=>
 BR x13
 ((λw=>rX 70 x9 (u4 5) w λx18=>
 rF 110 x18 0 w λx19=>
 rL 3 x19 w λx20=>
 rX 70 x9 (u4 5) w λx23=>
 rF 110 x23 1 w λx24=>
 rL 3 x24 w λx25=>
 rD (Instr.build 112 #[(0,x20),(1,x25)]) w λx26=>
 (λw_=>oP (aL 112) w_ λx6 w=>
 Ext w_ w ∧
 (oS 112 x6 x26 w λw=>
 (λw=>rN 68 3 (u4 3) w λx28=>
 rQ x28 (iV 0) w λx29=>
 BR x29
 (rL 112 x6 w λx41=>
 oP (bS 68 x41) w λx42 w=>
 oP (aP 68 (u4 3) x42) w λx43 w=>
 rI (u4 5) w λx15=>
 n4 [x43,x15] w)
 (rN 68 3 (u4 3) w λx33=>
 rB .sub 3 T0 U0 x33 (iV 1) w λx34=>
 rX 68 (u4 3) x34 w λx35=>
 rL 112 x35 w λx36=>
 rL 112 x6 w λx37=>
 rB .neq 112 T0 T0 x36 x37 w λx38=>
 BR x38
 (rL 112 x6 w λx41=>
 oP (bS 68 x41) w λx42 w=>
 oP (aP 68 (u4 3) x42) w λx43 w=>
 rI (u4 5) w λx15=>
 n4 [x43,x15] w)
 (rI (u4 5) w λx15=>
 n4 [(u4 3),x15] w))) (World.drew1 w))) w) (World.drew1 w))
 (R (u4 3) w)
theorem F86_call {a0 w R} (h:F86 a0 w R):cL 86 [a0] w R:=co (g:=(kf [] [(4,17592186043496,[3,5])] [(6,[0,1,2,3,4,5,6,7,8,9,10,11,12],2048),(7,[0,1,2,3,4,5,6,7,8,9,10,11,12],0)])) Tryz.func86 h
def F42 (a0:Value) (w:World) (R:VW):Prop:=
 oX 28 a0 w λx1 w=>
 rL 28 x1 w λx8=>
 cL 86 [x8] w λx9 w=>
 rF 28 x1 1 w λx10=>
 rL 24 x10 w λx11=>
 rN 24 3 x11 w λx12=>
 cL 87 [x12,x9] w λx14 w=>
 oP (Instr.buildSlice 33 0 #[]) w λx15 w=>
 LOOPI [5,6] [x15,(iV 0)] w λu5 w n5=>
 rF 28 x1 1 w λx17=>
 rL 24 x17 w λx18=>
 rN 24 3 x18 w λx19=>
 rC (u5 6) x19 w λx20=>
 BR x20
 (LOOPI [5,7] [(u5 5),(iV 0)] w λu8 w n8=>
 rN 33 3 x14 w λx25=>
 rC (u8 7) x25 w λx26=>
 BR x26
 ((λw=>rX 33 x14 (u8 7) w λx31=>
 rL 25 x31 w λx32=>
 rX 25 x32 (iV 0) w λx33=>
 rL 3 x33 w λx34=>
 rB .eql 3 T0 T0 x34 (u5 6) w λx36=>
 BR x36
 (rF 28 x1 1 w λx38=>
 rL 24 x38 w λx39=>
 rN 24 3 x39 w λx40=>
 rX 33 x14 (u8 7) w λx44=>
 rL 25 x44 w λx45=>
 cL 88 [x40,x9,x45] w λx46 w=>
 BR x46
 (oP (Instr.buildSlice 25 0 #[]) w λx49 w=>
 rX 33 x14 (u8 7) w λx52=>
 rL 25 x52 w λx53=>
 oP (aP 25 x49 x53) w λx54 w=>
 oP (bS 33 x54) w λx55 w=>
 oP (aP 33 (u8 5) x55) w λx56 w=>
 rI (u8 7) w λx28=>
 n8 [x56,x28] w)
 (rI (u8 7) w λx28=>
 n8 [(u8 5),x28] w))
 (rI (u8 7) w λx28=>
 n8 [(u8 5),x28] w)) (World.drew1 w))
 (rI (u5 6) w λx22=>
 n5 [(u8 5),x22] w))
 (R (u5 5) w)
theorem F42_call {a0 w R} (h:F42 a0 w R):cL 42 [a0] w R:=co (g:=(kf [] [(5,144115188075790560,[5,6]),(8,144115188067467424,[5,7])] [(10,[0,1,2,3,4,5,6,7,8,9,10,11,12,13,14,15,16,17,18],0)])) Tryz.func42 h
def F9 (a0:Value) (w:World) (R:VW):Prop:=
 oX 28 a0 w λx1 w=>
 rL 28 x1 w λx3=>
 cL 41 [x3] w λx4 w=>
 rT x4 w λx5=>
 BR x5
 (oP (Instr.buildSlice 33 0 #[]) w λx6 w=>
 R x6 w)
 (rL 28 x1 w λx7=>
 cL 42 [x7] w λx8 w=>
 R x8 w)
theorem F9_call {a0 w R} (h:F9 a0 w R):cL 9 [a0] w R:=co (g:=(kf [] [] [])) Tryz.func9 h
open Rep (rep)
theorem zrw {w W0:World} {v0:Value} {c:DCode} (h0:Is W0 v0 c) (e0:Ext W0 w) (hc:CodeR c) :
   CALL tp 86 [v0] w λr w'=>Ext w w'∧∃ A,AInv (zec c) A∧Own w.heap.size w' r A:=by
 refine F86_call ?_;unfold F86;have hol:=zqa hc;have h6l:=hc.1.locks6;refine zcb h0 e0 λw1 hx1 hA=>?_;refine zaQ (α:=DArc) u68 zdU λa8 w2 hx2 hr2=>?_;refine zab zcv hA hx2 λv8 h8=>?_;refine (ztr h8 hx2 hc).mono ?_;rintro v9 w3 ⟨hx3,ho3⟩;have h9:=ho3.is;have hx13:=(hx1.t hx2).trans hx3;have hs13:=hx13.size;refine zat (zec c).length (λk us w'=>∃ out A,us=[out,.int .i64 (k:Int)]∧k≤(zec c).length∧Ext w3 w'∧RowI w3.heap.size w'.heap.size 112 w' out A∧AInv ((zec c).take k) A) 0 (z0 _) ⟨_,[],rfl,z0 _,Ext.refl _,zcw _ _ _ _ _,by rw [List.take_zero];exact AInv.start⟩ ?_;rintro k mk q w4 hkm ⟨out,A,hq,hkl,hx4,hr4,hI⟩;obtain ⟨hq1,hq2⟩:=zd4 hq;rw [hq1,hq2];have hs4:=hx4.size;refine zae u70 h9 ?_;refine zaf ?_;refine br (λhlt=>?_) (λhge=>?_)
 case refine_2=>
   have hke:k=(zec c).length:=by omega
   rw [hke,List.take_length] at hI;exact ⟨hx13.t hx4,A,hI,hr4.own.own.mono hs13⟩
 have hk:k<(zec c).length:=by omega
 have hso:((zec c).take k++[(zec c)[k]]).Pairwise ltO:=by
   rw [←tk hk];exact (zo6 c).sublist (List.take_sublist _ _)
 have hlenA:=zl7 h6l hI.pw (hI.rng hc);have hxd:=zai w4;generalize World.drew1 w4=w5 at *;have e5:=hx4.t hxd;refine zad u70 zmJ h9 hk λb3 o3 hA3=>?_;refine zaa zlr ?_;refine zac ty3 (zj6 hA3) e5 λhI0=>?_;refine zad u70 zmJ h9 hk λb4 o4 hA4=>?_;refine zaa zls ?_;refine zac ty3 (zj7 hA4) e5 λhI1=>?_;refine zaX (cells:=#[.int .i64 (zec c)[k].fr,.int .i64 (zec c)[k].to]) (by kernel_rfl) ?_;have hIs:Is w5 (.agg #[.int .i64 (zec c)[k].fr,.int .i64 (zec c)[k].to]) (zgs (zec c)[k]):=zlb.2 ⟨rfl,hI0,hI1⟩;refine zoe zt6 rfl zdU rfl hIs (Ext.refl _) λw6 hx6 hAt6 hV6=>?_;have hxd2:=zai w6;generalize World.drew1 w6=w7 at *;have hr7:=((hr4.ext hxd).ext hx6).ext hxd2;have hx47:=(hxd.t hx6).trans hxd2;have hs47:=hx47.size
 have hpush:zgs (zec c)[k]∉A→RD tp (Instr.loadAt 112 (.pointer (some ⟨w5.heap.size,0,none⟩))) w7 λx41=>OP tp (Instr.buildSlice 68 1 #[(0,x41)]) w7 λx42 w=>OP tp (Builtin.append_ #[68,68] 68 [out,x42].toArray) w λx43 w=>RD tp (bin .add 3 (.tmp 0) (.const undef) (.int .i64 (k:Int)) (.int .i64 1)) w λx15=>∃ m',m'<mk∧∃ k',k'+m'=(zec c).length∧∃ out A,[x43,x15]=[out,.int .i64 (k':Int)]∧k'≤(zec c).length∧Ext w3 w∧RowI w3.heap.size w.heap.size 112 w out A∧AInv ((zec c).take k') A:=λhno=>by
   refine zab zdU hAt6 hxd2 λv23 h23=>?_;refine zcn (lo2:=w7.heap.size) (hi2:=w7.heap.size) (x:=zgs (zec c)[k]) u68 zdU zxU zw1 (by decide) hr7 (by omega) (zi4 (h23.ext hxd2)) (by omega) (by omega) (by rw [zak];omega) (by omega) λv' w9 hc9 hr9=>?_;refine zaB ?_;refine ⟨mk-1,by omega,k+1,by omega,v',A++[zgs (zec c)[k]],rfl,by omega,(hx4.t hx47).chgI hc9 (lr _),hr9,?_⟩;rw [tk hk];exact hI.new hso hno
 refine zae u68 hr7.is ?_;refine zag ?_;refine br (λh0=>?_) (λhn0=>?_)
 · have:A=[]:=List.eq_nil_of_length_eq_zero (by omega)
   exact hpush (by rw [this];simp)
 have hlast:=hI.last hso (by omega);refine zae u68 hr7.is ?_;refine za0 (by unfold I64;omega) ?_;rw [show ((A.length:Int)-1)=((A.length-1:Nat):Int) by omega];refine zad (i:=A.length-1) u68 zdU hr7.is (by omega) λb8 o8 hA8=>?_;refine zab zdU hA8 (Ext.refl _) λv36 h36=>?_;refine zab zdU hAt6 hxd2 λv37 h37=>?_;refine zrq h36 h37 ?_;refine br (λhne=>?_) (λheq=>?_)
 · exact hpush λh=>hne (hlast.2 h)
 have hyes:=hlast.1 (Decidable.not_not.1 heq);refine zaB ?_;refine ⟨mk-1,by omega,k+1,by omega,out,A,rfl,by omega,hx4.t hx47,hr7.mono (lr _) hs47,?_⟩;rw [tk hk];exact hI.old hyes
open Classical in
noncomputable def zkp (c:DCode) (n:Nat):List (List Nat):=(List.range n).flatMap λn=>(zbd c).filter λp=>decide (p.head?=some n∧zqd (nxL c) p)
open Classical in
noncomputable def zfC (c:DCode) (n k:Nat):List (List Nat):=((zbd c).take k).filter λp=>decide (p.head?=some n∧zqd (nxL c) p)
theorem zph (c:DCode) (n:Nat):zkp c (n+1)=zkp c n++zfC c n (zbd c).length:=by
 unfold zkp zfC;rw [List.range_succ,List.flatMap_append,List.take_length];simp
theorem zrx {c:DCode} {n k:Nat} (hk:k<(zbd c).length) (h:(zbd c)[k].head?=some n∧zqd (nxL c) (zbd c)[k]):zfC c n (k+1)=zfC c n k++[(zbd c)[k]]:=by
 unfold zfC;rw [tk hk,List.filter_append];simp [h]
theorem ztI {c:DCode} {n k:Nat} (hk:k<(zbd c).length) (h:¬((zbd c)[k].head?=some n∧zqd (nxL c) (zbd c)[k])):zfC c n (k+1)=zfC c n k:=by
 unfold zfC;rw [tk hk,List.filter_append];simp [h]
theorem zry (c:DCode) (n k:Nat):(zfC c n k).length≤k:=Nat.le_trans (List.length_filter_le _ _) (by rw [List.length_take];omega)
open Classical in
theorem zrz {c:DCode} (hc:CodeR c) (n:Nat):(zkp c n).length≤n*6:=by
 have h6:=hc.1.locks6;have hll:=zfY c;have:=zih (l:=List.range n) (B:=6) (f:=λn=>(zbd c).filter λp=>decide (p.head?=some n∧zqd (nxL c) p)) λa _=>Nat.le_trans (List.length_filter_le _ _) (by omega);rw [List.length_range] at this;exact this
theorem zn1 {w W0:World} {v0:Value} {c:DCode} (h0:Is W0 v0 c) (e0:Ext W0 w) (hc:CodeR c) :
   CALL tp 42 [v0] w λr w'=>Ext w w'∧Own w.heap.size w' r ((zeN c).map za9):=by
 refine F42_call ?_;unfold F42;have h6l:=hc.1.locks6;refine zcb h0 e0 λw1 hx1 hA=>?_;refine zab zcv hA (Ext.refl _) λv8 h8=>?_;refine (zrw h8 (Ext.refl _) hc).mono ?_;rintro v9 w2 ⟨hx2,A,hAI,ho2⟩;obtain ⟨hAr,hAl⟩:=zmk hc hAI;refine zaa zdD ?_;refine zab zc0 (zba hA) hx2 λv11 h11=>?_;refine zae u24 h11 ?_;refine (zrr ho2.is (Ext.refl _) (by omega) hAr hAl).mono ?_;rintro v14 w3 ⟨hx3,ho3⟩;rw [zhz hc hAI] at ho3;change Own w2.heap.size w3 v14 ((zbd c).map za9) at ho3;have hx13:=(hx1.t hx2).trans hx3;have hs13:=hx13.size;have hll:=zfY c;refine zaQ (α:=List Int) u33 zaK λa9 w4 hx4 hr4=>?_;refine zat c.locks.length (λn us w'=>∃ out,us=[out,.int .i64 (n:Int)]∧n≤c.locks.length∧Ext w3 w'∧RowI w3.heap.size w'.heap.size 25 w' out ((zkp c n).map za9)) 0 (z0 _) ⟨_,rfl,z0 _,hx4,zcw _ _ _ _ _⟩ ?_;rintro n mn q w5 hnm ⟨out,hq,hnl,hx5,hr5⟩;obtain ⟨hq1,hq2⟩:=zd4 hq;rw [hq1,hq2];refine zaa zdD ?_;refine zab zc0 (zba hA) ((hx2.t hx3).trans hx5) λv18 h18=>?_;refine zae u24 h18 ?_;refine zaf ?_;refine br (λhlt=>?_) (λhge=>?_)
 case refine_2=>
   have hne:n=c.locks.length:=by omega
   rw [hne] at hr5;exact ⟨hx13.t hx5,hr5.own.own.mono hs13⟩
 have hn:n<c.locks.length:=by omega
 have hKl:=zrz hc n;refine zat (zbd c).length (λk us w'=>∃ out,us=[out,.int .i64 (k:Int)]∧k≤(zbd c).length∧Ext w3 w'∧RowI w3.heap.size w'.heap.size 25 w' out ((zkp c n++zfC c n k).map za9)) 0 (z0 _) ⟨_,rfl,z0 _,hx5,by simpa [zfC] using hr5⟩ ?_;rintro k mk q8 w6 hkm ⟨out8,hq8,hkl,hx6,hr6⟩;obtain ⟨hq81,hq82⟩:=zd4 hq8;rw [hq81,hq82];have hIl:=zry c n k;refine zae u33 ho3.is ?_;rw [List.length_map];refine zaf ?_;refine br (λhlt6=>?_) (λhge6=>?_)
 case refine_2=>
   have hke:k=(zbd c).length:=by omega
   rw [hke,←zph] at hr6;refine zaB ?_;exact ⟨mn-1,by omega,n+1,by omega,out8,rfl,by omega,hx6,hr6⟩
 have hk:k<(zbd c).length:=by omega
 obtain ⟨hpl,hpb⟩:=zfi (List.getElem_mem hk);obtain ⟨hd,hhd,hdm,hdl⟩:=zgo (List.getElem_mem hk);have hkm2:k<((zbd c).map za9).length:=by rw [List.length_map];exact hk
 have hxd:=zai w6;generalize World.drew1 w6=w7 at *;have hx7:=hx6.t hxd;have hr7:=hr6.ext hxd;have hs7:=hxd.size;have hs36:=hx6.size
 have hpos:0<(za9 (zbd c)[k]).length:=by
   rw [zaj];exact List.length_pos_of_mem hdm
 have hg0:(za9 (zbd c)[k])[0]'hpos=(hd:Int):=by
   rw [←zo7 (List.ne_nil_of_length_pos hpos)];exact zeO hhd
 have hnext:¬((zbd c)[k].head?=some n∧zqd (nxL c) (zbd c)[k])→∀ w8,Ext w7 w8→∃ m',m'<mk∧∃ k',k'+m'=(zbd c).length∧∃ out,[out8,Value.int .i64 ((k+1:Nat):Int)]=[out,.int .i64 (k':Int)]∧k'≤(zbd c).length∧Ext w3 w8∧RowI w3.heap.size w8.heap.size 25 w8 out ((zkp c n++zfC c n k').map za9):=λh w8 hx8=>
   ⟨mk-1,by omega,k+1,by omega,out8,rfl,by omega,hx7.t hx8,by rw [ztI hk h];exact (hr7.ext hx8).mono (lr _) (by have:=hx8.size;omega)⟩
 refine zad (i:=k) u33 zaK ho3.is hkm2 λb3 o3 hA3=>?_;rw [List.getElem_map] at hA3;refine zab zaK hA3 hx7 λv32 h32=>?_;refine zad (i:=0) u25 ty3 h32 hpos λb4 o4 hA4=>?_;rw [hg0] at hA4;refine zac ty3 hA4 hx7 λ_=>?_;refine zag ?_;refine br (λheq=>?_) (λhne=>?_)
 case refine_2=>refine zaB ?_;refine hnext (λh=>hne ?_) _ (Ext.refl _);rw [hhd] at h;have:=Option.some.inj h.1;omega
 have hdn:hd=n:=by omega
 rw [hdn] at hhd;refine zaa zdD ?_;refine zab zc0 (zba hA) ((hx2.t hx3).trans hx7) λv39 h39=>?_;refine zae u24 h39 ?_;refine zad (i:=k) u33 zaK ho3.is hkm2 λb5 o5 hA5=>?_;rw [List.getElem_map] at hA5;refine zab zaK hA5 hx7 λv45 h45=>?_;refine (zmj ho2.is (hx3.t hx7) h45 hx7 (by omega) hAr hAl hpb (by omega)).mono ?_;rintro _ w8 ⟨hx8,bb,rfl,hbb⟩;rw [zhz hc hAI] at hbb;refine zcd (λhy=>?_) (λhno=>?_)
 case refine_2=>refine zaB ?_;exact hnext (λh=>by rw [hbb.2 h.2] at hno;cases hno) _ hx8
 have hcy:=hbb.1 hy;have hs8:=hx8.size;refine zaQ (α:=Int) u25 ty3 λa10 w9 hx9 hr9=>?_;have hs9:=hx9.size;have hx39:=(hx7.t hx8).trans hx9;refine zad (i:=k) u33 zaK ho3.is hkm2 λb6 o6 hA6=>?_;rw [List.getElem_map] at hA6;refine zab zaK hA6 hx39 λv53 h53=>?_;refine zhP u25 ty3 zc3 hr9 (lr _) h53 hx39 (by rw [zaj,zak];simp;omega) (by rw [zaj];simp;omega) λv54 w10 hc10 hr10=>?_;rw [List.nil_append] at hr10;have hs10:=hc10.size;have hr10':=((hr7.ext hx8).ext hx9).chg hc10 (by omega);have hx3x:=hx39.chgI hc10 (by omega);have hsx:=hx3x.size;refine zcn (lo2:=w9.heap.size) (hi2:=w10.heap.size) (x:=za9 (zbd c)[k]) u33 zaK z25 zt5 (by decide) hr10' (by omega) hr10.own (by omega) (by omega) (by rw [List.length_map,List.length_append,zak];omega) (by rw [List.length_map,List.length_append];omega) λv56 w11 hc11 hr11=>?_;refine zaB ?_;refine ⟨mk-1,by omega,k+1,by omega,v56,rfl,by omega,hx3x.chgI hc11 (lr _),?_⟩;rw [zrx hk ⟨hhd,hcy⟩,←List.append_assoc,List.map_append];exact hr11
theorem zkq {w W0:World} {v0:Value} {c:DCode} (h0:Is W0 v0 c) (e0:Ext W0 w) :
   CALL tp 9 [v0] w λr w'=>Ext w w'∧Own w.heap.size w' r (zin c):=by
 refine F9_call ?_;unfold F9;refine zcb h0 e0 λw1 hx1 hA=>?_;refine zab zcv hA (Ext.refl _) λv3 h3=>?_;refine (zfu h3 (Ext.refl _)).mono ?_;rintro _ w2 ⟨hx2,rfl⟩;have hs1:=hx1.size;have hs2:=hx2.size;refine zav ?_;refine br (λhn=>?_) (λhy=>?_)
 · refine zaQ (α:=List Int) u33 zaK λa8 w3 hx3 hr3=>?_
   refine ⟨hx1.t (hx2.t hx3),?_⟩;unfold zin;rw [if_neg hn];exact hr3.own.own.mono (by have:=hx3.size;omega)
 have hc:=Decidable.not_not.1 hy;refine zab zcv hA hx2 λv7 h7=>?_;refine (zn1 h7 hx2 hc).mono ?_;rintro v8 w3 ⟨hx3,ho3⟩;refine ⟨hx1.t (hx2.t hx3),?_⟩;unfold zin;rw [if_pos hc];exact ho3.mono (by omega)
def F3 (a0:Value) (w:World) (R:VW):Prop:=
 cL 5 [a0] w λx16 w=>
 BR x16
 (R vT w)
 (cL 6 [a0] w λx18 w=>
 oP (aL 28) w λx3 w=>
 oS 28 x3 x18 w λw=>
 cL 6 [a0] w λx20 w=>
 oP (aL 28) w λx4 w=>
 oS 28 x4 x20 w λw=>
 cL 7 [a0] w λx22 w=>
 rL 28 x3 w λx24=>
 cL 8 [x24] w λx25 w=>
 rE x25 0 w λx26=>
 rE x25 1 w λx27=>
 rL 28 x4 w λx29=>
 cL 9 [x29] w λx30 w=>
 rN 33 3 x30 w λx31=>
 rQ x31 (iV 0) w λx32=>
 rB .neq 4 T0 T0 x27 x32 w λx33=>
 BR x33
 (R vF w)
 (rL 28 x4 w λx34=>
 cL 10 [x34] w λx35 w=>
 oP (aL 36) w λx8 w=>
 oS 36 x8 x35 w λw=>
 LOOPI [9] [(iV 0)] w λu11 w n11=>
 rN 25 3 x22 w λx38=>
 rC (u11 9) x38 w λx39=>
 BR x39
 (rB .lss 3 T0 U0 (u11 9) (iV 48) w λx42=>
 BR x42
 (LOOPI [10] [(iV 0)] w λu14 w n14=>
 rF 36 x8 2 w λx47=>
 rL 33 x47 w λx48=>
 rN 33 3 x48 w λx49=>
 rC (u14 10) x49 w λx50=>
 BR x50
 (JOIN [] (λJ18=>
 BR x27
 (rL 28 x3 w λx55=>
 rL 36 x8 w λx56=>
 cL 11 [x55,x56,(u14 10)] w λx58 w=>
 rN 25 3 x58 w λx59=>
 rB .gtr 3 T0 U0 x59 (iV 0) w λx60=>
 BR x60
 (R vF w)
 (J18 [] w))
 (J18 [] w)) (λu18 w=>
 LOOPI [11] [(iV 0)] w λu19 w n19=>
 rC (u19 11) (u14 10) w λx64=>
 BR x64
 ((λw=>rL 36 x8 w λx67=>
 rL 36 x8 w λx70=>
 (λw_=>cL 13 [x67,(u14 10)] w_ λx69 w=>
 Ext w_ w ∧
 cL 13 [x70,(u19 11)] w λx72 w=>
 cL 12 [x69,x72] w λx73 w=>
 rB .neq 3 T0 U0 x73 (iV 0) w λx74=>
 BR x74
 (R vF w)
 (rI (u19 11) w λx66=>
 n19 [x66] w)) w) (World.drew1 w))
 (rI (u14 10) w λx52=>
 n14 [x52] w)))
 (rL 28 x4 w λx75=>
 rL 36 x8 w λx76=>
 cL 14 [x75,x76] w λx77 w=>
 rN 25 3 x77 w λx79=>
 rQ x79 (iV 0) w λx80=>
 BR x80
 (rT x27 w λx82=>
 BR x82
 (R vT w)
 (rL 36 x8 w λx84=>
 cL 15 [x84] w λx85 w=>
 BR x85
 (R vT w)
 (rL 28 x3 w λx88=>
 rL 36 x8 w λx89=>
 cL 16 [x88,x89] w λx90 w=>
 R x90 w)))
 ((λw0=>PAR w0 [[(0,93)],[(1,94)],[(2,95)],[(3,96)],[(4,97)],[(5,98),(3,96),(4,97)],[(6,99),(5,98)],[(7,100)],[(8,101),(7,100)],[(9,102),(6,99),(8,101)],[(10,103),(2,95),(9,102)],[(11,104),(10,103)],[(12,105),(0,93),(1,94),(11,104)],[(13,92),(12,105)],[(14,106),(13,92)],[(15,107),(13,92)],[(16,13)]] (λQ=>
 (∀ (u26:Env) (T:Nat→Nat×Nat) (w:World),Ext w0 w→zaL [] w0.heap.size w.heap.size T→(True)→(λw1=>rL 28 x3 w λx93=>
 Ext w1 w∧Q 0 (upd u26 93 x93) (zbS T 0 (w1.heap.size,w.heap.size)) w) w) ∧
 (∀ (u26:Env) (T:Nat→Nat×Nat) (w:World),Ext w0 w→zaL [] w0.heap.size w.heap.size T→(True)→(λw1=>rL 36 x8 w λx94=>
 Ext w1 w∧Q 1 (upd u26 94 x94) (zbS T 1 (w1.heap.size,w.heap.size)) w) w) ∧
 (∀ (u26:Env) (T:Nat→Nat×Nat) (w:World),Ext w0 w→zaL [] w0.heap.size w.heap.size T→(True)→(λw1=>Ext w1 w∧Q 2 (upd u26 95 x77) (zbS T 2 (w1.heap.size,w.heap.size)) w) w) ∧
 (∀ (u26:Env) (T:Nat→Nat×Nat) (w:World),Ext w0 w→zaL [] w0.heap.size w.heap.size T→(True)→(λw1=>Ext w1 w∧Q 3 (upd u26 96 x22) (zbS T 3 (w1.heap.size,w.heap.size)) w) w) ∧
 (∀ (u26:Env) (T:Nat→Nat×Nat) (w:World),Ext w0 w→zaL [] w0.heap.size w.heap.size T→(True)→(λw1=>Ext w1 w∧Q 4 (upd u26 97 (u11 9)) (zbS T 4 (w1.heap.size,w.heap.size)) w) w) ∧
 (∀ (u26:Env) (T:Nat→Nat×Nat) (w:World),Ext w0 w→zaL [3,4] w0.heap.size w.heap.size T→(Q 3 u26 T w∧Q 4 u26 T w∧True)→(λw1=>rX 25 (u26 96) (u26 97) w λx98=>
 Ext w1 w∧Q 5 (upd u26 98 x98) (zbS T 5 (w1.heap.size,w.heap.size)) w) w) ∧
 (∀ (u26:Env) (T:Nat→Nat×Nat) (w:World),Ext w0 w→zaL [5] w0.heap.size w.heap.size T→(Q 5 u26 T w∧True)→(λw1=>rL 3 (u26 98) w λx99=>
 Ext w1 w∧Q 6 (upd u26 99 x99) (zbS T 6 (w1.heap.size,w.heap.size)) w) w) ∧
 (∀ (u26:Env) (T:Nat→Nat×Nat) (w:World),Ext w0 w→zaL [] w0.heap.size w.heap.size T→(True)→(λw1=>Ext w1 w∧Q 7 (upd u26 100 x77) (zbS T 7 (w1.heap.size,w.heap.size)) w) w) ∧
 (∀ (u26:Env) (T:Nat→Nat×Nat) (w:World),Ext w0 w→zaL [7] w0.heap.size w.heap.size T→(Q 7 u26 T w∧True)→(λw1=>rN 25 3 (u26 100) w λx101=>
 Ext w1 w∧Q 8 (upd u26 101 x101) (zbS T 8 (w1.heap.size,w.heap.size)) w) w) ∧
 (∀ (u26:Env) (T:Nat→Nat×Nat) (w:World),Ext w0 w→zaL [6,8] w0.heap.size w.heap.size T→(Q 6 u26 T w∧Q 8 u26 T w∧True)→(λw1=>rB .rem 3 T0 T0 (u26 99) (u26 101) w λx102=>
 Ext w1 w∧Q 9 (upd u26 102 x102) (zbS T 9 (w1.heap.size,w.heap.size)) w) w) ∧
 (∀ (u26:Env) (T:Nat→Nat×Nat) (w:World),Ext w0 w→zaL [2,9] w0.heap.size w.heap.size T→(Q 2 u26 T w∧Q 9 u26 T w∧True)→(λw1=>rX 25 (u26 95) (u26 102) w λx103=>
 Ext w1 w∧Q 10 (upd u26 103 x103) (zbS T 10 (w1.heap.size,w.heap.size)) w) w) ∧
 (∀ (u26:Env) (T:Nat→Nat×Nat) (w:World),Ext w0 w→zaL [10] w0.heap.size w.heap.size T→(Q 10 u26 T w∧True)→(λw1=>rL 3 (u26 103) w λx104=>
 Ext w1 w∧Q 11 (upd u26 104 x104) (zbS T 11 (w1.heap.size,w.heap.size)) w) w) ∧
 (∀ (u26:Env) (T:Nat→Nat×Nat) (w:World),Ext w0 w→zaL [0,1,11] w0.heap.size w.heap.size T→(Q 0 u26 T w∧Q 1 u26 T w∧Q 11 u26 T w∧True)→(λw1=>cL 17 [(u26 93),(u26 94),(u26 104)] w λx105 w=>
 Ext w1 w∧Q 12 (upd u26 105 x105) (zbS T 12 (w1.heap.size,w.heap.size)) w) w) ∧
 (∀ (u26:Env) (T:Nat→Nat×Nat) (w:World),Ext w0 w→zaL [12] w0.heap.size w.heap.size T→(Q 12 u26 T w∧True)→(λw1=>Ext w1 w∧Q 13 (upd u26 92 (u26 105)) (zbS T 13 (w1.heap.size,w.heap.size)) w) w) ∧
 (∀ (u26:Env) (T:Nat→Nat×Nat) (w:World),Ext w0 w→zaL [13] w0.heap.size w.heap.size T→(Q 13 u26 T w∧True)→(λw1=>rE (u26 92) 0 w λx106=>
 Ext w1 w∧Q 14 (upd u26 106 x106) (zbS T 14 (w1.heap.size,w.heap.size)) w) w) ∧
 (∀ (u26:Env) (T:Nat→Nat×Nat) (w:World),Ext w0 w→zaL [13] w0.heap.size w.heap.size T→(Q 13 u26 T w∧True)→(λw1=>rE (u26 92) 1 w λx107=>
 Ext w1 w∧Q 15 (upd u26 107 x107) (zbS T 15 (w1.heap.size,w.heap.size)) w) w) ∧
 (∀ (u26:Env) (T:Nat→Nat×Nat) (w:World),Ext w0 w→zaL [] w0.heap.size w.heap.size T→(True)→(λw1=>oP (aL 36) w λx13 w=>
 Ext w1 w∧Q 16 (upd u26 13 x13) (zbS T 16 (w1.heap.size,w.heap.size)) w) w) ∧
 True)
 (λQ=>∀ (u26:Env) (T:Nat→Nat×Nat) (w:World),Ext w0 w→zaL [0,1,2,3,4,5,6,7,8,9,10,11,12,13,14,15,16] w0.heap.size w.heap.size T→(Q 0 u26 T w∧Q 1 u26 T w∧Q 2 u26 T w∧Q 3 u26 T w∧Q 4 u26 T w∧Q 5 u26 T w∧Q 6 u26 T w∧Q 7 u26 T w∧Q 8 u26 T w∧Q 9 u26 T w∧Q 10 u26 T w∧Q 11 u26 T w∧Q 12 u26 T w∧Q 13 u26 T w∧Q 14 u26 T w∧Q 15 u26 T w∧Q 16 u26 T w∧True) →
 oS 36 (u26 13) (u26 106) w λw=>
 rT (u26 107) w λx109=>
 BR x109
 (R vF w)
 ((λw=>rL 28 x4 w λx111=>
 rL 36 x8 w λx112=>
 rX 25 x22 (u11 9) w λx116=>
 rL 3 x116 w λx117=>
 rN 25 3 x77 w λx119=>
 rB .rem 3 T0 T0 x117 x119 w λx120=>
 rX 25 x77 x120 w λx121=>
 rL 3 x121 w λx122=>
 cL 18 [x111,x112,x122] w λx123 w=>
 rE x123 0 w λx124=>
 rE x123 1 w λx125=>
 oS 36 x8 x124 w λw=>
 rL 36 (u26 13) w λx126=>
 rL 36 x8 w λx127=>
 cL 19 [x126,x127] w λx128 w=>
 rT x128 w λx129=>
 BR x129
 (R vF w)
 (rI (u11 9) w λx45=>
 n11 [x45] w)) (World.drew1 w)))) (World.drew1 w))))
 (R vT w))
 (R vT w)))
def cfg3:Cfg:=⟨extL,[(18,4602678819172646916,[])],[(11,1361129467683753853853498429658353401348,[9]),(14,37778931792588417534980,[10]),(19,37774320176938734323716,[11])],[(21,[0,1,3,4,2,5,6,7],4),(29,[0,1,2,3,4,5,6,7,8,9,10,11,12,13,14,15,16],0)],[(26,324513601898269585262056424103936,17)],[],[]⟩
theorem F3_call {a0 w R} (h:F3 a0 w R):cL 3 [a0] w R:=co (g:=cfg3) Tryz.func3 h
def F12 (a0 a1:Value) (w:World) (R:VW):Prop:=
 cL 47 [a0] w λx6 w=>
 rT x6 w λx7=>
 BR x7
 (R (iV 0) w)
 (cL 47 [a1] w λx10 w=>
 rT x10 w λx11=>
 BR x11
 (R (iV 0) w)
 (rB .and 3 T0 T0 a0 a1 w λx15=>
 R x15 w))
theorem F12_call {a0 a1 w R} (h:F12 a0 a1 w R):cL 12 [a0,a1] w R:=co (g:=(kf [] [] [])) Tryz.func12 h
theorem zpi {w:World} {a:Nat} {b:Nat}   (ha:a<64) (hb:b<64) :
   CALL tp 12 [.int .i64 (a:Int),.int .i64 (b:Int)] w λr w'=>Ext w w'∧(r=.int .i64 ((a &&& b:Nat):Int)):=by
 refine F12_call ?_;unfold F12;refine (zp9 ).mono ?_;rintro _ w1_ ⟨η1,rfl⟩;refine zav ?_;refine br (λc1=>?_) (λc1=>?_)
 · refine ⟨η1,?_⟩
   first | rfl | contradiction | (exfalso;omega)
 refine (zp9 ).mono ?_;rintro _ w2_ ⟨η2,rfl⟩;refine zav ?_;refine br (λc2=>?_) (λc2=>?_)
 · refine ⟨(η1.t η2),?_⟩
   first | rfl | contradiction | (exfalso;omega)
 refine zp0 (by omega) (by omega) ?_;refine ⟨(η1.t η2),?_⟩
 first | rfl | contradiction | (exfalso;omega)
theorem zxn {a b c d:Value} (h:Value.tuple #[a,b]=.tuple #[c,d]):a=c∧b=d:=by
 simpa using h
theorem zle (s:DState) (t:Int):zgA s t<64:=by
 unfold zgA;split
 · omega
 exact znZ _ _ _
def rkQ (c:DCode) (s X:DState) (v77 v22:Value) (k n j:Nat) (pk t:Int) (d:Bool) (w0:World):ParQ:=λi u T w=>match i with
 | 0=>Is w0 (u 93) c
 | 1=>Is w0 (u 94) s
 | 2=>u 95=v77
 | 3=>u 96=v22
 | 4=>u 97=.int .i64 (k:Int)
 | 5=>∃ b o,u 98=.pointer (some ⟨b,o,none⟩)∧At w0 b o pk
 | 6=>u 99=.int .i64 pk
 | 7=>u 100=v77
 | 8=>u 101=.int .i64 (n:Int)
 | 9=>u 102=.int .i64 (j:Int)
 | 10=>∃ b o,u 103=.pointer (some ⟨b,o,none⟩)∧At w0 b o t
 | 11=>u 104=.int .i64 t
 | 12=>∃ a,u 105=.tuple #[a,.bool d]∧OwnI (T 12).1 (T 12).2 w a X
 | 13=>∃ a,u 92=.tuple #[a,.bool d]∧OwnI (T 12).1 (T 12).2 w a X
 | 14=>∃ b,u 92=.tuple #[u 106,b]
 | 15=>∃ a,u 92=.tuple #[a,u 107]
 | 16=>∃ g,u 13=.pointer (some ⟨g,0,none⟩)∧(T 16).1≤g∧g<(T 16).2∧VarI (T 16).1 (T 16).2 w g (RepZ.zv:DState)
 | _=>True
set_option maxRecDepth 20000 in
theorem zmp {w W:World} {v0:Value} {bs:List UInt8} (h0:Is W v0 bs) (e0:Ext W w):CALL tp 3 [v0] w λr w'=>Ext w w'∧(r=.bool true):=by
  refine F3_call ?_;unfold F3;refine (zxl h0 e0).mono ?_;rintro _ w1 ⟨hx1,rfl⟩;refine br (λ_=>⟨hx1,rfl⟩) (λhb=>?_);have hlen:bs.length≤1048576:=by omega
  have hc:=(zk3 bs).1;have hw:=zq8 bs;have hd:=λ{w2:World} (hx:Ext w w2)=>zo1 h0 (e0.t hx) hlen;generalize zc7 bs=c at *;have hpl:(znt bs).length=70:=ziD bs 12 70 _;have hpin:∀ x∈znt bs,0≤x∧x<12:=zj4 bs (by omega) 70 _;have hdp:=λ{w2:World} (hx:Ext w w2)=>znu h0 (e0.t hx) hlen;generalize znt bs=ps at *;have hrL:zin c=(zeN c).map za9:=by unfold zin;rw [if_pos hc]
  have hok:ztN c=decide (((zin c).length:Int)=0):=by
    rw [hrL,List.length_map];by_cases h:zeN c=[]
    · simp [ztN,okR,h,hc]
    simp [ztN,okR,h]
  have hrank:ztN c=true→zeN c=[]:=λh=>by
    have h:okR c:=by unfold ztN at h;simpa using h
    exact h.2
  refine (hd hx1).mono ?_;rintro v16 w2 ⟨hx2,o16⟩;refine zcX zvO rfl zcv rfl o16.is (Ext.refl _) λw3 hx3 hA3 hV3=>?_;have hx13:=hx1.t (hx2.t hx3);refine (hd hx13).mono ?_;rintro v18 w4 ⟨hx4,o18⟩;refine zcX zvO rfl zcv rfl o18.is (Ext.refl _) λw5 hx5 hA4 hV4=>?_;have hx35:=hx4.t hx5;refine (hdp (hx13.t hx35)).mono ?_;rintro v22 w6 ⟨hx6,o22⟩;have h22:=o22.is;refine zab zcv hA3 (hx35.t hx6) λv24 h24=>?_;refine (zml h24 (hx35.t hx6)).mono ?_;rintro _ w7 ⟨hx7,v26,rfl,o26⟩;refine zb0 rfl ?_;refine zb0 rfl ?_;refine zab zcv hA4 (hx6.t hx7) λv29 h29=>?_;refine (zkq h29 (hx6.t hx7)).mono ?_;rintro v30 w8 ⟨hx8,o30⟩;refine zae u33 o30.is ?_;refine zag ?_;refine zr9 u4 ?_;refine br (λh=>absurd hok h) (λ_=>?_);have hx58:=hx6.t (hx7.t hx8);refine zab zcv hA4 hx58 λv34 h34=>?_;refine (zkx h34 hx58 hw).mono ?_;rintro v35 w9 ⟨hx9,o35⟩;have hse:zjQ c=zeK c:=by unfold zjQ;rw [if_pos hc]
  have hsr:=zoS hc;have hsi:=ztG hc;rw [hse] at o35;generalize zeK c=s0 at *;refine zfp (α:=DState) zsa λw10 hx10 hv10=>?_;refine zbf zcT hv10 (o35.toI.ext hx10) (.inr (lr _)) λw11 hc11 hv11=>?_;have hx911:Ext w9 w11:=hx10.chgI hc11 (lr _);have hx59:=hx58.t hx9;have hx39:=hx35.t hx59;have hx19:=hx13.t hx39;refine zat 70 (λk us w'=>us=[.int .i64 (k:Int)]∧k≤70∧Ext w9 w'∧∃ s lo hi,VarI lo hi w' w9.heap.size s∧zaF c s∧RunI c s) 0 (z0 _) ⟨rfl,z0 _,hx911,s0,_,_,hv11,hsr,hsi⟩ ?_;rintro k m u w12 hkm ⟨hu,hk70,hx12,s,lo,hi,hv,hs,hI⟩;have hg8:=hv.lt;try replace hu:=zbG hu
  rw [hu];refine zae u25 h22 ?_;refine zaf ?_;refine br (λhlt=>?_) (λ_=>⟨hx19.t hx12,rfl⟩);refine zaf ?_;refine br (λh48=>?_) (λ_=>⟨hx19.t hx12,rfl⟩);have hk:k<ps.length:=by omega
  have hs6:s.stacks.length≤6:=hs.2.2.1.2;have hx312:=hx39.t hx12;have hx512:=hx59.t hx12;refine zat s.stacks.length (λt us w'=>us=[.int .i64 (t:Int)]∧t≤s.stacks.length∧Ext w12 w') 0 (z0 _) ⟨rfl,z0 _,Ext.refl _⟩ ?_;rintro t m2 u2 w13 hkm2 ⟨hu2,htl,hx13'⟩;try replace hu2:=zbG hu2
  rw [hu2];refine zaa zaW ?_;refine zab zd5 (zay hv.at) hx13' λv48 h48'=>?_;refine zae u33 h48' ?_;refine zaf ?_;refine br (λhlt2=>?_) (λhge2=>?_)
  · refine JOIN.mk (λus w'=>us=[]∧Ext w13 w') ?_ ?_
    · refine zcd (λhT=>?_) (λ_=>⟨rfl,Ext.refl _⟩)
      refine zab zcv hA3 (hx312.t hx13') λv55 h55=>?_;refine zdm zcT hv hx13' λv56 h56=>?_;refine (zl0 h55 (hx312.t hx13') h56.is hx13').mono ?_;rintro v58 w14 ⟨hx14,o58⟩
      have hkn:zsU c s (t:Int)=[]:=by
        unfold zsU;rw [if_pos ⟨hc,hs⟩,zwu hc hs hI (hrank hT),zq3]
      refine zae u25 o58.is ?_;refine zb1 ?_;exact br (λh=>absurd h (by rw [hkn];decide)) (λ_=>⟨rfl,hx14⟩)
    rintro u3 w14 ⟨-,hx14⟩;refine zat t (λv us w'=>us=[.int .i64 (v:Int)]∧v≤t∧Ext w14 w') 0 (z0 _) ⟨rfl,z0 _,Ext.refl _⟩ ?_;rintro v m3 u4 w15 hkm3 ⟨hu4,hvl,hx15⟩;try replace hu4:=zbG hu4
    rw [hu4];have hx1215:=hx13'.trans (hx14.t hx15);refine zaf ?_;refine br (λhlt3=>?_) (λhge3=>?_)
    · have hx16:=zai w15
      have hx1216:=hx1215.t hx16;refine zdm zcT hv hx1216 λv67 h67=>?_;refine zdm zcT hv hx1216 λv70 h70=>?_;refine (zhD h67.is hx1216).mono ?_;rintro _ w17 ⟨hx17,rfl⟩;refine ⟨hx17,?_⟩;refine (zhD h70.is (hx1216.t hx17)).mono ?_;rintro _ w18 ⟨hx18,rfl⟩;refine (zpi (zle s (t:Int)) (zle s (v:Int))).mono ?_;rintro _ w19 ⟨hx19',rfl⟩;rw [zrv (s:=s) (t:=(t:Int)) (u:=(v:Int)) (by omega)];refine zaV ?_;refine br (λh=>absurd rfl h) (λ_=>?_);refine zaB ?_;exact ⟨m3-1,by omega,v+1,by omega,rfl,by omega,hx15.t (hx16.t (hx17.t (hx18.t hx19')))⟩
    refine zaB ?_;exact ⟨m2-1,by omega,t+1,by omega,rfl,by omega,hx1215⟩
  have hri:zjO c s=zd2 c s:=by unfold zjO;rw [if_pos ⟨hc,hs⟩]
  refine zab zcv hA4 (hx512.t hx13') λv75 h75=>?_;refine zdm zcT hv hx13' λv76 h76=>?_;refine (zkw h75 (hx512.t hx13') h76.is hx13').mono ?_;rintro v77 w14 ⟨hx14,o77⟩;rw [hri] at o77;have h77:=o77.is;have hx1214:=hx13'.trans hx14;refine zae u25 h77 ?_;refine zag ?_;refine br (λhz=>?_) (λhnz=>?_)
  · have hnil:zd2 c s=[]:=List.eq_nil_of_length_eq_zero (by omega)
    refine za1 ?_;refine zcd (λ_=>⟨hx19.t (hx12.t hx1214),rfl⟩) (λ_=>?_);refine zdm zcT hv hx1214 λv84 h84=>?_;refine (zhl h84.is hx1214).mono ?_;rintro _ w15 ⟨hx15,rfl⟩;have hx1215:=hx1214.t hx15;refine br (λ_=>⟨hx19.t (hx12.t hx1215),rfl⟩) (λhno=>?_);refine zab zcv hA3 (hx312.t hx1215) λv88 h88=>?_;refine zdm zcT hv hx1215 λv89 h89=>?_;refine (ziH h88 (hx312.t hx1215) h89.is hx1215).mono ?_;rintro _ w16 ⟨hx16,rfl⟩;refine ⟨hx19.t (hx12.t (hx1215.t hx16)),?_⟩;rw [decide_eq_true (show zff c s from ⟨⟨hc,hs⟩,hno,hnil⟩)]
  obtain ⟨pk,hpk⟩:∃ pk,pk=ps[k]:=⟨_,rfl⟩;obtain ⟨hp0,hp12⟩:=hpin _ (List.getElem_mem hk);rw [←hpk] at hp0 hp12
  obtain ⟨j,hj,hjl⟩:∃ j:Nat,pk.tmod ((zd2 c s).length:Int)=j∧j<(zd2 c s).length:=by
    have e1:pk.tmod ((zd2 c s).length:Int)=pk%((zd2 c s).length:Int):=Int.tmod_eq_emod_of_nonneg hp0;have e2:=Int.emod_nonneg pk (b:=((zd2 c s).length:Int)) (by omega);have e3:=Int.emod_lt_of_pos pk (b:=((zd2 c s).length:Int)) (by omega);exact ⟨(pk%((zd2 c s).length:Int)).toNat,by omega,by omega⟩
  have hmem:=List.getElem_mem hjl;obtain ⟨th,hth⟩:∃ th,th=(zd2 c s)[j]:=⟨_,rfl⟩;rw [←hth] at hmem;have hgo:GoR c s th:=zkm hmem;have hsr':=zkZ hc hs hgo;have hsi':=zu2 hc hs hgo hI;have hso:zhC c s th=zch c s th:=by unfold zhC;rw [if_pos ⟨⟨hc,hs⟩,hgo⟩]
  have hdt:decide ((CodeR c∧zaF c s)∧GoR c s th)=true:=decide_eq_true ⟨⟨hc,hs⟩,hgo⟩;have hxd:=zai w14;have hsd:=hxd.size;have hx12d:=hx1214.t hxd;have hx3d:=hx312.t hx12d;have hx6d:Ext w6 (World.drew1 w14):=hx7.t (hx8.t (hx9.t (hx12.t hx12d)));have hs12d:=hx12d.size;refine PAR.mk (rkQ c s (zch c s th) v77 v22 k (zd2 c s).length j pk th true (World.drew1 w14)) ?_ ?_ ?_
  · intro i u u' T T' wa wb hxa hxb hd hq
    match i,hd,hq with
    | 0,hd,hq=>have e1:=(hd (0,93) (by decide)).1;show Is _ (u' 93) _;simp only [e1];exact hq
    | 1,hd,hq=>have e1:=(hd (1,94) (by decide)).1;show Is _ (u' 94) _;simp only [e1];exact hq
    | 2,hd,hq=>exact (hd (2,95) (by decide)).1.trans hq
    | 3,hd,hq=>exact (hd (3,96) (by decide)).1.trans hq
    | 4,hd,hq=>exact (hd (4,97) (by decide)).1.trans hq
    | 5,hd,⟨b,o,q1,q2⟩=>exact ⟨b,o,(hd (5,98) (by decide)).1.trans q1,q2⟩
    | 6,hd,hq=>exact (hd (6,99) (by decide)).1.trans hq
    | 7,hd,hq=>exact (hd (7,100) (by decide)).1.trans hq
    | 8,hd,hq=>exact (hd (8,101) (by decide)).1.trans hq
    | 9,hd,hq=>exact (hd (9,102) (by decide)).1.trans hq
    | 10,hd,⟨b,o,q1,q2⟩=>exact ⟨b,o,(hd (10,103) (by decide)).1.trans q1,q2⟩
    | 11,hd,hq=>exact (hd (11,104) (by decide)).1.trans hq
    | 12,hd,⟨a,q1,q2⟩=>
      obtain ⟨e1,e2⟩:=hd (12,105) (by decide);simp only at e1 e2;exact ⟨a,e1.trans q1,by rw [e2];exact q2.ext hxb⟩
    | 13,hd,⟨a,q1,q2⟩=>
      have e1:=(hd (13,92) (by decide)).1;have e2:=(hd (12,105) (by decide)).2;simp only at e1 e2;exact ⟨a,e1.trans q1,by rw [e2];exact q2.ext hxb⟩
    | 14,hd,⟨b,q1⟩=>
      have e1:=(hd (14,106) (by decide)).1;have e2:=(hd (13,92) (by decide)).1;simp only at e1 e2;exact ⟨b,by rw [e1,e2];exact q1⟩
    | 15,hd,⟨b,q1⟩=>
      have e1:=(hd (15,107) (by decide)).1;have e2:=(hd (13,92) (by decide)).1;simp only at e1 e2;exact ⟨b,by rw [e1,e2];exact q1⟩
    | 16,hd,⟨g,q1,q2,q3,q4⟩=>
      obtain ⟨e1,e2⟩:=hd (16,13) (by decide);simp only at e1 e2;exact ⟨g,e1.trans q1,by rw [e2];exact q2,by rw [e2];exact q3,by rw [e2];exact q4.ext hxb⟩
    | n+17,_,_=>trivial
  · refine ⟨λu T w' hx _ _=>?_,λu T w' hx _ _=>?_,λu T w' hx _ _=>?_,λu T w' hx _ _=>?_,λu T w' hx _ _=>?_,λu T w' hx _ hp=>?_,λu T w' hx _ hp=>?_,λu T w' hx _ _=>?_,λu T w' hx _ hp=>?_,λu T w' hx _ hp=>?_,λu T w' hx _ hp=>?_,λu T w' hx _ hp=>?_,λu T w' hx _ hp=>?_,λu T w' hx _ hp=>?_,λu T w' hx _ hp=>?_,λu T w' hx _ hp=>?_,λu T w' hx _ _=>?_,trivial⟩
    · exact zab zcv hA3 (hx3d.t hx) λv h=>⟨Ext.refl _,(h.ext hx3d:Is _ v c)⟩
    · exact zdm zcT hv (hx12d.t hx) λv h=>⟨Ext.refl _,(h.is.ext hx12d:Is _ v s)⟩
    · exact ⟨Ext.refl _,rfl⟩
    · exact ⟨Ext.refl _,rfl⟩
    · exact ⟨Ext.refl _,rfl⟩
    · have q1:u 96=v22:=hp.1
      have q2:u 97=.int .i64 (k:Int):=hp.2.1;rw [q1,q2];refine zad u25 ty3 (h22.ext hx6d) hk λb o hA=>⟨Ext.refl _,⟨b,o,rfl,?_⟩⟩;rw [←hpk] at hA;exact hA
    · obtain ⟨b,o,q1,q2⟩:=(hp.1:∃ b o,u 98=.pointer (some ⟨b,o,none⟩)∧At _ b o pk)
      rw [q1];exact zac ty3 q2 hx λ_=>⟨Ext.refl _,rfl⟩
    · exact ⟨Ext.refl _,rfl⟩
    · have q1:u 100=v77:=hp.1
      rw [q1];exact zae u25 h77 ⟨Ext.refl _,rfl⟩
    · have q1:u 99=.int .i64 pk:=hp.1
      have q2:u 101=.int .i64 ((zd2 c s).length:Int):=hp.2.1;rw [q1,q2];refine zjd (by omega) ?_;rw [hj];exact ⟨Ext.refl _,rfl⟩
    · have q1:u 95=v77:=hp.1
      have q2:u 102=.int .i64 (j:Int):=hp.2.1;rw [q1,q2];refine zad u25 ty3 (h77.ext hxd) hjl λb o hA=>⟨Ext.refl _,⟨b,o,rfl,?_⟩⟩;rw [←hth] at hA;exact hA
    · obtain ⟨b,o,q1,q2⟩:=(hp.1:∃ b o,u 103=.pointer (some ⟨b,o,none⟩)∧At _ b o th)
      rw [q1];exact zac ty3 q2 hx λ_=>⟨Ext.refl _,rfl⟩
    · have q0:Is _ (u 93) c:=hp.1
      have q1:Is _ (u 94) s:=hp.2.1;have q2:u 104=.int .i64 th:=hp.2.2.1;rw [q2];refine (zmm q0 hx q1 hx (zlU hc hs)).mono ?_;rintro r w20 ⟨hx20,a,rfl,oa⟩;rw [hso] at oa;exact ⟨hx20,⟨a,by rw [hdt];rfl,oa.toI⟩⟩
    · exact ⟨Ext.refl _,hp.1⟩
    · obtain ⟨a,q1,q2⟩:=(hp.1:∃ a,u 92=.tuple #[a,.bool true]∧OwnI (T 12).1 (T 12).2 w' a (zch c s th))
      rw [q1];exact zb0 rfl ⟨Ext.refl _,⟨_,q1⟩⟩
    · obtain ⟨a,q1,q2⟩:=(hp.1:∃ a,u 92=.tuple #[a,.bool true]∧OwnI (T 12).1 (T 12).2 w' a (zch c s th))
      rw [q1];exact zb0 rfl ⟨Ext.refl _,⟨a,q1⟩⟩
    refine zfp (α:=DState) zsa λw7 hx7 hv7=>⟨hx7,⟨w'.heap.size,rfl,lr _,hv7.lt,hv7.mono hx7.size (lr _)⟩⟩
  rintro u5 T w18 hx18 hap ⟨-,-,-,-,-,-,-,-,-,-,-,-,-,⟨a,e13,oa⟩,⟨b',e14⟩,⟨a',e15⟩,⟨g,e16,hg0,hg1,hvz⟩,-⟩;have t12:=hap.1 12 (by decide);have t16:=hap.1 16 (by decide);have d126:=hap.2 12 (by decide) 16 (by decide) (by decide);have f1:=(zxn (e13.symm.trans e14)).1;have f2:=(zxn (e13.symm.trans e15)).2;rw [←f1,←f2,e16];refine zbf zcT hvz oa (by omega) λw19 hc19 hv19=>?_;have hs9:=hx12.size;have hxd19:Ext (World.drew1 w14) w19:=hx18.chgI hc19 (by omega);refine za1 ?_;refine zcd (λh=>by cases h) (λ_=>?_);have hx20:=zai w19;have hxd20:=hxd19.t hx20;have hx1220:=hx12d.t hxd20;refine zab zcv hA4 (hx512.t hx1220) λv111 h111=>?_;refine zdm zcT hv hx1220 λv112 h112=>?_;refine zad u25 ty3 h22 hk λb116 o116 hA116=>?_;refine zac ty3 hA116 (hx6d.t hxd20) λhI117=>?_;refine zae u25 h77 ?_;refine zjd (by omega) ?_;rw [←hpk,hj];refine zad u25 ty3 h77 hjl λb121 o121 hA121=>?_;rw [←hth] at hA121;refine zac ty3 hA121 (hxd.t hxd20) λhI122=>?_;refine (zmn h111 (hx512.t hx1220) h112.is hx1220 (zlU hc hs)).mono ?_;rintro _ w21 ⟨hx21,v124,rfl,o124⟩;rw [hso] at o124;refine zb0 rfl ?_;refine zb0 rfl ?_;have hs20:=hx1220.size;have hs1219:=hv19.lt;refine zbf zcT (hv.ext (hx1220.t hx21)) o124.toI (.inl (by have:=hx20.size;omega)) λw22 hc22 hv22=>?_;have hv13:=(hv19.ext (hx20.t hx21)).chg hc22 (.inr (by omega)) (.inr (by omega));refine zdm zcT hv13 (Ext.refl _) λv126 h126=>?_;refine zdm zcT hv22 (Ext.refl _) λv127 h127=>?_;refine (znY h126.is (Ext.refl _) h127.is (Ext.refl _)).mono ?_;rintro _ w23 ⟨hx23,rfl⟩;refine zav ?_;refine br (λh=>absurd rfl h) (λ_=>?_);refine zaB ?_;exact ⟨m-1,by omega,k+1,by omega,rfl,by omega,((hx12.t (hx1220.t hx21)).chgI hc22 (lr _)).trans hx23,_,_,_,hv22.ext hx23,hsr',hsi'⟩
theorem zu3 {P:Program} {t:TypeId} (ht:P.underlying t=some (.int .u8)) (n:Nat):zmy P t UInt8 n:=by
 intro H enc w spare held cs y h;obtain ⟨m,rfl,_,hw⟩:=DataW.trod_int ht h;have hm:0≤m∧m≤255:=by simpa [Lit.wf,IntKind.min,IntKind.max,IntKind.signed,IntKind.bits] using hw
 refine ⟨[],UInt8.ofNat m.toNat,rfl,?_⟩
 have:((UInt8.ofNat m.toNat).toNat:Int)=m:=by
   have:(UInt8.ofNat m.toNat).toNat=m.toNat:=by simp;omega
   omega
 rw [this]
theorem zwv:∀ n,zmy tp 22 (List UInt8) n:=zjh u22 (by kernel_rfl) (zu3 u5)
end Go.Proofs.YtakjaofncelghaaGreat
namespace Go.Proofs.YtakjaofncelghaaGreat
open Go
theorem zbR {a b:Bool} (h:a=true) (k:b=true):(a&&b)=true:=by rw [h,k];rfl
theorem zww:laidOutB tp=true:=by kernel_rfl
theorem zwx:mapsRowed tp=true:=by kernel_rfl
theorem zu4:(Rows.fnRankedRunsRow.plainKeys == tp.plainKeys)=true:=by kernel_rfl
theorem zu5:tp.stopsHeard=true:=by kernel_rfl
theorem zxo:tp.mayEnter=true:=by kernel_rfl
theorem zwy:(Rows.fnRankedRunsRow.lifted == tp.liftsFinal)=true:=by kernel_rfl
theorem zwz:(tp.make == some Rows.fnRankedRunsRow.make)=true:=by kernel_rfl
end Go.Proofs.YtakjaofncelghaaGreat
namespace Go.Proofs.YtakjaofncelghaaGreat.fnRankedRuns
open Go.ChangeShapes Go.WideShapes Go.ChangeAt Go.RowKit Go.Sh
theorem own:ownKnob tp.godebug=none:=by kernel_rfl
theorem zwA:laidOutB tp=true:=by kernel_rfl
set_option maxRecDepth 100000 in
theorem lifted (os:Os) (started:os.Started) (H:Type) (enc:TypeId×Value→H) :
    ReturnsInHanded {} Tryz.checked os 3 .any (Rows.fnRankedRunsSpec.pre6 enc tp Tryz.f3 Rows.fnRankedRunsRow.domain false) (Rows.fnRankedRunsSpec.post enc tp Tryz.f3 false true false false):=by
  refine returnsInHanded_of_change (C:=Tryz.checked) own started (by kernel_rfl) Tryz.func3
    (ChangeSpec.witness6 (enc:=enc) (C:=Tryz.checked) false ⟨#[],#[.slice none 0 0],[]⟩ 8 (by kernel_rfl) (by kernel_rfl) (by kernel_rfl) (by kernel_rfl)) ?_
  intro W base args ds gs before hval0 hW hcnd _;have hval:∀ (j:Nat) t v,Tryz.f3.params[j]?=some t→args[j]?=some v→Value.okWide tp W .any base t v:=hval0;have hW':=hW;obtain ⟨p,q,hA0,hV,rfl,hfz,hnd⟩:=hW;have hA:DataW.TrodAll enc tp W 0 (λ_=>true) true Tryz.f3.params.toList args.toList ds p:=hA0;rw [Tryz.params3] at hA hval;obtain ⟨v0,vs0,d0,ds0,p0,q0,hargs,rfl,rfl,h0,r0⟩:=trodAll_cons hA;obtain ⟨rfl,rfl,rfl⟩:=trodAll_nil r0;obtain rfl:args=#[v0]:=by cases args;simp_all
  obtain ⟨rfl,rfl⟩:=trodVars_none hV;have lt0:∀ x∈p0,x.block<W.heap.size:=by obtain ⟨m,hm⟩:=h0;exact DataW.trod_lt m _ _ _ hm
  obtain ⟨x0,i0⟩:=zoh (α:=UInt8) u22 zwv (hval 0 22 v0 rfl rfl) h0;clear hA0 hval0;obtain ⟨hcall⟩:=zmp i0 (Ext.refl W);refine hcall.mono λe W' ⟨v,he,bel,hv⟩=>?_;subst he hv;exact ⟨_,rfl,_,_,_,[],_,[],hW',trodAll_mk1 (shut_bool Tryz.underlying4 _),(trodAll_cons_mk (Below.trod zwA (by kernel_rfl) (of_decide_eq_true (by kernel_rfl)) h0 bel lt0) trodAll_mk0),rfl,bel.frame _,λh=>by cases h⟩
theorem ztJ:(Rows.fnRankedRunsRow.inPlace == tp.inPlace 3)=true:=by kernel_rfl
theorem zn2:(Rows.fnRankedRunsRow.unfollowed == tp.unfollowed 3)=true:=by kernel_rfl
theorem zrA:(Rows.fnRankedRunsRow.recurses == tp.recurses 3)=true:=by kernel_rfl
theorem zwB:(Rows.fnRankedRunsRow.named == tp.varsNamed 3)=true:=by kernel_rfl
theorem closed:joinedFacts tp 3 Tryz.f3 Rows.fnRankedRunsSpec Rows.fnRankedRunsRow=true:=by
 unfold joinedFacts;exact (zbR (zbR (zbR (zbR (zbR (zbR (zbR (zbR (zbR (zbR (zbR (zbR (zbR (zbR (zbR (zbR (zbR (zbR (zbR (zbR (zbR (zbR (zbR (zbR (zbR (zbR (zbR (zbR (zbR (zbR (zbR (by kernel_rfl) zww) zwx) (by kernel_rfl)) (by kernel_rfl)) (by kernel_rfl)) (by kernel_rfl)) (by kernel_rfl)) (by kernel_rfl)) ztJ) zn2) zrA) zwB) (by kernel_rfl)) (by kernel_rfl)) (by kernel_rfl)) (by kernel_rfl)) (by kernel_rfl)) (by kernel_rfl)) (by kernel_rfl)) (by kernel_rfl)) (by kernel_rfl)) zu4) (by kernel_rfl)) zu5) zxo) zwy) zwz) (by kernel_rfl)) (by kernel_rfl)) (by kernel_rfl)) (by kernel_rfl))
theorem over:Rows.fnRankedRunsRow.holds Tryz.pinned (OpenSpec.ofChange Rows.fnRankedRunsSpec):=
 OpenClaim.holds_of_wide 3 Tryz.f3 rfl rfl rfl rfl rfl rfl rfl ⟨rfl,rfl,rfl,rfl,rfl⟩ rfl rfl rfl rfl rfl (by kernel_rfl) Tryz.func3 closed
   (of_decide_eq_true (by kernel_rfl)) (by unfold Func.isWrapper;first | (rw [if_pos (by decide +kernel)];kernel_rfl) | (rw [if_neg (by decide +kernel)];exact ⟨rfl,rfl⟩))
   (λos started H enc _=>lifted os started H enc)
theorem proved:Rows.FnRankedRunsSaid:=over
end Go.Proofs.YtakjaofncelghaaGreat.fnRankedRuns
