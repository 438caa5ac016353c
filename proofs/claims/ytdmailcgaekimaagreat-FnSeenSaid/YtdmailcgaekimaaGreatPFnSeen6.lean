/-
  Parts of the proof, put together by program.
-/
import Derived.Test.YtdmailcgaekimaaGreatPFnSeen5
set_option linter.unusedVariables false
set_option linter.unusedSimpArgs false
set_option linter.unusedSectionVars false
namespace Go.Proofs.YtdmailcgaekimaaGreat
open Go Go.Sh Go.Proofs
open Rep (rep)
def ow (s:DState) (i:Int):Int:=s.owner.getD i.toNat 0
theorem zrC {s:DState} {i:Nat} (h:i<s.owner.length):s.owner[i]=ow s i:=by unfold ow;rw [List.getD_eq_getElem?_getD,Int.toNat_natCast,List.getElem?_eq_getElem h];rfl
theorem zfU {s:DState} {i:Int} (h0:0≤i) (h:i.toNat<s.owner.length):s.owner[i.toNat]=ow s i:=by unfold ow;rw [List.getD_eq_getElem?_getD,List.getElem?_eq_getElem h];rfl
def stk (s:DState) (t:Int):List Int:=s.stacks.getD t.toNat []
theorem ze9 {s:DState} {t:Int} (h:t.toNat<s.stacks.length):s.stacks[t.toNat]=stk s t:=by unfold stk;rw [List.getD_eq_getElem?_getD,List.getElem?_eq_getElem h];rfl
def atI (c:DCode) (s:DState) (t:Int):DIns:=zbo c (zce s t).toNat
theorem zeg {s:DState} {t:Int} (h:0≤zce s t):0≤t∧t.toNat<s.stacks.length:=by
 unfold zce at h
 split at h
 · assumption
 omega
theorem zny {s:DState} {t:Int} (h0:0≤t) (h1:t.toNat<s.stacks.length):zce s t=(stk s t).getLastD (-1):=by
 unfold zce;rw [dif_pos ⟨h0,h1⟩,ze9 h1]
theorem zpQ {l:List Int} (h:l≠[]):l.getLastD (-1)=st l (l.length-1):=by
 unfold st
 rw [List.getLastD_eq_getLast?,List.getLast?_eq_getElem?,List.getD_eq_getElem?_getD]
 have:l.length-1<l.length:=by have:=List.length_pos_iff.2 h;omega
 rw [List.getElem?_eq_getElem this];rfl
theorem ziE {c:DCode} {s:DState} (hs:zaz c s) (t:Int):-1≤zce s t∧zce s t<c.ins.length:=by
 by_cases h:0≤t∧t.toNat<s.stacks.length
 · rw [zny h.1 h.2]
   by_cases hn:stk s t=[]
   · rw [hn];simp [List.getLastD];omega
   have hl:=List.length_pos_iff.2 hn
   have hm:=hs.2.2.2.2.2 (stk s t) (by rw [←ze9 h.2];exact List.getElem_mem _)
   rw [zpQ hn]
   have:=hm.2.1 ((stk s t).length-1) (by omega)
   omega
 unfold zce;rw [dif_neg h];omega
theorem ziF {c:DCode} (hc:CodeR c) {j:Nat} (hj:j<c.ins.length):zfA c (zbo c j) (en c (zaL c j).toNat) (zd9 c (zaL c j)+1):=hc.2.2 j hj
theorem zqZ {c:DCode} (hc:CodeR c) {j:Nat} (hj:j<c.ins.length) (h:(zbo c j).op=6∨(zbo c j).op=7):0≤(zbo c j).arg∧(zbo c j).arg<c.locks.length:=by
 have:=(ziF hc hj).2.1
 unfold zbK at this
 rwa [if_neg (by omega),if_neg (by omega),if_pos h] at this
theorem NamesR.locks6 {c:DCode} (h:NamesR c):c.locks.length≤6:=by
 have h1:=h.2.1
 simp only [Bool.and_eq_true,decide_eq_true_eq] at h1
 omega
theorem NamesR.globals6 {c:DCode} (h:NamesR c):c.globals.length≤6:=by
 have h1:=h.1
 simp only [Bool.and_eq_true,decide_eq_true_eq] at h1
 omega
theorem znz {c:DCode} {s:DState} (hs:zaz c s) {i:Int} (h0:0≤i) (h:i.toNat<s.owner.length):-1≤ow s i∧ow s i<s.stacks.length:=by
 rw [←zfU h0 h];exact hs.2.2.2.2.1 _ (List.getElem_mem _)
theorem ziG {c:DCode} {s:DState} {t:Int} (hc:CodeR c) (hs:zaz c s) (h:0≤zce s t):zfA c (atI c s t) (en c (zaL c (zce s t)).toNat) (zd9 c (zaL c (zce s t))+1):=by
 have:=ziE hs t
 have h1:=ziF hc (j:=(zce s t).toNat) (by omega)
 rwa [Int.toNat_of_nonneg h] at h1
theorem zeH {c:DCode} {s:DState} {t:Int} (hc:CodeR c) (hs:zaz c s) (h:0≤zce s t) (ho:(atI c s t).op=6∨(atI c s t).op=7):0≤(atI c s t).arg∧(atI c s t).arg.toNat<s.owner.length:=by
 have:=ziE hs t
 have h1:=zqZ hc (j:=(zce s t).toNat) (by omega) ho
 have h2:=hs.2.1
 unfold atI
 omega
def F119 (a0 a1:Value) (w:World) (R:VW):Prop:=
 oP (Instr.box 31 a0) w fun x2 w=>
 rB .lss 3 T0 U0 a1 (iV 0) w fun x6=>
 BR x6
 (R (iV (-1)) w)
 (rF 31 x2 1 w fun x9=>
 rL 25 x9 w fun x10=>
 rN 25 3 x10 w fun x11=>
 rB .geq 3 T0 T0 a1 x11 w fun x12=>
 BR x12
 (R (iV (-1)) w)
 (rF 31 x2 1 w fun x14=>
 rL 25 x14 w fun x15=>
 rX 25 x15 a1 w fun x17=>
 rL 3 x17 w fun x18=>
 rD (Builtin.max_ #[3,3] 3 [x18,(iV (-1))].toArray) w fun x19=>
 R x19 w))
def cfg119:Cfg:=⟨extL,[],[],[],[],[],[]⟩
theorem F119_call {a0 a1:Value} {w:World} {R:VW} (h:F119 a0 a1 w R):cL 119 [a0,a1] w R:=co (g:=cfg119) Tryz.func119 (by kernel_rfl) (by kernel_rfl) (by kernel_rfl) h
theorem zfV {w:World} {v0:Value} {W0:World} {s:DState} {i:Int}  (h0:Is W0 v0 s) (e0:Ext W0 w) (hi0:0≤i) (hi1:i.toNat<s.owner.length) :
   CALL Tryz.prog 119 [v0,.int .i64 i] w fun r w'=>Ext w w'∧(r=.int .i64 (max (ow s i) (-1))):=by
 refine F119_call ?_
 unfold F119
 refine zal zbM rfl h0 e0 fun w1_ hx1_ hA2 hV2=>?_
 refine zai ?_
 refine br (fun c1=>?_) (fun c1=>?_)
 · refine ⟨hx1_,?_⟩
   exact absurd c1 (by omega)
 refine zaa zcA ?_
 refine zab zbk (zbd hA2) (Ext.refl w1_) fun v10 h10=>?_
 have hln11:=zaf h10
 refine zae u25 h10 ?_
 refine zb1 ?_
 refine br (fun c2=>?_) (fun c2=>?_)
 · refine ⟨hx1_,?_⟩
   exact absurd c2 (by omega)
 refine zaa zcA ?_
 refine zab zbk (zbd hA2) (Ext.refl w1_) fun v15 h15=>?_
 refine zat u25 ty3 h15 (by omega) (by omega) fun b17 o17 h17=>?_
 refine zac ty3 h17 (Ext.refl w1_) fun hI18=>?_
 refine zrt ?_
 refine ⟨hx1_,?_⟩
 rw [zfU hi0 hi1]
def GoR (c:DCode) (s:DState) (t:Int):Prop:=0≤zce s t∧((atI c s t).op=6→ow s (atI c s t).arg=-1)∧((atI c s t).op=4→((stk s t).length:Int)<8)
instance (c:DCode) (s:DState) (t:Int):Decidable (GoR c s t):=by unfold GoR;infer_instance
def F116 (a0 a1 a2:Value) (w:World) (R:VW):Prop:=
 oP (Instr.box 28 a0) w fun x3 w=>
 oP (Instr.box 31 a1) w fun x4 w=>
 rL 31 x4 w fun x8=>
 cL 123 [x8,a2] w fun x10 w=>
 rB .lss 3 T0 U0 x10 (iV 0) w fun x12=>
 BR x12
 (R (Value.bool false) w)
 (rF 28 x3 4 w fun x13=>
 rL 26 x13 w fun x14=>
 rX 26 x14 x10 w fun x16=>
 rF 117 x16 0 w fun x17=>
 rL 3 x17 w fun x18=>
 rB .eql 3 T0 U0 x18 (iV 6) w fun x20=>
 BR x20
 ((fun w=>rF 31 x4 1 w fun x21=>
 rL 25 x21 w fun x22=>
 rF 28 x3 4 w fun x23=>
 rL 26 x23 w fun x24=>
 rX 26 x24 x10 w fun x26=>
 rF 117 x26 1 w fun x27=>
 rL 3 x27 w fun x28=>
 rX 25 x22 x28 w fun x29=>
 rL 3 x29 w fun x30=>
 rB .eql 3 T0 U0 x30 (iV (-1)) w fun x31=>
 R x31 w) (World.drew1 w))
 (rB .eql 3 T0 U0 x18 (iV 4) w fun x33=>
 BR x33
 (rF 31 x4 2 w fun x34=>
 rL 29 x34 w fun x35=>
 rX 29 x35 a2 w fun x37=>
 rL 25 x37 w fun x38=>
 rN 25 3 x38 w fun x39=>
 rB .lss 3 T0 U0 x39 (iV 8) w fun x40=>
 R x40 w)
 (R (Value.bool true) w)))
def cfg116:Cfg:=⟨extL,[],[],[(6,[0,1,2,3,4,5,6,7,8,9,10,11],0)],[],[],[]⟩
theorem F116_call {a0 a1 a2:Value} {w:World} {R:VW} (h:F116 a0 a1 a2 w R):cL 116 [a0,a1,a2] w R:=co (g:=cfg116) Tryz.func116 (by kernel_rfl) (by kernel_rfl) (by kernel_rfl) h
theorem zq0 {w:World} {v0:Value} {W0:World} {c:DCode} {v1:Value} {W1:World} {s:DState} {t:Int}  (h0:Is W0 v0 c) (e0:Ext W0 w) (h1:Is W1 v1 s) (e1:Ext W1 w) (hc:CodeR c) (hs:zaz c s) :
   CALL Tryz.prog 116 [v0,v1,.int .i64 t] w fun r w'=>Ext w w'∧(r=.bool (decide (GoR c s t))):=by
 refine F116_call ?_
 unfold F116
 have hat:=ziE hs t
 refine zal zbq rfl h0 e0 fun w1_ hx1_ hA3 hV3=>?_
 refine zal zbM rfl h1 (e1.trans hx1_) fun w2_ hx2_ hA4 hV4=>?_
 refine zan hV4 (Ext.refl w2_) ?_
 refine (zew h1 (e1.trans (hx1_.trans hx2_))).mono ?_
 rintro _ w3_ ⟨hx3_,rfl⟩
 refine zai ?_
 refine br (fun c1=>?_) (fun c1=>?_)
 · refine ⟨(hx1_.trans (hx2_.trans hx3_)),?_⟩
   have:¬GoR c s t:=fun h=>by have:=h.1;omega
   simp only [this,decide_false]
 refine zaa zba ?_
 refine zab zdN (zaq hA3) (hx2_.trans hx3_) fun v14 h14=>?_
 refine zat u26 zbS h14 (by omega) (by omega) fun b16 o16 h16=>?_
 rw [zaO] at h16
 change At _ _ _ (atI c s t) at h16
 have hat0:0≤zce s t:=by omega
 have hth:=zeg hat0
 refine zaa za5 ?_
 refine zac ty3 (zaG h16) (hx2_.trans hx3_) fun hI18=>?_
 refine zag ?_
 refine br (fun c2=>?_) (fun c2=>?_)
 · have hx4_:=zaj w3_
   refine zaa zcA ?_
   refine zab zbk (zbd hA4) (hx3_.trans hx4_) fun v22 h22=>?_
   refine zaa zba ?_
   refine zab zdN (zaq hA3) (hx2_.trans (hx3_.trans hx4_)) fun v24 h24=>?_
   refine zat u26 zbS h24 (by omega) (by omega) fun b26 o26 h26=>?_
   rw [zaO] at h26
   change At _ _ _ (atI c s t) at h26
   have hlk:=zeH hc hs hat0 (.inl c2)
   refine zaa zbY ?_
   refine zac ty3 (za4 h26) (hx2_.trans (hx3_.trans hx4_)) fun hI28=>?_
   refine zat u25 ty3 h22 (by omega) (by omega) fun b29 o29 h29=>?_
   refine zac ty3 h29 (hx3_.trans hx4_) fun hI30=>?_
   refine zag ?_
   refine ⟨(hx1_.trans (hx2_.trans (hx3_.trans hx4_))),?_⟩
   congr 1
   rw [decide_eq_decide,zfU hlk.1 hlk.2]
   exact ⟨fun h=>⟨hat0,fun _=>h,fun h4=>by omega⟩,fun h=>h.2.1 c2⟩
 refine zag ?_
 refine br (fun c3=>?_) (fun c3=>?_)
 · refine zaa zaT ?_
   refine zab zdJ (zau hA4) hx3_ fun v35 h35=>?_
   refine zat u29 zbk h35 (by omega) (by omega) fun b37 o37 h37=>?_
   refine zab zbk h37 hx3_ fun v38 h38=>?_
   have hln39:=zaf h38
   refine zae u25 h38 ?_
   refine zai ?_
   refine ⟨(hx1_.trans (hx2_.trans hx3_)),?_⟩
   congr 1
   rw [decide_eq_decide,ze9 hth.2]
   exact ⟨fun h=>⟨hat0,fun h6=>by omega,fun _=>h⟩,fun h=>h.2.2 c3⟩
 refine ⟨(hx1_.trans (hx2_.trans hx3_)),?_⟩
 have:GoR c s t:=⟨hat0,fun h6=>absurd h6 c2,fun h4=>absurd h4 c3⟩
 simp only [this,decide_true]
def F69 (a0 a1 a2:Value) (w:World) (R:VW):Prop:=
 oP (Instr.box 28 a0) w fun x3 w=>
 oP (Instr.box 31 a1) w fun x4 w=>
 rL 31 x4 w fun x8=>
 cL 89 [x8,a2] w fun x10 w=>
 rL 28 x3 w fun x11=>
 cL 72 [x11,x10] w fun x13 w=>
 rD (Op.unary .not x13) w fun x14=>
 BR x14
 (R (Value.bool false) w)
 (rF 28 x3 4 w fun x15=>
 rL 26 x15 w fun x16=>
 rX 26 x16 x10 w fun x18=>
 rF 117 x18 0 w fun x19=>
 rL 3 x19 w fun x20=>
 rB .eql 3 T0 U0 x20 (iV 6) w fun x22=>
 BR x22
 ((fun w=>rL 31 x4 w fun x23=>
 rF 28 x3 4 w fun x24=>
 rL 26 x24 w fun x25=>
 rX 26 x25 x10 w fun x27=>
 rF 117 x27 1 w fun x28=>
 rL 3 x28 w fun x29=>
 cL 119 [x23,x29] w fun x30 w=>
 rB .lss 3 T0 U0 x30 (iV 0) w fun x31=>
 R x31 w) (World.drew1 w))
 (rB .eql 3 T0 U0 x20 (iV 4) w fun x33=>
 BR x33
 (rF 31 x4 2 w fun x34=>
 rL 29 x34 w fun x35=>
 rX 29 x35 a2 w fun x37=>
 rL 25 x37 w fun x38=>
 rN 25 3 x38 w fun x39=>
 rB .lss 3 T0 U0 x39 (iV 8) w fun x40=>
 R x40 w)
 (R (Value.bool true) w)))
def cfg69:Cfg:=⟨extL,[],[],[(6,[0,1,2,3,4,5,6,7,8,9],0)],[],[],[]⟩
theorem F69_call {a0 a1 a2:Value} {w:World} {R:VW} (h:F69 a0 a1 a2 w R):cL 69 [a0,a1,a2] w R:=co (g:=cfg69) Tryz.func69 (by kernel_rfl) (by kernel_rfl) (by kernel_rfl) h
theorem zsu {w:World} {v0:Value} {W0:World} {c:DCode} {v1:Value} {W1:World} {s:DState} {t:Int}  (h0:Is W0 v0 c) (e0:Ext W0 w) (h1:Is W1 v1 s) (e1:Ext W1 w) (hc:CodeR c) (hs:zaz c s) :
   CALL Tryz.prog 69 [v0,v1,.int .i64 t] w fun r w'=>Ext w w'∧(r=.bool (decide (GoR c s t))):=by
 refine F69_call ?_
 unfold F69
 have hat:=ziE hs t
 refine zal zbq rfl h0 e0 fun w1_ hx1_ hA3 hV3=>?_
 refine zal zbM rfl h1 (e1.trans hx1_) fun w2_ hx2_ hA4 hV4=>?_
 refine zan hV4 (Ext.refl w2_) ?_
 refine (zfI h1 (e1.trans (hx1_.trans hx2_))).mono ?_
 rintro _ w3_ ⟨hx3_,rfl⟩
 refine zan hV3 (hx2_.trans hx3_) ?_
 refine (zdv h0 (e0.trans (hx1_.trans (hx2_.trans hx3_)))).mono ?_
 rintro _ w4_ ⟨hx4_,rfl⟩
 refine zas ?_
 refine br (fun c1=>?_) (fun c1=>?_)
 · refine ⟨(hx1_.trans (hx2_.trans (hx3_.trans hx4_))),?_⟩
   have:¬GoR c s t:=fun h=>by have:=h.1;omega
   simp only [this,decide_false]
 refine zaa zba ?_
 refine zab zdN (zaq hA3) (hx2_.trans (hx3_.trans hx4_)) fun v16 h16=>?_
 refine zat u26 zbS h16 (by omega) (by omega) fun b18 o18 h18=>?_
 rw [zaO] at h18
 change At _ _ _ (atI c s t) at h18
 have hat0:0≤zce s t:=by omega
 have hth:=zeg hat0
 refine zaa za5 ?_
 refine zac ty3 (zaG h18) (hx2_.trans (hx3_.trans hx4_)) fun hI20=>?_
 refine zag ?_
 refine br (fun c2=>?_) (fun c2=>?_)
 · have hx5_:=zaj w4_
   refine zan hV4 (hx3_.trans (hx4_.trans hx5_)) ?_
   refine zaa zba ?_
   refine zab zdN (zaq hA3) (hx2_.trans (hx3_.trans (hx4_.trans hx5_))) fun v25 h25=>?_
   refine zat u26 zbS h25 (by omega) (by omega) fun b27 o27 h27=>?_
   rw [zaO] at h27
   change At _ _ _ (atI c s t) at h27
   have hlk:=zeH hc hs hat0 (.inl c2)
   have hor:=znz hs hlk.1 hlk.2
   refine zaa zbY ?_
   refine zac ty3 (za4 h27) (hx2_.trans (hx3_.trans (hx4_.trans hx5_))) fun hI29=>?_
   refine (zfV h1 (e1.trans (hx1_.trans (hx2_.trans (hx3_.trans (hx4_.trans hx5_))))) (by omega) (by omega)).mono ?_
   rintro _ w6_ ⟨hx6_,rfl⟩
   refine zai ?_
   refine ⟨(hx1_.trans (hx2_.trans (hx3_.trans (hx4_.trans (hx5_.trans hx6_))))),?_⟩
   congr 1
   rw [decide_eq_decide]
   exact ⟨fun h=>⟨hat0,fun _=>by omega,fun h4=>by omega⟩,fun h=>by have:=h.2.1 c2;omega⟩
 refine zag ?_
 refine br (fun c3=>?_) (fun c3=>?_)
 · refine zaa zaT ?_
   refine zab zdJ (zau hA4) (hx3_.trans hx4_) fun v35 h35=>?_
   refine zat u29 zbk h35 (by omega) (by omega) fun b37 o37 h37=>?_
   refine zab zbk h37 (hx3_.trans hx4_) fun v38 h38=>?_
   have hln39:=zaf h38
   refine zae u25 h38 ?_
   refine zai ?_
   refine ⟨(hx1_.trans (hx2_.trans (hx3_.trans hx4_))),?_⟩
   congr 1
   rw [decide_eq_decide,ze9 hth.2]
   exact ⟨fun h=>⟨hat0,fun h6=>by omega,fun _=>h⟩,fun h=>h.2.2 c3⟩
 refine ⟨(hx1_.trans (hx2_.trans (hx3_.trans hx4_))),?_⟩
 have:GoR c s t:=⟨hat0,fun h6=>absurd h6 c2,fun h4=>absurd h4 c3⟩
 simp only [this,decide_true]
def F15 (a0 a1 a2:Value) (w:World) (R:VW):Prop:=
 oP (Instr.box 28 a0) w fun x3 w=>
 oP (Instr.box 31 a1) w fun x4 w=>
 rL 28 x3 w fun x7=>
 rL 31 x4 w fun x8=>
 cL 60 [x7,x8] w fun x9 w=>
 BR x9
 (rL 28 x3 w fun x11=>
 rL 31 x4 w fun x12=>
 cL 69 [x11,x12,a2] w fun x14 w=>
 R x14 w)
 (R (Value.bool false) w)
def cfg15:Cfg:=⟨extL,[],[],[],[],[],[]⟩
theorem F15_call {a0 a1 a2:Value} {w:World} {R:VW} (h:F15 a0 a1 a2 w R):cL 15 [a0,a1,a2] w R:=co (g:=cfg15) Tryz.func15 (by kernel_rfl) (by kernel_rfl) (by kernel_rfl) h
theorem zlu {w:World} {v0:Value} {W0:World} {c:DCode} {v1:Value} {W1:World} {s:DState} {t:Int}  (h0:Is W0 v0 c) (e0:Ext W0 w) (h1:Is W1 v1 s) (e1:Ext W1 w)  :
   CALL Tryz.prog 15 [v0,v1,.int .i64 t] w fun r w'=>Ext w w'∧(r=.bool (decide ((CodeR c∧zaz c s)∧GoR c s t))):=by
 refine F15_call ?_
 unfold F15
 refine zal zbq rfl h0 e0 fun w1_ hx1_ hA3 hV3=>?_
 refine zal zbM rfl h1 (e1.trans hx1_) fun w2_ hx2_ hA4 hV4=>?_
 refine zan hV3 hx2_ ?_
 refine zan hV4 (Ext.refl w2_) ?_
 refine (zb8 h0 (e0.trans (hx1_.trans hx2_)) h1 (e1.trans (hx1_.trans hx2_))).mono ?_
 rintro _ w3_ ⟨hx3_,rfl⟩
 refine br (fun c1=>?_) (fun c1=>?_)
 · refine zan hV3 (hx2_.trans hx3_) ?_
   refine zan hV4 hx3_ ?_
   refine (zsu h0 (e0.trans (hx1_.trans (hx2_.trans hx3_))) h1 (e1.trans (hx1_.trans (hx2_.trans hx3_))) c1.1 c1.2).mono ?_
   rintro _ w4_ ⟨hx4_,rfl⟩
   refine ⟨(hx1_.trans (hx2_.trans (hx3_.trans hx4_))),?_⟩
   simp [c1]
 refine ⟨(hx1_.trans (hx2_.trans hx3_)),?_⟩
 simp [c1]
def zav (c:DCode) (s:DState) (t:Int):Int:=if 0≤zce s t∧(atI c s t).op=6∧0≤ow s (atI c s t).arg then (atI c s t).arg else -1
def F68 (a0 a1 a2:Value) (w:World) (R:VW):Prop:=
 oP (Instr.box 28 a0) w fun x3 w=>
 oP (Instr.box 31 a1) w fun x4 w=>
 rL 31 x4 w fun x8=>
 cL 123 [x8,a2] w fun x10 w=>
 (fun w=>rB .lss 3 T0 U0 x10 (iV 0) w fun x12=>
 BR x12
 (R (iV (-1)) w)
 (rF 28 x3 4 w fun x14=>
 rL 26 x14 w fun x15=>
 rX 26 x15 x10 w fun x17=>
 rF 117 x17 0 w fun x18=>
 rL 3 x18 w fun x19=>
 rB .neq 3 T0 U0 x19 (iV 6) w fun x20=>
 BR x20
 (R (iV (-1)) w)
 (rF 31 x4 1 w fun x23=>
 rL 25 x23 w fun x24=>
 rF 28 x3 4 w fun x25=>
 rL 26 x25 w fun x26=>
 rX 26 x26 x10 w fun x28=>
 rF 117 x28 1 w fun x29=>
 rL 3 x29 w fun x30=>
 rX 25 x24 x30 w fun x31=>
 rL 3 x31 w fun x32=>
 rB .lss 3 T0 U0 x32 (iV 0) w fun x33=>
 BR x33
 (R (iV (-1)) w)
 (rF 28 x3 4 w fun x35=>
 rL 26 x35 w fun x36=>
 rX 26 x36 x10 w fun x38=>
 rF 117 x38 1 w fun x39=>
 rL 3 x39 w fun x40=>
 R x40 w)))) (World.drew1 w)
def cfg68:Cfg:=⟨extL,[],[],[(2,[0,1,2,3,4,5,6,7,8,9,10,11,12,13,14,15,16,17,18,19,20,21,22,23],0)],[],[],[]⟩
theorem F68_call {a0 a1 a2:Value} {w:World} {R:VW} (h:F68 a0 a1 a2 w R):cL 68 [a0,a1,a2] w R:=co (g:=cfg68) Tryz.func68 (by kernel_rfl) (by kernel_rfl) (by kernel_rfl) h
theorem zeI {w:World} {v0:Value} {W0:World} {c:DCode} {v1:Value} {W1:World} {s:DState} {t:Int}  (h0:Is W0 v0 c) (e0:Ext W0 w) (h1:Is W1 v1 s) (e1:Ext W1 w) (hc:CodeR c) (hs:zaz c s) :
   CALL Tryz.prog 68 [v0,v1,.int .i64 t] w fun r w'=>Ext w w'∧(r=.int .i64 (zav c s t)):=by
 refine F68_call ?_
 unfold F68
 have hat:=ziE hs t
 refine zal zbq rfl h0 e0 fun w1_ hx1_ hA3 hV3=>?_
 refine zal zbM rfl h1 (e1.trans hx1_) fun w2_ hx2_ hA4 hV4=>?_
 refine zan hV4 (Ext.refl w2_) ?_
 refine (zew h1 (e1.trans (hx1_.trans hx2_))).mono ?_
 rintro _ w3_ ⟨hx3_,rfl⟩
 have hx4_:=zaj w3_
 refine zai ?_
 refine br (fun c1=>?_) (fun c1=>?_)
 · refine ⟨(hx1_.trans (hx2_.trans (hx3_.trans hx4_))),?_⟩
   unfold zav;rw [if_neg (by omega)]
 refine zaa zba ?_
 refine zab zdN (zaq hA3) (hx2_.trans (hx3_.trans hx4_)) fun v15 h15=>?_
 refine zat u26 zbS h15 (by omega) (by omega) fun b17 o17 h17=>?_
 rw [zaO] at h17
 change At _ _ _ (atI c s t) at h17
 have hat0:0≤zce s t:=by omega
 refine zaa za5 ?_
 refine zac ty3 (zaG h17) (hx2_.trans (hx3_.trans hx4_)) fun hI19=>?_
 refine zaM ?_
 refine br (fun c2=>?_) (fun c2=>?_)
 · refine ⟨(hx1_.trans (hx2_.trans (hx3_.trans hx4_))),?_⟩
   unfold zav;rw [if_neg (fun h=>c2 h.2.1)]
 refine zaa zcA ?_
 refine zab zbk (zbd hA4) (hx3_.trans hx4_) fun v24 h24=>?_
 refine zaa zba ?_
 refine zab zdN (zaq hA3) (hx2_.trans (hx3_.trans hx4_)) fun v26 h26=>?_
 refine zat u26 zbS h26 (by omega) (by omega) fun b28 o28 h28=>?_
 rw [zaO] at h28
 change At _ _ _ (atI c s t) at h28
 have hlk:=zeH hc hs hat0 (.inl (Decidable.not_not.1 c2))
 refine zaa zbY ?_
 refine zac ty3 (za4 h28) (hx2_.trans (hx3_.trans hx4_)) fun hI30=>?_
 refine zat u25 ty3 h24 (by omega) (by omega) fun b31 o31 h31=>?_
 refine zac ty3 h31 (hx3_.trans hx4_) fun hI32=>?_
 refine zai ?_
 refine br (fun c3=>?_) (fun c3=>?_)
 · refine ⟨(hx1_.trans (hx2_.trans (hx3_.trans hx4_))),?_⟩
   rw [zfU hlk.1 hlk.2] at c3
   unfold zav;rw [if_neg (by omega)]
 refine zaa zba ?_
 refine zab zdN (zaq hA3) (hx2_.trans (hx3_.trans hx4_)) fun v36 h36=>?_
 refine zat u26 zbS h36 (by omega) (by omega) fun b38 o38 h38=>?_
 rw [zaO] at h38
 change At _ _ _ (atI c s t) at h38
 refine zaa zbY ?_
 refine zac ty3 (za4 h38) (hx2_.trans (hx3_.trans hx4_)) fun hI40=>?_
 refine ⟨(hx1_.trans (hx2_.trans (hx3_.trans hx4_))),?_⟩
 rw [zfU hlk.1 hlk.2] at c3
 unfold zav;rw [if_pos ⟨hat0,by omega,by omega⟩]
def F67 (a0 a1 a2:Value) (w:World) (R:VW):Prop:=
 oP (Instr.box 28 a0) w fun x3 w=>
 oP (Instr.box 31 a1) w fun x4 w=>
 rL 31 x4 w fun x8=>
 cL 89 [x8,a2] w fun x10 w=>
 (fun w=>rL 28 x3 w fun x11=>
 cL 72 [x11,x10] w fun x13 w=>
 rD (Op.unary .not x13) w fun x14=>
 BR x14
 (R (iV (-1)) w)
 (rF 28 x3 4 w fun x16=>
 rL 26 x16 w fun x17=>
 rX 26 x17 x10 w fun x19=>
 rF 117 x19 0 w fun x20=>
 rL 3 x20 w fun x21=>
 rB .neq 3 T0 U0 x21 (iV 6) w fun x22=>
 BR x22
 (R (iV (-1)) w)
 (rL 31 x4 w fun x25=>
 rF 28 x3 4 w fun x26=>
 rL 26 x26 w fun x27=>
 rX 26 x27 x10 w fun x29=>
 rF 117 x29 1 w fun x30=>
 rL 3 x30 w fun x31=>
 cL 119 [x25,x31] w fun x32 w=>
 rB .lss 3 T0 U0 x32 (iV 0) w fun x33=>
 BR x33
 (R (iV (-1)) w)
 (rF 28 x3 4 w fun x35=>
 rL 26 x35 w fun x36=>
 rX 26 x36 x10 w fun x38=>
 rF 117 x38 1 w fun x39=>
 rL 3 x39 w fun x40=>
 R x40 w)))) (World.drew1 w)
def cfg67:Cfg:=⟨extL,[],[],[(2,[0,1,2,3,4,5,6,7,8,9,10,11,12,13,14,15,16,17,18,19,20,21,22,23],0)],[],[],[]⟩
theorem F67_call {a0 a1 a2:Value} {w:World} {R:VW} (h:F67 a0 a1 a2 w R):cL 67 [a0,a1,a2] w R:=co (g:=cfg67) Tryz.func67 (by kernel_rfl) (by kernel_rfl) (by kernel_rfl) h
theorem zkl {w:World} {v0:Value} {W0:World} {c:DCode} {v1:Value} {W1:World} {s:DState} {t:Int}  (h0:Is W0 v0 c) (e0:Ext W0 w) (h1:Is W1 v1 s) (e1:Ext W1 w) (hc:CodeR c) (hs:zaz c s) :
   CALL Tryz.prog 67 [v0,v1,.int .i64 t] w fun r w'=>Ext w w'∧(r=.int .i64 (zav c s t)):=by
 refine F67_call ?_
 unfold F67
 have hat:=ziE hs t
 refine zal zbq rfl h0 e0 fun w1_ hx1_ hA3 hV3=>?_
 refine zal zbM rfl h1 (e1.trans hx1_) fun w2_ hx2_ hA4 hV4=>?_
 refine zan hV4 (Ext.refl w2_) ?_
 refine (zfI h1 (e1.trans (hx1_.trans hx2_))).mono ?_
 rintro _ w3_ ⟨hx3_,rfl⟩
 have hx4_:=zaj w3_
 refine zan hV3 (hx2_.trans (hx3_.trans hx4_)) ?_
 refine (zdv h0 (e0.trans (hx1_.trans (hx2_.trans (hx3_.trans hx4_))))).mono ?_
 rintro _ w5_ ⟨hx5_,rfl⟩
 refine zas ?_
 refine br (fun c1=>?_) (fun c1=>?_)
 · refine ⟨(hx1_.trans (hx2_.trans (hx3_.trans (hx4_.trans hx5_)))),?_⟩
   unfold zav;rw [if_neg (by omega)]
 refine zaa zba ?_
 refine zab zdN (zaq hA3) (hx2_.trans (hx3_.trans (hx4_.trans hx5_))) fun v17 h17=>?_
 refine zat u26 zbS h17 (by omega) (by omega) fun b19 o19 h19=>?_
 rw [zaO] at h19
 change At _ _ _ (atI c s t) at h19
 have hat0:0≤zce s t:=by omega
 refine zaa za5 ?_
 refine zac ty3 (zaG h19) (hx2_.trans (hx3_.trans (hx4_.trans hx5_))) fun hI21=>?_
 refine zaM ?_
 refine br (fun c2=>?_) (fun c2=>?_)
 · refine ⟨(hx1_.trans (hx2_.trans (hx3_.trans (hx4_.trans hx5_)))),?_⟩
   unfold zav;rw [if_neg (fun h=>c2 h.2.1)]
 refine zan hV4 (hx3_.trans (hx4_.trans hx5_)) ?_
 refine zaa zba ?_
 refine zab zdN (zaq hA3) (hx2_.trans (hx3_.trans (hx4_.trans hx5_))) fun v27 h27=>?_
 refine zat u26 zbS h27 (by omega) (by omega) fun b29 o29 h29=>?_
 rw [zaO] at h29
 change At _ _ _ (atI c s t) at h29
 have hlk:=zeH hc hs hat0 (.inl (Decidable.not_not.1 c2))
 refine zaa zbY ?_
 refine zac ty3 (za4 h29) (hx2_.trans (hx3_.trans (hx4_.trans hx5_))) fun hI31=>?_
 refine (zfV h1 (e1.trans (hx1_.trans (hx2_.trans (hx3_.trans (hx4_.trans hx5_))))) (by omega) (by omega)).mono ?_
 rintro _ w6_ ⟨hx6_,rfl⟩
 refine zai ?_
 refine br (fun c3=>?_) (fun c3=>?_)
 · refine ⟨(hx1_.trans (hx2_.trans (hx3_.trans (hx4_.trans (hx5_.trans hx6_))))),?_⟩
   unfold zav;rw [if_neg (by omega)]
 refine zaa zba ?_
 refine zab zdN (zaq hA3) (hx2_.trans (hx3_.trans (hx4_.trans (hx5_.trans hx6_)))) fun v36 h36=>?_
 refine zat u26 zbS h36 (by omega) (by omega) fun b38 o38 h38=>?_
 rw [zaO] at h38
 change At _ _ _ (atI c s t) at h38
 refine zaa zbY ?_
 refine zac ty3 (za4 h38) (hx2_.trans (hx3_.trans (hx4_.trans (hx5_.trans hx6_)))) fun hI40=>?_
 refine ⟨(hx1_.trans (hx2_.trans (hx3_.trans (hx4_.trans (hx5_.trans hx6_))))),?_⟩
 unfold zav;rw [if_pos ⟨hat0,by omega,by omega⟩]
def zeJ (c:DCode) (s:DState) (t:Int):Int:=if CodeR c∧zaz c s then zav c s t else -1
def F14 (a0 a1 a2:Value) (w:World) (R:VW):Prop:=
 oP (Instr.box 28 a0) w fun x3 w=>
 oP (Instr.box 31 a1) w fun x4 w=>
 rL 28 x3 w fun x7=>
 rL 31 x4 w fun x8=>
 cL 64 [x7,x8] w fun x9 w=>
 rD (Op.unary .not x9) w fun x10=>
 BR x10
 (R (iV (-1)) w)
 (rL 28 x3 w fun x11=>
 rL 31 x4 w fun x12=>
 cL 68 [x11,x12,a2] w fun x14 w=>
 R x14 w)
def cfg14:Cfg:=⟨extL,[],[],[],[],[],[]⟩
theorem F14_call {a0 a1 a2:Value} {w:World} {R:VW} (h:F14 a0 a1 a2 w R):cL 14 [a0,a1,a2] w R:=co (g:=cfg14) Tryz.func14 (by kernel_rfl) (by kernel_rfl) (by kernel_rfl) h
theorem zfa {w:World} {v0:Value} {W0:World} {c:DCode} {v1:Value} {W1:World} {s:DState} {t:Int}  (h0:Is W0 v0 c) (e0:Ext W0 w) (h1:Is W1 v1 s) (e1:Ext W1 w)  :
   CALL Tryz.prog 14 [v0,v1,.int .i64 t] w fun r w'=>Ext w w'∧(r=.int .i64 (zeJ c s t)):=by
 refine F14_call ?_
 unfold F14
 refine zal zbq rfl h0 e0 fun w1_ hx1_ hA3 hV3=>?_
 refine zal zbM rfl h1 (e1.trans hx1_) fun w2_ hx2_ hA4 hV4=>?_
 refine zan hV3 hx2_ ?_
 refine zan hV4 (Ext.refl w2_) ?_
 refine (zda h0 (e0.trans (hx1_.trans hx2_)) h1 (e1.trans (hx1_.trans hx2_))).mono ?_
 rintro _ w3_ ⟨hx3_,rfl⟩
 refine zas ?_
 refine br (fun c1=>?_) (fun c1=>?_)
 · refine ⟨(hx1_.trans (hx2_.trans hx3_)),?_⟩
   unfold zeJ;rw [if_neg c1]
 refine zan hV3 (hx2_.trans hx3_) ?_
 refine zan hV4 hx3_ ?_
 refine (zeI h0 (e0.trans (hx1_.trans (hx2_.trans hx3_))) h1 (e1.trans (hx1_.trans (hx2_.trans hx3_))) (Decidable.not_not.1 c1).1 (Decidable.not_not.1 c1).2).mono ?_
 rintro _ w4_ ⟨hx4_,rfl⟩
 refine ⟨(hx1_.trans (hx2_.trans (hx3_.trans hx4_))),?_⟩
 unfold zeJ;rw [if_pos (Decidable.not_not.1 c1)]
def F13 (a0 a1 a2:Value) (w:World) (R:VW):Prop:=
 oP (Instr.box 28 a0) w fun x3 w=>
 oP (Instr.box 31 a1) w fun x4 w=>
 rL 28 x3 w fun x7=>
 rL 31 x4 w fun x8=>
 cL 60 [x7,x8] w fun x9 w=>
 rD (Op.unary .not x9) w fun x10=>
 BR x10
 (R (iV (-1)) w)
 (rL 28 x3 w fun x11=>
 rL 31 x4 w fun x12=>
 cL 67 [x11,x12,a2] w fun x14 w=>
 R x14 w)
def cfg13:Cfg:=⟨extL,[],[],[],[],[],[]⟩
theorem F13_call {a0 a1 a2:Value} {w:World} {R:VW} (h:F13 a0 a1 a2 w R):cL 13 [a0,a1,a2] w R:=co (g:=cfg13) Tryz.func13 (by kernel_rfl) (by kernel_rfl) (by kernel_rfl) h
theorem ziH {w:World} {v0:Value} {W0:World} {c:DCode} {v1:Value} {W1:World} {s:DState} {t:Int}  (h0:Is W0 v0 c) (e0:Ext W0 w) (h1:Is W1 v1 s) (e1:Ext W1 w)  :
   CALL Tryz.prog 13 [v0,v1,.int .i64 t] w fun r w'=>Ext w w'∧(r=.int .i64 (zeJ c s t)):=by
 refine F13_call ?_
 unfold F13
 refine zal zbq rfl h0 e0 fun w1_ hx1_ hA3 hV3=>?_
 refine zal zbM rfl h1 (e1.trans hx1_) fun w2_ hx2_ hA4 hV4=>?_
 refine zan hV3 hx2_ ?_
 refine zan hV4 (Ext.refl w2_) ?_
 refine (zb8 h0 (e0.trans (hx1_.trans hx2_)) h1 (e1.trans (hx1_.trans hx2_))).mono ?_
 rintro _ w3_ ⟨hx3_,rfl⟩
 refine zas ?_
 refine br (fun c1=>?_) (fun c1=>?_)
 · refine ⟨(hx1_.trans (hx2_.trans hx3_)),?_⟩
   unfold zeJ;rw [if_neg c1]
 refine zan hV3 (hx2_.trans hx3_) ?_
 refine zan hV4 hx3_ ?_
 refine (zkl h0 (e0.trans (hx1_.trans (hx2_.trans hx3_))) h1 (e1.trans (hx1_.trans (hx2_.trans hx3_))) (Decidable.not_not.1 c1).1 (Decidable.not_not.1 c1).2).mono ?_
 rintro _ w4_ ⟨hx4_,rfl⟩
 refine ⟨(hx1_.trans (hx2_.trans (hx3_.trans hx4_))),?_⟩
 unfold zeJ;rw [if_pos (Decidable.not_not.1 c1)]
def zdG (c:DCode) (s:DState):Nat→List Int
 | 0=>[]
 | k+1=>if GoR c s k then zdG c s k++[(k:Int)] else zdG c s k
theorem zeK (c:DCode) (s:DState):∀ k,(zdG c s k).length≤k
 | 0=>Nat.le_refl _
 | k+1=>by
   have:=zeK c s k
   rw [zdG]
   split
   · simp;omega
   omega
def za0 (c:DCode) (s:DState):List Int:=zdG c s s.stacks.length
def F57 (a0 a1:Value) (w:World) (R:VW):Prop:=
 oP (Instr.box 28 a0) w fun x2 w=>
 oP (Instr.box 31 a1) w fun x3 w=>
 oP (Instr.buildSlice 25 0 #[]) w fun x7 w=>
 LOOPI [5,6] [x7,(iV 0)] w fun u3 w next3=>
 rF 31 x3 2 w fun x9=>
 rL 29 x9 w fun x10=>
 rN 29 3 x10 w fun x11=>
 rC (u3 6) x11 w fun x12=>
 BR x12
 (rL 28 x2 w fun x15=>
 rL 31 x3 w fun x16=>
 cL 116 [x15,x16,(u3 6)] w fun x18 w=>
 BR x18
 (oP (Instr.buildSlice 25 1 #[(0,(u3 6))]) w fun x21 w=>
 oP (Builtin.append_ #[25,25] 25 [(u3 5),x21].toArray) w fun x22 w=>
 rA (u3 6) (iV 1) w fun x14=>
 next3 [x22,x14] w)
 (rA (u3 6) (iV 1) w fun x14=>
 next3 [(u3 5),x14] w))
 (R (u3 5) w)
def cfg57:Cfg:=⟨extL,[],[(3,8388448,[5,6])],[],[],[],[]⟩
theorem F57_call {a0 a1:Value} {w:World} {R:VW} (h:F57 a0 a1 w R):cL 57 [a0,a1] w R:=co (g:=cfg57) Tryz.func57 (by kernel_rfl) (by kernel_rfl) (by kernel_rfl) h
theorem ziI {w:World} {v0:Value} {W0:World} {c:DCode} {v1:Value} {W1:World} {s:DState}  (h0:Is W0 v0 c) (e0:Ext W0 w) (h1:Is W1 v1 s) (e1:Ext W1 w) (hc:CodeR c) (hs:zaz c s) :
   CALL Tryz.prog 57 [v0,v1] w fun r w'=>Ext w w'∧(Own w.heap.size w' r (za0 c s)):=by
 refine F57_call ?_
 unfold F57
 have hmany:=hs.2.2.1
 have hs_e0:=e0.size
 have hs_e1:=e1.size
 refine zal zbq rfl h0 e0 fun w1_ hx1_ hA2 hV2=>?_
 have hs_hx1_:=hx1_.size
 refine zal zbM rfl h1 (e1.trans hx1_) fun w2_ hx2_ hA3 hV3=>?_
 have hs_hx2_:=hx2_.size
 refine zaK (α:=Int) u25 ty3 fun v7 w3_ hx3_ o7=>?_
 have hs_hx3_:=hx3_.size
 refine zaE (s.stacks.length) (fun k us w'=>∃ v:Value,us=[v,.int .i64 (k:Int)]∧Ext w3_ w'∧(RowI w3_.heap.size w'.heap.size 3 w' v (zdG c s k))) (0) (by omega) ⟨_,rfl,Ext.refl w3_,zcg _ _ _ _ _⟩ ?_
 rintro k m3 uu3 w4_ hk3 ⟨v5,hu,hx4_,hrow⟩
 have hs_hx4_:=hx4_.size
 obtain ⟨hu0,hu1⟩:=zfZ hu
 try rw [hu0]
 try rw [hu1]
 try clear hu0 hu1
 have hrl:=zeK c s k
 refine zaa zaT ?_
 refine zab zdJ (zau hA3) (hx3_.trans hx4_) fun v10 h10=>?_
 have hln11:=zaf h10
 refine zae u29 h10 ?_
 refine zai ?_
 refine br (fun c1=>?_) (fun c1=>?_)
 · refine zan hV2 (hx2_.trans (hx3_.trans hx4_)) ?_
   refine zan hV3 (hx3_.trans hx4_) ?_
   refine (zq0 h0 (e0.trans (hx1_.trans (hx2_.trans (hx3_.trans hx4_)))) h1 (e1.trans (hx1_.trans (hx2_.trans (hx3_.trans hx4_)))) (by assumption) (by assumption)).mono ?_
   rintro _ w5_ ⟨hx5_,rfl⟩
   have hs_hx5_:=hx5_.size
   refine br (fun c2=>?_) (fun c2=>?_)
   · refine zch (α:=Int) u25 ty3 z3 zc3 (by decide) (hrow.ext hx5_) (by omega) (zcc (lo:=w5_.heap.size) (hi:=w5_.heap.size) (by first | assumption | (unfold I64 at *;omega))) (by omega) (by omega) (by rw [zam];omega) (by omega) fun v22 w6_ hc6_ o22=>?_
     have hs_hc6_:=hc6_.size
     have o7_c6:=(o7.ext (hx4_.trans hx5_)).chg hc6_ (by omega)
     refine zah (by omega) ?_
     refine ⟨m3-1,by omega,k+1,by omega,_,rfl,(Ext.chgI (hx4_.trans hx5_) hc6_ (by omega)),?_⟩
     rw [zdG,if_pos c2];exact o22
   refine zah (by omega) ?_
   refine ⟨m3-1,by omega,k+1,by omega,_,rfl,(hx4_.trans hx5_),?_⟩
   rw [zdG,if_neg c2];exact (hrow.ext hx5_).mono (by omega) (by omega)
 refine ⟨(hx1_.trans (hx2_.trans (hx3_.trans hx4_))),?_⟩
 have:k=s.stacks.length:=by omega
 subst this
 exact hrow.own.own.mono (by omega)
def zlv (c:DCode) (s:DState):Prop:=(CodeR c∧zaz c s)∧¬zrB s∧za0 c s=[]
instance (c:DCode) (s:DState):Decidable (zlv c s):=by unfold zlv;infer_instance
theorem zkm {n:Int} (h:0≤n):n.tmod 1000=n%1000:=Int.tmod_eq_emod_of_nonneg h
theorem zkn {n:Int} (h:n<0):n.tmod 1000=-((-n)%1000):=by
 have h1:(-n).tmod 1000=(-n)%1000:=Int.tmod_eq_emod_of_nonneg (by omega)
 rw [Int.neg_tmod] at h1
 omega
theorem zsv (n:Int):-1000<n.tmod 1000∧n.tmod 1000<1000:=by
 rcases Int.lt_or_le n 0 with h | h
 · rw [zkn h];omega
 rw [zkm h];omega
def F260 (a0:Value) (w:World) (R:VW):Prop:=
 BR a0
 (R (iV 1) w)
 (R (iV 0) w)
def cfg260:Cfg:=⟨extL,[],[],[],[],[],[]⟩
theorem F260_call {a0:Value} {w:World} {R:VW} (h:F260 a0 w R):cL 260 [a0] w R:=co (g:=cfg260) Tryz.func260 (by kernel_rfl) (by kernel_rfl) (by kernel_rfl) h
theorem zfb {w:World} {b:Bool}    :
   CALL Tryz.prog 260 [.bool b] w fun r w'=>Ext w w'∧(r=.int .i64 (if b=true then 1 else 0)):=by
 refine F260_call ?_
 unfold F260
 refine zcM (fun c1=>?_) (fun c1=>?_)
 · refine ⟨Ext.refl w,?_⟩
   rw [if_pos c1]
 refine ⟨Ext.refl w,?_⟩
 rw [if_neg (by simp [c1])]
def F259 (a0:Value) (w:World) (R:VW):Prop:=
 rB .rem 3 T0 U0 a0 (iV 1000) w fun x4=>
 rB .lss 3 T0 U0 x4 (iV 0) w fun x6=>
 BR x6
 (rA x4 (iV 1000) w fun x8=>
 R x8 w)
 (R x4 w)
def cfg259:Cfg:=⟨extL,[],[],[],[],[],[]⟩
theorem F259_call {a0:Value} {w:World} {R:VW} (h:F259 a0 w R):cL 259 [a0] w R:=co (g:=cfg259) Tryz.func259 (by kernel_rfl) (by kernel_rfl) (by kernel_rfl) h
theorem zfc {w:World} {n:Int}   (hn:I64 n) :
   CALL Tryz.prog 259 [.int .i64 n] w fun r w'=>Ext w w'∧(r=.int .i64 (n%1000)):=by
 refine F259_call ?_
 unfold F259
 have ht:=zsv n
 refine zoM (by omega) ?_
 refine zai ?_
 refine br (fun c1=>?_) (fun c1=>?_)
 · refine zcp (by unfold I64;omega) ?_
   refine ⟨Ext.refl w,?_⟩
   congr 1
   rcases Int.lt_or_le n 0 with h | h
   · rw [zkn h] at c1 ⊢;try omega
   rw [zkm h] at c1 ⊢;try omega
 refine ⟨Ext.refl w,?_⟩
 congr 1
 rcases Int.lt_or_le n 0 with h | h
 · rw [zkn h] at c1 ⊢;try omega
 rw [zkm h] at c1 ⊢;try omega
def zaR:DTerm:=.mk 0 0 (ByteArray.mk #[]) []
def workT (names:List ByteArray) (vals:List Int):Nat→DTerm→Int
 | n,t=>if t.kind=1 then t.num%1000 else if t.kind=2 then (if 0≤plc t.name names∧plc t.name names<vals.length then vals.getD (plc t.name names).toNat 0%1000 else 0) else
   match n with
   | 0=>0
   | m+1=>
     if t.kind=8 then (if workT names vals m (t.kids.getD 0 zaR)=0 then 1 else 0)
     else if t.kind=3 then (workT names vals m (t.kids.getD 0 zaR)+workT names vals m (t.kids.getD 1 zaR))%1000
     else if t.kind=4 then (workT names vals m (t.kids.getD 0 zaR)-workT names vals m (t.kids.getD 1 zaR))%1000
     else if t.kind=5 then (workT names vals m (t.kids.getD 0 zaR)*workT names vals m (t.kids.getD 1 zaR))%1000
     else if t.kind=6 then (if workT names vals m (t.kids.getD 0 zaR)<workT names vals m (t.kids.getD 1 zaR) then 1 else 0)
     else if t.kind=7 then (if workT names vals m (t.kids.getD 0 zaR)=workT names vals m (t.kids.getD 1 zaR) then 1 else 0)
     else (if workT names vals m (t.kids.getD 0 zaR)≠0∧workT names vals m (t.kids.getD 1 zaR)≠0 then 1 else 0)
theorem zbR (names:List ByteArray) (vals:List Int) (n:Nat) (t:DTerm):workT names vals n t=(if t.kind=1 then t.num%1000 else if t.kind=2 then (if 0≤plc t.name names∧plc t.name names<vals.length then vals.getD (plc t.name names).toNat 0%1000 else 0) else
   match n with
   | 0=>0
   | m+1=>
     if t.kind=8 then (if workT names vals m (t.kids.getD 0 zaR)=0 then 1 else 0)
     else if t.kind=3 then (workT names vals m (t.kids.getD 0 zaR)+workT names vals m (t.kids.getD 1 zaR))%1000
     else if t.kind=4 then (workT names vals m (t.kids.getD 0 zaR)-workT names vals m (t.kids.getD 1 zaR))%1000
     else if t.kind=5 then (workT names vals m (t.kids.getD 0 zaR)*workT names vals m (t.kids.getD 1 zaR))%1000
     else if t.kind=6 then (if workT names vals m (t.kids.getD 0 zaR)<workT names vals m (t.kids.getD 1 zaR) then 1 else 0)
     else if t.kind=7 then (if workT names vals m (t.kids.getD 0 zaR)=workT names vals m (t.kids.getD 1 zaR) then 1 else 0)
     else (if workT names vals m (t.kids.getD 0 zaR)≠0∧workT names vals m (t.kids.getD 1 zaR)≠0 then 1 else 0)):=workT.eq_def names vals n t
theorem zeL (names:List ByteArray) (vals:List Int) (n:Nat) (t:DTerm):0≤workT names vals n t∧workT names vals n t≤999:=by
 rw [zbR]
 cases n<;>simp only<;>(repeat' split)<;>omega
theorem zsw {n:Nat} {t:DTerm} (h:zaQ n t=true) (h1:¬t.kind=1) (h2:¬t.kind=2):∃ m,n=m+1∧0<t.kids.length∧zaQ m (t.kids.getD 0 zaR)=true∧(¬t.kind=8→1<t.kids.length∧zaQ m (t.kids.getD 1 zaR)=true):=by
 rw [za1 h1 h2] at h
 simp only [Bool.and_eq_true,decide_eq_true_eq] at h
 obtain ⟨⟨_,h3⟩,h4⟩:=h
 cases n with
 | zero=>simp at h4
 | succ m=>
   have hall:∀ k∈t.kids,zaQ m k=true:=fun k hk=>List.all_eq_true.1 h4 k hk
   have hg:∀ i,i<t.kids.length→zaQ m (t.kids.getD i zaR)=true:=fun i hi=>by
     rw [List.getD_eq_getElem?_getD,List.getElem?_eq_getElem hi];exact hall _ (List.getElem_mem hi)
   have hpos:0<t.kids.length:=by split at h3<;>omega
   exact ⟨m,rfl,hpos,hg 0 hpos,fun h8=>by rw [if_neg h8] at h3;exact ⟨by omega,hg 1 (by omega)⟩⟩
def ztw (f:Nat) (n:Nat):Prop:=∀ {w W W1 W2:World} {v v1 v2:Value} {t:DTerm} {names:List ByteArray} {vals:List Int},Is W v t→Ext W w→Is W1 v1 names→Ext W1 w→Is W2 v2 vals→Ext W2 w→zaQ n t=true →
 CALL Tryz.prog f [v,v1,v2] w fun r w'=>Ext w w'∧r=.int .i64 (workT names vals n t)
def F195 (a0 a1 a2:Value) (w:World) (R:VW):Prop:=
 oP (Instr.box 78 a0) w fun x3 w=>
 rF 78 x3 0 w fun x10=>
 rL 3 x10 w fun x11=>
 rB .eql 3 T0 U0 x11 (iV 1) w fun x13=>
 BR x13
 (rF 78 x3 1 w fun x14=>
 rL 3 x14 w fun x15=>
 cL 259 [x15] w fun x16 w=>
 R x16 w)
 (rB .eql 3 T0 U0 x11 (iV 2) w fun x18=>
 BR x18
 (LOOPI [7] [(iV 0)] w fun u6 w next6=>
 rN 24 3 a1 w fun x21=>
 rC (u6 7) x21 w fun x22=>
 BR x22
 ((fun w=>rX 24 a1 (u6 7) w fun x27=>
 rL 9 x27 w fun x28=>
 rF 78 x3 2 w fun x29=>
 rL 9 x29 w fun x30=>
 rB .eql 9 T0 T0 x28 x30 w fun x31=>
 BR x31
 (rN 25 3 a2 w fun x34=>
 rC (u6 7) x34 w fun x35=>
 BR x35
 (rX 25 a2 (u6 7) w fun x38=>
 rL 3 x38 w fun x39=>
 cL 259 [x39] w fun x40 w=>
 R x40 w)
 (R (iV 0) w))
 (rA (u6 7) (iV 1) w fun x24=>
 next6 [x24] w)) (World.drew1 w))
 (R (iV 0) w))
 (rF 78 x3 3 w fun x41=>
 rL 76 x41 w fun x42=>
 rX 76 x42 (iV 0) w fun x43=>
 rL 78 x43 w fun x44=>
 cL 195 [x44,a1,a2] w fun x47 w=>
 rF 78 x3 0 w fun x48=>
 rL 3 x48 w fun x49=>
 rB .eql 3 T0 U0 x49 (iV 8) w fun x50=>
 BR x50
 (rB .eql 3 T0 U0 x47 (iV 0) w fun x52=>
 cL 260 [x52] w fun x53 w=>
 R x53 w)
 (rF 78 x3 3 w fun x54=>
 rL 76 x54 w fun x55=>
 rX 76 x55 (iV 1) w fun x56=>
 rL 78 x56 w fun x57=>
 cL 195 [x57,a1,a2] w fun x60 w=>
 rF 78 x3 0 w fun x61=>
 rL 3 x61 w fun x62=>
 rB .eql 3 T0 U0 x62 (iV 3) w fun x64=>
 BR x64
 (rB .add 3 T0 T0 x47 x60 w fun x67=>
 cL 259 [x67] w fun x68 w=>
 R x68 w)
 (rB .eql 3 T0 U0 x62 (iV 4) w fun x70=>
 BR x70
 (rB .sub 3 T0 T0 x47 x60 w fun x73=>
 cL 259 [x73] w fun x74 w=>
 R x74 w)
 (rB .eql 3 T0 U0 x62 (iV 5) w fun x76=>
 BR x76
 (rB .mul 3 T0 T0 x47 x60 w fun x79=>
 cL 259 [x79] w fun x80 w=>
 R x80 w)
 (rB .eql 3 T0 U0 x62 (iV 6) w fun x82=>
 BR x82
 (rC x47 x60 w fun x85=>
 cL 260 [x85] w fun x86 w=>
 R x86 w)
 (rB .eql 3 T0 U0 x62 (iV 7) w fun x88=>
 BR x88
 (rB .eql 3 T0 T0 x47 x60 w fun x91=>
 cL 260 [x91] w fun x92 w=>
 R x92 w)
 (rB .neq 3 T0 U0 x47 (iV 0) w fun x94=>
 BR x94
 (rB .neq 3 T0 U0 x60 (iV 0) w fun x97=>
 cL 260 [x97] w fun x99 w=>
 R x99 w)
 (cL 260 [(Value.bool false)] w fun x99 w=>
 R x99 w)))))))))
def cfg195:Cfg:=⟨extL,[],[(6,2199022731456,[7])],[(8,[0,1,2,3,4,5,6],0)],[],[],[]⟩
theorem F195_call {a0 a1 a2:Value} {w:World} {R:VW} (h:F195 a0 a1 a2 w R):cL 195 [a0,a1,a2] w R:=co (g:=cfg195) Tryz.func195 (by kernel_rfl) (by kernel_rfl) (by kernel_rfl) h
theorem zhx {w:World} {v0:Value} {W0:World} {t:DTerm} {v1:Value} {W1:World} {names:(List ByteArray)} {v2:Value} {W2:World} {vals:(List Int)} {n:Nat} (h0:Is W0 v0 t) (e0:Ext W0 w) (h1:Is W1 v1 names) (e1:Ext W1 w) (h2:Is W2 v2 vals) (e2:Ext W2 w) (ih:∀ m,n=m+1→ztw 195 m) (hok:zaQ n t=true) :
   CALL Tryz.prog 195 [v0,v1,v2] w fun r w'=>Ext w w'∧(r=.int .i64 (workT names vals n t)):=by
 refine F195_call ?_
 unfold F195
 refine zal zcs rfl h0 e0 fun w1_ hx1_ hA3 hV3=>?_
 refine zaa zd7 ?_
 refine zac ty3 (zbu hA3) (Ext.refl w1_) fun hI11=>?_
 refine zag ?_
 refine br (fun c1=>?_) (fun c1=>?_)
 · refine zaa zeQ ?_
   refine zac ty3 (zbE hA3) (Ext.refl w1_) fun hI15=>?_
   refine (zfc (by first | assumption | (unfold I64 at *;omega))).mono ?_
   rintro _ w2_ ⟨hx2_,rfl⟩
   refine ⟨(hx1_.trans hx2_),?_⟩
   rw [zbR names vals n t,if_pos c1]
 refine zag ?_
 refine br (fun c2=>?_) (fun c2=>?_)
 · refine zaE (names.length) (fun k us w'=>us=[.int .i64 (k:Int)]∧Ext w1_ w'∧(t.name∉names.take k)) (0) (by omega) ⟨by simp,Ext.refl w1_,by simp⟩ ?_
   rintro k m6 uu6 w3_ hk6 ⟨hu,hx3_,hinv⟩
   simp only [List.map_cons,List.map_nil,List.cons.injEq,and_true] at hu
   try rw [hu]
   try clear hu
   have hnl:=zaf h1
   have hln21:=zaf h1
   refine zae u24 h1 ?_
   refine zai ?_
   refine br (fun c3=>?_) (fun c3=>?_)
   · have hx4_:=zaj w3_
     refine zad u24 ty9 h1 (by omega) fun b27 o27 h27=>?_
     refine zao ty9 h27 (e1.trans (hx1_.trans (hx3_.trans hx4_))) fun hS28=>?_
     refine zaa zdO ?_
     refine zao ty9 (zbj hA3) (hx3_.trans hx4_) fun hS30=>?_
     refine zay ?_
     refine br (fun c4=>?_) (fun c4=>?_)
     · have hln34:=zaf h2
       refine zae u25 h2 ?_
       refine zai ?_
       refine br (fun c5=>?_) (fun c5=>?_)
       · refine zad u25 ty3 h2 (by omega) fun b38 o38 h38=>?_
         refine zac ty3 h38 (e2.trans (hx1_.trans (hx3_.trans hx4_))) fun hI39=>?_
         refine (zfc (by first | assumption | (unfold I64 at *;omega))).mono ?_
         rintro _ w5_ ⟨hx5_,rfl⟩
         refine ⟨(hx1_.trans (hx3_.trans (hx4_.trans hx5_))),?_⟩
         have hp:=zje (s:=t.name) (l:=names) (k:=k) (by omega) hinv c4
         rw [zbR names vals n t,if_neg c1,if_pos c2,hp,if_pos (by omega)]
         congr 1
         rw [Int.toNat_natCast,List.getD_eq_getElem?_getD,List.getElem?_eq_getElem (by omega)];rfl
       refine ⟨(hx1_.trans (hx3_.trans hx4_)),?_⟩
       have hp:=zje (s:=t.name) (l:=names) (k:=k) (by omega) hinv c4
       rw [zbR names vals n t,if_neg c1,if_pos c2,hp,if_neg (by omega)]
     refine zah (by omega) ?_
     refine ⟨m6-1,by omega,k+1,by omega,by simp,(hx3_.trans hx4_),?_⟩
     exact zb6 (by omega) hinv c4
   refine ⟨(hx1_.trans hx3_),?_⟩
   rw [List.take_of_length_le (by omega)] at hinv
   rw [zbR names vals n t,if_neg c1,if_pos c2,zhH hinv,if_neg (by omega)]
 refine zaa zbL ?_
 refine zab zgI (zaJ hA3) (Ext.refl w1_) fun v42 h42=>?_
 obtain ⟨m,hn1,hk0,hok0,hk1⟩:=zsw hok c1 c2
 have hw0:=zeL names vals m (t.kids.getD 0 zaR)
 have hw1:=zeL names vals m (t.kids.getD 1 zaR)
 refine zat u76 zcs h42 (by omega) (by omega) fun b43 o43 h43=>?_
 have hgd:t.kids[(0:Int).toNat]'(by simpa using hk0)=t.kids.getD 0 zaR:=by rw [List.getD_eq_getElem?_getD,List.getElem?_eq_getElem hk0];rfl
 rw [hgd] at h43
 refine zab zcs h43 (Ext.refl w1_) fun v44 h44=>?_
 refine (ih m hn1 h44 (Ext.refl w1_) h1 (e1.trans hx1_) h2 (e2.trans hx1_) (by assumption)).mono ?_
 rintro _ w6_ ⟨hx6_,rfl⟩
 refine zaa zd7 ?_
 refine zac ty3 (zbu hA3) hx6_ fun hI49=>?_
 refine zag ?_
 refine br (fun c6=>?_) (fun c6=>?_)
 · refine zag ?_
   refine (zfb ).mono ?_
   rintro _ w7_ ⟨hx7_,rfl⟩
   refine ⟨(hx1_.trans (hx6_.trans hx7_)),?_⟩
   rw [zbR names vals n t,if_neg c1,if_neg c2,hn1]
   simp only [c6,if_true,decide_eq_true_eq]
 refine zaa zbL ?_
 refine zab zgI (zaJ hA3) hx6_ fun v55 h55=>?_
 obtain ⟨hk2,hok1⟩:=hk1 c6
 refine zat u76 zcs h55 (by omega) (by omega) fun b56 o56 h56=>?_
 have hgd1:t.kids[(1:Int).toNat]'(by simpa using hk2)=t.kids.getD 1 zaR:=by rw [List.getD_eq_getElem?_getD,List.getElem?_eq_getElem hk2];rfl
 rw [hgd1] at h56
 refine zab zcs h56 hx6_ fun v57 h57=>?_
 refine (ih m hn1 h57 hx6_ h1 (e1.trans (hx1_.trans hx6_)) h2 (e2.trans (hx1_.trans hx6_)) (by assumption)).mono ?_
 rintro _ w8_ ⟨hx8_,rfl⟩
 refine zaa zd7 ?_
 refine zac ty3 (zbu hA3) (hx6_.trans hx8_) fun hI62=>?_
 refine zag ?_
 refine br (fun c7=>?_) (fun c7=>?_)
 · refine zcp (by unfold I64;omega) ?_
   refine (zfc (by first | assumption | (unfold I64 at *;omega))).mono ?_
   rintro _ w9_ ⟨hx9_,rfl⟩
   refine ⟨(hx1_.trans (hx6_.trans (hx8_.trans hx9_))),?_⟩
   rw [zbR names vals n t,if_neg c1,if_neg c2,hn1]
   dsimp only
   generalize workT names vals m (t.kids.getD 0 zaR)=a at *
   generalize workT names vals m (t.kids.getD 1 zaR)=b at *
   simp_all
 refine zag ?_
 refine br (fun c8=>?_) (fun c8=>?_)
 · refine za2 (by unfold I64;omega) ?_
   refine (zfc (by first | assumption | (unfold I64 at *;omega))).mono ?_
   rintro _ w10_ ⟨hx10_,rfl⟩
   refine ⟨(hx1_.trans (hx6_.trans (hx8_.trans hx10_))),?_⟩
   rw [zbR names vals n t,if_neg c1,if_neg c2,hn1]
   dsimp only
   generalize workT names vals m (t.kids.getD 0 zaR)=a at *
   generalize workT names vals m (t.kids.getD 1 zaR)=b at *
   simp_all
 refine zag ?_
 refine br (fun c9=>?_) (fun c9=>?_)
 · refine zkK (by unfold I64;have h1:=Int.mul_nonneg hw0.1 hw1.1;have h2:=Int.mul_le_mul hw0.2 hw1.2 hw1.1 (by omega:(0:Int)≤999);omega) ?_
   have hmul:=Int.mul_nonneg hw0.1 hw1.1;have hmul2:=Int.mul_le_mul hw0.2 hw1.2 hw1.1 (by omega:(0:Int)≤999)
   refine (zfc (by first | assumption | (unfold I64 at *;omega))).mono ?_
   rintro _ w11_ ⟨hx11_,rfl⟩
   refine ⟨(hx1_.trans (hx6_.trans (hx8_.trans hx11_))),?_⟩
   rw [zbR names vals n t,if_neg c1,if_neg c2,hn1]
   dsimp only
   generalize workT names vals m (t.kids.getD 0 zaR)=a at *
   generalize workT names vals m (t.kids.getD 1 zaR)=b at *
   simp_all
 refine zag ?_
 refine br (fun c10=>?_) (fun c10=>?_)
 · refine zai ?_
   refine (zfb ).mono ?_
   rintro _ w12_ ⟨hx12_,rfl⟩
   refine ⟨(hx1_.trans (hx6_.trans (hx8_.trans hx12_))),?_⟩
   rw [zbR names vals n t,if_neg c1,if_neg c2,hn1]
   dsimp only
   generalize workT names vals m (t.kids.getD 0 zaR)=a at *
   generalize workT names vals m (t.kids.getD 1 zaR)=b at *
   simp_all
 refine zag ?_
 refine br (fun c11=>?_) (fun c11=>?_)
 · refine zag ?_
   refine (zfb ).mono ?_
   rintro _ w13_ ⟨hx13_,rfl⟩
   refine ⟨(hx1_.trans (hx6_.trans (hx8_.trans hx13_))),?_⟩
   rw [zbR names vals n t,if_neg c1,if_neg c2,hn1]
   dsimp only
   generalize workT names vals m (t.kids.getD 0 zaR)=a at *
   generalize workT names vals m (t.kids.getD 1 zaR)=b at *
   simp_all
 refine zaM ?_
 refine br (fun c12=>?_) (fun c12=>?_)
 · refine zaM ?_
   refine (zfb ).mono ?_
   rintro _ w14_ ⟨hx14_,rfl⟩
   refine ⟨(hx1_.trans (hx6_.trans (hx8_.trans hx14_))),?_⟩
   rw [zbR names vals n t,if_neg c1,if_neg c2,hn1]
   dsimp only
   generalize workT names vals m (t.kids.getD 0 zaR)=a at *
   generalize workT names vals m (t.kids.getD 1 zaR)=b at *
   simp_all
 refine (zfb ).mono ?_
 rintro _ w15_ ⟨hx15_,rfl⟩
 refine ⟨(hx1_.trans (hx6_.trans (hx8_.trans hx15_))),?_⟩
 rw [zbR names vals n t,if_neg c1,if_neg c2,hn1]
 dsimp only
 generalize workT names vals m (t.kids.getD 0 zaR)=a at *
 generalize workT names vals m (t.kids.getD 1 zaR)=b at *
 simp_all
theorem zok (n:Nat):ztw 195 n:=by
 induction n with
 | zero=>intro w W W1 W2 v v1 v2 t names vals h e h1 e1 h2 e2 hok;exact zhx h e h1 e1 h2 e2 (fun m hm=>by omega) hok
 | succ n ih=>intro w W W1 W2 v v1 v2 t names vals h e h1 e1 h2 e2 hok;exact zhx h e h1 e1 h2 e2 (fun m hm=>Nat.succ.inj hm▸ih) hok
def F117 (a0 a1 a2:Value) (w:World) (R:VW):Prop:=
 oP (Instr.box 78 a0) w fun x3 w=>
 rL 78 x3 w fun x7=>
 cL 194 [x7] w fun x8 w=>
 rD (Op.unary .not x8) w fun x9=>
 BR x9
 (R (iV 0) w)
 (rL 78 x3 w fun x10=>
 cL 195 [x10,a1,a2] w fun x13 w=>
 R x13 w)
def cfg117:Cfg:=⟨extL,[],[],[],[],[],[]⟩
theorem F117_call {a0 a1 a2:Value} {w:World} {R:VW} (h:F117 a0 a1 a2 w R):cL 117 [a0,a1,a2] w R:=co (g:=cfg117) Tryz.func117 (by kernel_rfl) (by kernel_rfl) (by kernel_rfl) h
theorem zgA {w:World} {v0:Value} {W0:World} {t:DTerm} {v1:Value} {W1:World} {names:(List ByteArray)} {v2:Value} {W2:World} {vals:(List Int)}  (h0:Is W0 v0 t) (e0:Ext W0 w) (h1:Is W1 v1 names) (e1:Ext W1 w) (h2:Is W2 v2 vals) (e2:Ext W2 w) (hok:zaQ 6 t=true) :
   CALL Tryz.prog 117 [v0,v1,v2] w fun r w'=>Ext w w'∧(r=.int .i64 (workT names vals 6 t)):=by
 refine F117_call ?_
 unfold F117
 refine zal zcs rfl h0 e0 fun w1_ hx1_ hA3 hV3=>?_
 refine zan hV3 (Ext.refl w1_) ?_
 refine (zbZ h0 (e0.trans hx1_)).mono ?_
 rintro _ w2_ ⟨hx2_,rfl⟩
 refine zbs ?_
 refine zcM (fun c1=>?_) (fun c1=>?_)
 · refine ⟨(hx1_.trans hx2_),?_⟩
   simp [hok] at c1
 refine zan hV3 hx2_ ?_
 refine (zok 6 h0 (e0.trans (hx1_.trans hx2_)) h1 (e1.trans (hx1_.trans hx2_)) h2 (e2.trans (hx1_.trans hx2_)) (by assumption)).mono ?_
 rintro _ w3_ ⟨hx3_,rfl⟩
 refine ⟨(hx1_.trans (hx2_.trans hx3_)),?_⟩
 rfl
def zeh (c:DCode) (s:DState) (t:Int):Int:=
 if (atI c s t).op=2 then (if workT c.globals s.vars 6 (atI c s t).term=0 then (atI c s t).to else zce s t+1) else if (atI c s t).op=3 then (atI c s t).to else zce s t+1
def zb3 (c:DCode) (s:DState) (t:Int):DState:=
 if (atI c s t).op=1 then ⟨s.vars.set (atI c s t).arg.toNat (workT c.globals s.vars 6 (atI c s t).term),s.owner,s.stacks⟩
 else if (atI c s t).op=5 then (if s.stacks.length<6 then ⟨s.vars,s.owner,s.stacks++[[en c (atI c s t).arg.toNat]]⟩ else s)
 else if (atI c s t).op=6 then ⟨s.vars,s.owner.set (atI c s t).arg.toNat t,s.stacks⟩
 else if (atI c s t).op=7 then (if ow s (atI c s t).arg=t then ⟨s.vars,s.owner.set (atI c s t).arg.toNat (-1),s.stacks⟩ else s)
 else s
def zlw (l:List Int):List Int:=if l.length-1=0 then [] else (l.take (l.length-1)).set (l.length-2) (st l (l.length-2)+1)
def zgB (c:DCode) (s:DState) (t:Int):DState:=
 if (atI c s t).op=4 then ⟨s.vars,s.owner,s.stacks.set t.toNat (stk s t++[en c (atI c s t).arg.toNat])⟩
 else if (atI c s t).op=9 then ⟨s.vars,s.owner,s.stacks.set t.toNat (zlw (stk s t))⟩
 else ⟨(zb3 c s t).vars,(zb3 c s t).owner,(zb3 c s t).stacks.set t.toNat ((stk s t).set ((stk s t).length-1) (zeh c s t))⟩
theorem znA {c:DCode} {s:DState} {t:Int} (hs:zaz c s) (hg:0≤zce s t):∃ tn:Nat,t=tn∧tn<s.stacks.length∧stk s t≠[]∧(stk s t).length≤8∧zce s t=st (stk s t) ((stk s t).length-1):=by
 obtain ⟨h0,h1⟩:=zeg hg
 have h2:=zny h0 h1
 have hne:stk s t≠[]:=fun e=>by rw [h2,e] at hg;simp [List.getLastD] at hg
 have hm:=hs.2.2.2.2.2 (stk s t) (by rw [←ze9 h1];exact List.getElem_mem _)
 exact ⟨t.toNat,by omega,h1,hne,hm.1,by rw [h2,zpQ hne]⟩
theorem zsx {c:DCode} {s:DState} (hc:CodeR c) (hs:zaz c s):zul s:=by
 have h1:=hc.1.globals6
 have h2:=hc.1.locks6
 have h3:=hs.1
 have h4:=hs.2.1
 have h5:=hs.2.2.1
 exact ⟨by omega,by omega,by omega,fun x hx=>by have:=(hs.2.2.2.2.2 x hx).1;omega⟩
theorem zdH {P:Program} {w:World} {t e:TypeId} {b a n cap sz by_ k:Nat} {ag:Bool} {u:Value} {K:Value→Prop} (ht:P.underlying t=some (.slice e)) (he:tyI P e=some (sz,by_,ag)) (hu:u=.slice (some ⟨b,a,none⟩) n cap) (hk:k<n) (kk:K (.pointer (some ⟨b,a+k*sz,none⟩))) :
   RD P (Instr.indexAt t u (.int .i64 (k:Int))) w K:=by
 subst hu
 exact zaV (fun w' _=>by rw [zbg ht he (by omega) (by omega)];simp) kk
theorem zlx {lo hi g k:Nat} {w:World} {z:DStV} (h:VarI lo hi w g z) (hg:lo≤g∧g<hi) (hk:k<z.owner.length):∃ u b a cap,w.rangeAt g (0+1) [u]∧Is w u z.owner∧u=.slice (some ⟨b,a,none⟩) z.owner.length cap ∧
   ∀ w1,Ext w w1→∀ (val:Int),I64 val→∀ K:World→Prop,(∀ w2,ChgI lo hi w1 w2→VarI lo hi w2 g (⟨z.vars,z.owner.set k val,z.stacks⟩:DStV)→K w2)→OPU Tryz.prog (Instr.storeAt 3 (.pointer (some ⟨b,a+k*1,none⟩)) (.int .i64 val)) w1 K:=by
 obtain ⟨F,hO,hF⟩:=h
 obtain ⟨G1,hL1⟩:=zmz (Lens.var hO)
 obtain ⟨u,b,a,cap,G2,hr,hIs,hu,hL2⟩:=hL1.elem hk
 exact ⟨u,b,a,cap,hr,hIs,hu,fun w1 hx val hI K kk=>zhK ty3 (hL2.ext hx) hF hg (zcK hI) kk⟩
theorem zq1 {lo hi g k:Nat} {w:World} {z:DStV} (h:VarI lo hi w g z) (hg:lo≤g∧g<hi) (hk:k<z.vars.length):∃ u b a cap,w.rangeAt g (0+0) [u]∧Is w u z.vars∧u=.slice (some ⟨b,a,none⟩) z.vars.length cap ∧
   ∀ w1,Ext w w1→∀ (val:Int),I64 val→∀ K:World→Prop,(∀ w2,ChgI lo hi w1 w2→VarI lo hi w2 g (⟨z.vars.set k val,z.owner,z.stacks⟩:DStV)→K w2)→OPU Tryz.prog (Instr.storeAt 3 (.pointer (some ⟨b,a+k*1,none⟩)) (.int .i64 val)) w1 K:=by
 obtain ⟨F,hO,hF⟩:=h
 obtain ⟨G1,hL1⟩:=zmy (Lens.var hO)
 obtain ⟨u,b,a,cap,G2,hr,hIs,hu,hL2⟩:=hL1.elem hk
 exact ⟨u,b,a,cap,hr,hIs,hu,fun w1 hx val hI K kk=>zhK ty3 (hL2.ext hx) hF hg (zcK hI) kk⟩
theorem zeM {w:World} {b o:Nat} {u u':Value} (h:w.rangeAt b o [u]) (h':w.rangeAt b o [u']):u=u':=by
 have h1:=h 0 u rfl
 have h2:=h' 0 u' rfl
 rw [h1] at h2
 exact Option.some.inj h2
theorem zrD {w:World} {F:List Nat} {g:Nat} {z:DStV} (h:OAt F w g 0 z):OAt F w g 0 z.er:=by
 obtain ⟨cs,hr,rest⟩:=h
 obtain ⟨F0,c0,F1,c1,F2,c2,rfl,rfl,h0,h1,h2⟩:=zqV hr
 exact ⟨_,znT (x:=z.er) h0 h1 (zto h2),rest⟩
theorem zpR {lo hi g:Nat} {w:World} {z:DStV} (h:VarI lo hi w g z):VarI lo hi w g z.er:=by
 obtain ⟨F,h,hF⟩:=h;exact ⟨F,zrD h,hF⟩
theorem zt9 {lo hi:Nat} {w:World} {v:Value} {z:DState} (h:OwnI lo hi w v z):∃ a b c,v=.agg #[a,b,c]:=by
 obtain ⟨F,⟨⟨cs,hr,rfl⟩,_⟩,_⟩:=h
 obtain ⟨F0,c0,F1,c1,F2,c2,rfl,rfl,⟨_,_,_,_,rfl,_⟩,⟨_,_,_,_,rfl,_⟩,⟨_,_,_,_,rfl,_⟩⟩:=znU hr
 exact ⟨_,_,_,rfl⟩
theorem zsy {c:DCode} {s:DState} {t:Int} (hc:CodeR c) (hs:zaz c s) (h:0≤zce s t) (ho:(atI c s t).op=1):0≤(atI c s t).arg∧(atI c s t).arg.toNat<s.vars.length:=by
 have h1:=(ziG hc hs h).2.1
 have h2:=hs.1
 unfold zbK at h1
 rw [if_pos ho] at h1
 omega
theorem zhP {c:DCode} {s:DState} {t:Int} (hc:CodeR c) (hs:zaz c s) (h:0≤zce s t) (ho:(atI c s t).op=4∨(atI c s t).op=5):0≤(atI c s t).arg∧(atI c s t).arg.toNat<c.entry.length:=by
 have h1:=(ziG hc hs h).2.1
 have h2:=hc.2.1.1
 unfold zbK at h1
 rw [if_neg (by omega),if_pos ho] at h1
 omega
def F56 (a0:Value) (w:World) (R:VW):Prop:=
 oP (Instr.box 28 a0) w fun x1 w=>
 oP (Instr.alloc 31 true (.tuple #[])) w fun x2 w=>
 rL 28 x1 w fun x5=>
 cL 81 [x5] w fun x6 w=>
 rD (Op.unary .not x6) w fun x7=>
 BR x7
 (rD (Instr.build 31 #[]) w fun x8=>
 oS 31 x2 x8 w fun w=>
 rD (zar 31 x2) w fun r2=>R r2 w)
 (rF 28 x1 0 w fun x9=>
 rL 24 x9 w fun x10=>
 rN 24 3 x10 w fun x11=>
 oP (Instr.makeSlice 25 x11 x11) w fun x12 w=>
 rD (Instr.build 31 #[(0,x12)]) w fun x13=>
 oP (Instr.alloc 31 true (.tuple #[])) w fun x3 w=>
 oS 31 x3 x13 w fun w=>
 LOOPI [4] [(iV 0)] w fun u5 w next5=>
 rF 28 x1 1 w fun x15=>
 rL 24 x15 w fun x16=>
 rN 24 3 x16 w fun x17=>
 rC (u5 4) x17 w fun x18=>
 BR x18
 (rF 31 x3 1 w fun x21=>
 rL 25 x21 w fun x22=>
 oP (Instr.buildSlice 25 1 #[(0,(iV (-1)))]) w fun x23 w=>
 oP (Builtin.append_ #[25,25] 25 [x22,x23].toArray) w fun x24 w=>
 rF 31 x3 1 w fun x25=>
 oS 25 x25 x24 w fun w=>
 rA (u5 4) (iV 1) w fun x20=>
 next5 [x20] w)
 ((fun w=>rF 31 x3 2 w fun x26=>
 rL 29 x26 w fun x27=>
 rF 28 x1 3 w fun x28=>
 rL 25 x28 w fun x29=>
 rL 28 x1 w fun x30=>
 (fun w_=>cL 115 [x30] w_ fun x31 w=>
 Ext w_ w ∧
 rX 25 x29 x31 w fun x32=>
 rL 3 x32 w fun x33=>
 (fun w_=>oP (Instr.buildSlice 25 1 #[(0,x33)]) w_ fun x34 w=>
 Ext w_ w ∧
 ((fun w_=>oP (Instr.buildSlice 29 1 #[(0,x34)]) w_ fun x35 w=>
 Ext w_ w ∧
 (oP (Builtin.append_ #[29,29] 29 [x27,x35].toArray) w fun x36 w=>
 rF 31 x3 2 w fun x37=>
 oS 29 x37 x36 w fun w=>
 rL 31 x3 w fun x38=>
 oS 31 x2 x38 w fun w=>
 rD (zar 31 x2) w fun r2=>R r2 w)) w)) w) w) (World.drew1 w)))
def cfg56:Cfg:=⟨extL,[],[(5,67092496,[4])],[(8,[0,1,2,3,4,5,6,7,8,9,10,11,12],800)],[],[],[]⟩
theorem F56_call {a0:Value} {w:World} {R:VW} (h:F56 a0 w R):cL 56 [a0] w R:=co (g:=cfg56) Tryz.func56 (by kernel_rfl) (by kernel_rfl) (by kernel_rfl) h
def zdm (c:DCode):DState:=⟨List.replicate c.globals.length 0,List.replicate c.locks.length (-1),[[en c (plc zgR c.procs).toNat]]⟩
def zhb (c:DCode):DState:=if CodeR c then zdm c else ⟨[],[],[]⟩
theorem zlI:zb9 Tryz.prog 3=some [.int .i64 0]:=by kernel_rfl
theorem zpS {c:DCode} (hc:CodeR c):0≤plc zgR c.procs∧(plc zgR c.procs).toNat<c.entry.length:=by
 have h1:=zdZ.2 hc.1.2.2.2.2.2.2
 have h2:=zia (s:=zgR) (l:=c.procs)
 have h3:=hc.2.1.1
 omega
theorem znB {lo hi:Nat} {w:World}:OwnI lo hi w (.agg #[.slice none 0 0,.slice none 0 0,.slice none 0 0]) (⟨[],[],[]⟩:DState):=
 (zfo (s:=⟨[],[],[]⟩) (lo:=lo) (hi:=lo) (l0:=lo) (h0:=lo) (l1:=lo) (h1:=lo) (l2:=lo) (h2:=lo) (zct none) (zct none) (zct none) (by omega) (by omega) (by omega) (by omega) (by omega) (by omega)).elim fun F h=>⟨F,h.1,fun b hb=>by have:=h.2 b hb;omega⟩
def F115 (a0:Value) (w:World) (R:VW):Prop:=
 oP (Instr.box 28 a0) w fun x1 w=>
 rF 28 x1 2 w fun x3=>
 rL 24 x3 w fun x4=>
 cL 192 [x4,(Value.string (ByteArray.mk #[109,97,105,110]))] w fun x5 w=>
 R x5 w
def cfg115:Cfg:=⟨extL,[],[],[],[],[],[]⟩
theorem F115_call {a0:Value} {w:World} {R:VW} (h:F115 a0 w R):cL 115 [a0] w R:=co (g:=cfg115) Tryz.func115 (by kernel_rfl) (by kernel_rfl) (by kernel_rfl) h
theorem zol {w:World} {v0:Value} {W0:World} {c:DCode}  (h0:Is W0 v0 c) (e0:Ext W0 w)  :
   CALL Tryz.prog 115 [v0] w fun r w'=>Ext w w'∧(r=.int .i64 (plc zgR c.procs)):=by
 refine F115_call ?_
 unfold F115
 refine zal zbq rfl h0 e0 fun w1_ hx1_ hA1 hV1=>?_
 refine zaa zdA ?_
 refine zab zcP (zbv hA1) (Ext.refl w1_) fun v4 h4=>?_
 refine (zbJ h4 (Ext.refl w1_)).mono ?_
 rintro _ w2_ ⟨hx2_,rfl⟩
 refine ⟨(hx1_.trans hx2_),?_⟩
 rfl
theorem zd2 {w W:World} {v:Value} {c:DCode} (h:Is W v c) (e:Ext W w) (hw:zn1 c≤1048576) :
   CALL Tryz.prog 56 [v] w fun r w'=>Ext w w'∧Own w.heap.size w' r (zhb c):=by
 refine F56_call ?_
 unfold F56
 refine zcG h e fun w1 hx1 hA=>?_
 refine zaF zs3 fun w2 hx2 hB2=>?_
 have hg2:=hB2.lt
 have hs1:=hx1.size
 refine zab zbq hA hx2 fun v5 h5=>?_
 refine (zgk h5 hx2).mono ?_
 rintro _ w3 ⟨hx3,rfl⟩
 have hs3:=hx3.size
 refine zas ?_
 refine br (fun hn=>?_) (fun hc=>?_)
 · refine zaH (cells:=#[.slice none 0 0,.slice none 0 0,.slice none 0 0]) (by kernel_rfl) ?_
   refine zaw (lo:=w3.heap.size) (hi:=w3.heap.size) zbM rfl (hB2.ext hx3) rfl znB fun w4 hc4 hB4=>?_
   refine zbx hB4 zbM ?_
   refine ⟨Ext.chgI (hx1.trans (hx2.trans hx3)) hc4 (by omega),?_⟩
   unfold zhb
   rw [if_neg hn]
   exact (znB (lo:=w4.heap.size) (hi:=w4.heap.size)).own.mono (by have:=hc4.size;omega)
 have hc:=Decidable.not_not.1 hc
 have hsz:c.globals.length≤1048576∧c.locks.length≤1048576:=by unfold zn1 zqh at hw;omega
 refine zaa zcQ ?_
 refine zab zcP (zaW hA) (hx2.trans hx3) fun v10 h10=>?_
 refine zae u24 h10 ?_
 refine znh (α:=Int) u25 ty3 rfl rfl zlI (by omega) (by omega) fun w4 hx4 r12=>?_
 have hs4:=hx4.size
 refine zaH (cells:=#[.slice (some ⟨w3.heap.size,0,none⟩) c.globals.length c.globals.length,.slice none 0 0,.slice none 0 0]) (by kernel_rfl) ?_
 refine zaF zs3 fun w5 hx5 hB5=>?_
 have hg5:=hB5.lt
 have hs5:=hx5.size
 have o12:=(r12.own.ext hx5)
 refine zaw (x:=(⟨List.replicate c.globals.length 0,[],[]⟩:DState)) (lo:=w3.heap.size) (hi:=w4.heap.size) zbM rfl hB5 rfl
   (zfo (l0:=w3.heap.size) (h0:=w4.heap.size) (l1:=w4.heap.size) (h1:=w4.heap.size) (l2:=w4.heap.size) (h2:=w4.heap.size) o12 (zct none) (zct none) (by omega) (by omega) (by omega) (by omega) (by omega) (by omega)) fun w6 hc6 hB6=>?_
 have hs6:=hc6.size
 have r12':=(r12.ext hx5).chg hc6 (by omega)
 have hx16:Ext w1 w6:=Ext.chgI (hx2.trans (hx3.trans (hx4.trans hx5))) hc6 (by omega)
 refine zaE c.locks.length (fun k us w'=>us=[.int .i64 (k:Int)]∧∃ v1 hi,hi≤w'.heap.size∧w6.heap.size≤w'.heap.size∧Ext w1 w'∧Blk w4.heap.size 31 w' [.slice (some ⟨w3.heap.size,0,none⟩) c.globals.length c.globals.length,v1,.slice none 0 0] ∧
   RowI w3.heap.size w4.heap.size 3 w' (.slice (some ⟨w3.heap.size,0,none⟩) c.globals.length c.globals.length) (List.replicate c.globals.length 0)∧RowI w6.heap.size hi 3 w' v1 (List.replicate k (-1))∧Blk w1.heap.size 31 w' [.slice none 0 0,.slice none 0 0,.slice none 0 0]) 0 (Nat.zero_le _)
   ⟨rfl,.slice none 0 0,w6.heap.size,Nat.le_refl _,Nat.le_refl _,hx16,hB6,r12',zdo _ _ _ _,((hB2.ext hx3).ext (hx4.trans hx5)).chgI hc6 (by omega)⟩ ?_
 rintro k m u w7 hkm ⟨hu,v1,hi,hhi,hs7,hx7,hB7,o7,r7,hB27⟩
 simp only [List.map_cons,List.map_nil,List.cons.injEq,and_true] at hu
 rw [hu]
 refine zaa ze0 ?_
 refine zab zcP (zbO hA) hx7 fun v16 h16=>?_
 refine zae u24 h16 ?_
 refine zai ?_
 refine br (fun hlt=>?_) (fun hge=>?_)
 · refine zaa zcA ?_
   refine zaA zbk hB7 rfl ?_
   refine zch (α:=Int) (lo2:=w7.heap.size) (hi2:=w7.heap.size) u25 ty3 z3 zc3 (by decide) r7 (by omega) (zcc (by unfold I64;omega)) (by omega) (by omega) (by rw [zam,List.length_replicate];omega) (by rw [List.length_replicate];omega) fun v24 w8 hc8 r8=>?_
   have hs8:=hc8.size
   refine zaa zcA ?_
   refine za6 (α:=List Int) zbk rfl rfl (hB7.chgI hc8 (by omega)) (by simp) r8.own fun w9 hc9 hB9=>?_
   have hs9:=hc9.size
   refine zah (by omega) ?_
   refine ⟨m-1,by omega,k+1,by omega,rfl,v24,w8.heap.size,by omega,by omega,Ext.chgI (Ext.chgI hx7 hc8 (by omega)) hc9 (by omega),hB9,(o7.chg hc8 (by omega)).chg hc9 (by omega),?_,(hB27.chgI hc8 (by omega)).chgI hc9 (by omega)⟩
   have:=r8.chg hc9 (by omega)
   rwa [←List.replicate_succ'] at this
 have hk:k=c.locks.length:=by omega
 subst hk
 have hx8:=zaj w7
 have hs8:=hx8.size
 refine zaa zaT ?_
 refine zaA zdJ (hB7.ext hx8) rfl ?_
 refine zaa zbn ?_
 refine zab zbk (zax hA) (hx7.trans hx8) fun v29 h29=>?_
 refine zab zbq hA (hx7.trans hx8) fun v30 h30=>?_
 refine (zol h30 (hx7.trans hx8)).mono ?_
 rintro _ w9 ⟨hx9,rfl⟩
 have hs9:=hx9.size
 refine ⟨hx9,?_⟩
 obtain ⟨hp0,hp1⟩:=zpS hc
 refine zat u25 ty3 h29 hp0 hp1 fun b o hA2=>?_
 refine zac ty3 hA2 (hx7.trans (hx8.trans hx9)) fun hI=>?_
 refine zgO (α:=Int) (lo:=w9.heap.size) (hi:=w9.heap.size) u25 ty3 z3 (by decide) (zcc hI) (by omega) fun v34 w10 hx10 o34=>?_
 have hs10:=hx10.size
 refine ⟨hx10,?_⟩
 refine zjR (α:=List Int) (lo:=w9.heap.size) (hi:=w9.heap.size) u29 zbk z25 ztR (by decide) (zdo _ _ _ _) (by omega) o34 (by omega) (by omega) (by rw [zam];simp) (by simp) fun v36 w11 hc11 r36=>?_
 have hs11:=hc11.size
 have hB11:=((hB7.ext (hx8.trans (hx9.trans hx10)))).chgI hc11 (by omega)
 have o11:=((o7.ext (hx8.trans (hx9.trans hx10)))).chg hc11 (by omega)
 have r11:=((r7.ext (hx8.trans (hx9.trans hx10)))).chg hc11 (by omega)
 have hB211:=((hB27.ext (hx8.trans (hx9.trans hx10)))).chgI hc11 (by omega)
 refine zaa zaT ?_
 refine za6 (α:=List (List Int)) zdJ rfl rfl hB11 (by simp) r36.own fun w12 hc12 hB12=>?_
 have hs12:=hc12.size
 refine zbP hB12 zbM ?_
 have ost:OwnI w3.heap.size w11.heap.size w12 (.agg #[.slice (some ⟨w3.heap.size,0,none⟩) c.globals.length c.globals.length,v1,v36]) (zdm c):=by
   refine zfo (l0:=w3.heap.size) (h0:=w4.heap.size) (l1:=w6.heap.size) (h1:=hi) (l2:=w9.heap.size) (h2:=w11.heap.size) (o11.chg hc12 (by omega)).own (r11.chg hc12 (by omega)).own ?_ (by omega) (by omega) (by omega) (by omega) (by omega) (by omega)
   have:=(r36.chg hc12 (by omega)).own
   rw [zbU] at this
   exact this
 refine zaw zbM rfl (hB211.chgI hc12 (by omega)) rfl ost fun w13 hc13 hB13=>?_
 have hs13:=hc13.size
 refine zbx hB13 zbM ?_
 refine ⟨Ext.chgI (Ext.chgI (Ext.chgI (hx1.trans (hx7.trans (hx8.trans (hx9.trans hx10)))) hc11 (by omega)) hc12 (by omega)) hc13 (by omega),?_⟩
 unfold zhb
 rw [if_pos hc]
 exact (ost.chg hc13 (by omega)).own.mono (by omega)
theorem zko {α:Type} {l:List α} {i:Nat} {x y:α} (h:y∈l.set i x):y=x∨y∈l:=by
 rcases List.mem_or_eq_of_mem_set h with h | h
 · exact .inr h
 exact .inl h
theorem zeN {c:DCode} (hc:CodeR c):zaz c (zdm c):=by
 obtain ⟨hp0,hp1⟩:=zpS hc
 have hl:=hc.f.lt _ hp1
 have h0:=hc.f.nonneg hp1
 refine ⟨by simp [zdm],by simp [zdm],by simp [zdm],fun v hv=>?_,fun o ho=>?_,fun l hl'=>?_⟩
 · have:=List.eq_of_mem_replicate hv;omega
 · have:=List.eq_of_mem_replicate ho;simp only [zdm,List.length_cons,List.length_nil];omega
 simp only [zdm,List.mem_cons,List.not_mem_nil,or_false] at hl'
 subst hl'
 refine ⟨by simp,fun i hi=>?_,fun i hi=>by simp at hi⟩
 have:i=0:=by simp at hi;omega
 subst this
 simp only [st,List.getD_cons_zero]
 omega
theorem ztx {l:List Int} {i j:Nat} {x:Int} (hi:i<l.length):st (l.set i x) j=if i=j then x else st l j:=by
 unfold st
 rw [List.getD_eq_getElem?_getD,List.getD_eq_getElem?_getD,List.getElem?_set]
 by_cases h:i=j
 · subst h;simp [hi]
 simp [h]
theorem zkp {l:List Int} {k j:Nat} (hj:j<k):st (l.take k) j=st l j:=by
 unfold st
 rw [List.getD_eq_getElem?_getD,List.getD_eq_getElem?_getD,List.getElem?_take,if_pos hj]
theorem zmF {l:List Int} {j:Nat} {x:Int}:st (l++[x]) j=if j=l.length then x else st l j:=by
 unfold st
 rw [List.getD_eq_getElem?_getD,List.getD_eq_getElem?_getD,List.getElem?_append]
 by_cases h:j<l.length
 · rw [if_pos h,if_neg (by omega)]
 by_cases h2:j=l.length
 · subst h2;simp
 rw [if_neg h,if_neg h2,List.getElem?_eq_none (by simp;omega),List.getElem?_eq_none (by omega)]
theorem zly {c:DCode} (hc:CodeR c) {a:Int} (h0:0≤a) (h1:a<c.ins.length) (ho:(zbo c a.toNat).op≠9):a+1<c.ins.length∧zaL c (a+1)=zaL c a:=by
 obtain ⟨i,hi,h2,h3,h4⟩:=hc.f.find hc.1.procs8.2 h0 h1
 have h5:=(hc.2.1.2.2.2 a.toNat (by omega))
 rw [Int.toNat_of_nonneg h0,h4,zdq] at h5
 have h6:zdl c i-1≠a:=fun e=>ho (h5.2 e)
 have h7:=(hc.f.lt i hi).2
 exact ⟨by omega,by rw [h4];exact hc.f.proc hi (by omega) (by omega)⟩
theorem zpT {c:DCode} (hc:CodeR c) {a:Int} (h0:0≤a) (h1:a<c.ins.length) (ho:(zbo c a.toNat).op=2∨(zbo c a.toNat).op=3) :
   0≤(zbo c a.toNat).to∧(zbo c a.toNat).to<c.ins.length∧zaL c (zbo c a.toNat).to=zaL c a:=by
 obtain ⟨i,hi,h2,h3,h4⟩:=hc.f.find hc.1.procs8.2 h0 h1
 have h5:=(ziF hc (j:=a.toNat) (by omega)).2.2.2
 rw [if_pos ho,Int.toNat_of_nonneg h0,h4,zdq,Int.toNat_natCast] at h5
 have h6:=hc.f.nonneg hi
 have h7:=(hc.f.lt i hi).2
 exact ⟨by omega,by omega,by rw [h4];exact hc.f.proc hi h5.1 (by omega)⟩
theorem zpU {c:DCode} (hc:CodeR c) {i:Nat} (hi:i<c.entry.length):0≤en c i∧en c i<c.ins.length∧zaL c (en c i)=i:=by
 have h6:=hc.f.nonneg hi
 have h7:=hc.f.lt i hi
 exact ⟨h6,by omega,hc.f.proc hi (Int.le_refl _) h7.1⟩
theorem zom (c:DCode):zbD c []:=⟨by simp,fun i hi=>by simp at hi,fun i hi=>by simp at hi⟩
theorem zon {c:DCode} {n:Int} (h0:0≤n) (h1:n<c.ins.length):zbD c [n]:=by
 refine ⟨by simp,fun i hi=>?_,fun i hi=>by simp at hi⟩
 have:i=0:=by simp at hi;omega
 subst this
 exact ⟨h0,h1⟩
theorem zjq {c:DCode} {l:List Int} {n:Int} (h:zbD c l) (hl:0<l.length) (h0:0≤n) (h1:n<c.ins.length) (hp:zaL c n=zaL c (st l (l.length-1))):zbD c (l.set (l.length-1) n):=by
 have hs:∀ j,st (l.set (l.length-1) n) j=if l.length-1=j then n else st l j:=fun j=>ztx (by omega)
 refine ⟨by rw [List.length_set];exact h.1,fun i hi=>?_,fun i hi=>?_⟩
 · rw [List.length_set] at hi
   rw [hs]
   split
   · exact ⟨h0,h1⟩
   exact h.2.1 i hi
 rw [List.length_set] at hi
 have h2:=h.2.2 i hi
 rw [hs i,if_neg (by omega)]
 refine ⟨h2.1,?_⟩
 rw [hs (i+1)]
 split
 · rename_i he
   rw [hp,he];exact h2.2
 exact h2.2
theorem zmG {c:DCode} {l:List Int} {n:Int} (h:zbD c l) (hl:l.length<8) (h0:0≤n) (h1:n<c.ins.length) (hp:0<l.length→(zbo c (st l (l.length-1)).toNat).op=4∧zaL c n=(zbo c (st l (l.length-1)).toNat).arg):zbD c (l++[n]):=by
 refine ⟨by simp;omega,fun i hi=>?_,fun i hi=>?_⟩
 · rw [zmF]
   split
   · exact ⟨h0,h1⟩
   exact h.2.1 i (by simp at hi;omega)
 simp only [List.length_append,List.length_cons,List.length_nil] at hi
 rw [zmF,zmF,if_neg (by omega)]
 by_cases e:i+1=l.length
 · rw [if_pos e]
   have:i=l.length-1:=by omega
   subst this
   exact hp (by omega)
 rw [if_neg e]
 exact h.2.2 i (by omega)
theorem zmH {c:DCode} {l:List Int} (h:zbD c l) (k:Nat):zbD c (l.take k):=by
 refine ⟨by rw [List.length_take];have:=h.1;omega,fun i hi=>?_,fun i hi=>?_⟩
 · rw [List.length_take] at hi
   rw [zkp (by omega)]
   exact h.2.1 i (by omega)
 rw [List.length_take] at hi
 rw [zkp (by omega),zkp (by omega)]
 exact h.2.2 i (by omega)
theorem zoo {c:DCode} (hc:CodeR c) {l:List Int} (h:zbD c l) (hl:0<l.length):zbD c (zlw l):=by
 unfold zlw
 split
 · exact zom c
 rename_i h1
 have h2:=h.2.2 (l.length-2) (by omega)
 have h3:=h.2.1 (l.length-2) (by omega)
 obtain ⟨h4,h5⟩:=zly hc h3.1 h3.2 (by omega)
 have h6:=zjq (n:=st l (l.length-2)+1) (zmH h (l.length-1)) (by rw [List.length_take];omega) (by omega) h4 (by
   rw [List.length_take,zkp (by omega),h5]
   congr 2
   omega)
 rw [List.length_take] at h6
 rw [show min (l.length-1) l.length-1=l.length-2 by omega] at h6
 exact h6
theorem zhc {c:DCode} {s:DState} (hs:zaz c s) {k:Nat} {l:List Int} (hl:zbD c l):zaz c ⟨s.vars,s.owner,s.stacks.set k l⟩:=by
 refine ⟨hs.1,hs.2.1,by simp only [List.length_set];exact hs.2.2.1,hs.2.2.2.1,by simp only [List.length_set];exact hs.2.2.2.2.1,fun x hx=>?_⟩
 rcases zko hx with rfl | hx
 · exact hl
 exact hs.2.2.2.2.2 x hx
theorem zlz {c:DCode} {s:DState} {t:Int} (hc:CodeR c) (hs:zaz c s) (hgo:GoR c s t):zaz c (zb3 c s t):=by
 have hth:=zeg hgo.1
 unfold zb3
 split
 · refine ⟨by simp only [List.length_set];exact hs.1,hs.2.1,hs.2.2.1,fun v hv=>?_,hs.2.2.2.2.1,hs.2.2.2.2.2⟩
   rcases zko hv with rfl | hv
   · exact zeL _ _ _ _
   exact hs.2.2.2.1 v hv
 split
 · split
   · rename_i h1 h5 h6
     have hp:=zhP hc hs hgo.1 (.inr h5)
     refine ⟨hs.1,hs.2.1,by simp only [List.length_append,List.length_cons,List.length_nil];omega,hs.2.2.2.1,fun o ho=>?_,fun x hx=>?_⟩
     · have:=hs.2.2.2.2.1 o ho
       simp only [List.length_append,List.length_cons,List.length_nil];omega
     rcases List.mem_append.1 hx with hx | hx
     · exact hs.2.2.2.2.2 x hx
     simp only [List.mem_cons,List.not_mem_nil,or_false] at hx
     subst hx
     obtain ⟨h7,h8,_⟩:=zpU hc hp.2
     exact zon h7 h8
   exact hs
 split
 · refine ⟨hs.1,by simp only [List.length_set];exact hs.2.1,hs.2.2.1,hs.2.2.2.1,fun o ho=>?_,hs.2.2.2.2.2⟩
   rcases zko ho with rfl | ho
   · simp only;omega
   exact hs.2.2.2.2.1 o ho
 split
 · split
   · refine ⟨hs.1,by simp only [List.length_set];exact hs.2.1,hs.2.2.1,hs.2.2.2.1,fun o ho=>?_,hs.2.2.2.2.2⟩
     rcases zko ho with rfl | ho
     · simp only;omega
     exact hs.2.2.2.2.1 o ho
   exact hs
 exact hs
theorem zhd {c:DCode} {s:DState} {t:Int} (hc:CodeR c) (hs:zaz c s) (hgo:GoR c s t):zaz c (zgB c s t):=by
 have hth:=zeg hgo.1
 obtain ⟨tn,rfl,htn,hne,hl8,hat⟩:=znA hs hgo.1
 have hpos:=List.length_pos_iff.2 hne
 have hk:=hs.2.2.2.2.2 (stk s tn) (by rw [←ze9 (by omega)];exact List.getElem_mem _)
 have hlt:=ziE hs tn
 unfold zgB
 split
 · rename_i h4
   have hp:=zhP hc hs hgo.1 (.inl h4)
   obtain ⟨h7,h8,h9⟩:=zpU hc hp.2
   have h10:=hgo.2.2 h4
   refine zhc hs (zmG hk (by omega) h7 h8 fun _=>?_)
   rw [←hat]
   refine ⟨h4,?_⟩
   rw [h9]
   have:=hp.1
   unfold atI at this ⊢
   omega
 split
 · exact zhc hs (zoo hc hk hpos)
 rename_i h4 h9
 have hn:=zly hc hgo.1 hlt.2 h9
 have key:0≤zeh c s tn∧zeh c s tn<c.ins.length∧zaL c (zeh c s tn)=zaL c (zce s tn):=by
   unfold zeh
   have hnx:0≤zce s tn+1∧zce s tn+1<c.ins.length∧zaL c (zce s tn+1)=zaL c (zce s tn):=⟨by have:=hgo.1;omega,hn.1,hn.2⟩
   split
   · rename_i h2
     split
     · exact zpT hc hgo.1 hlt.2 (.inl h2)
     exact hnx
   split
   · rename_i h3
     exact zpT hc hgo.1 hlt.2 (.inr h3)
   exact hnx
 refine zhc (zlz hc hs hgo) (zjq hk hpos key.1 key.2.1 ?_)
 rw [key.2.2,hat]
end Go.Proofs.YtdmailcgaekimaaGreat
namespace Go.Sh
section
variable {P:Program} {w:World} {K:Value→Prop} {t:TypeId} {x y:Operand}
theorem zpV {m n:Nat} (hm:m<4611686018427387904) (hn:n<4611686018427387904) (k:K (.int .i64 ((m &&& n:Nat):Int))):RD P (bin .and t x y (.int .i64 (m:Int)) (.int .i64 (n:Int))) w K:=by
 have hlt:m &&& n≤m:=Nat.and_le_left
 refine zaV (fun w' _=>?_) k
 have e1:IntKind.i64.wrap ((m &&& n:Nat):Int)=((m &&& n:Nat):Int):=IntWalk.i64_in _ (by omega)
 have e2:((BitVec.ofInt 64 (m:Int)) &&& (BitVec.ofInt 64 (n:Int))).toNat=m &&& n:=by
   simp only [BitVec.toNat_and,BitVec.ofInt_natCast,BitVec.toNat_ofNat]
   rw [Nat.mod_eq_of_lt (by omega),Nat.mod_eq_of_lt (by omega)]
 show (do eqGuard .and t x y (.int .i64 (m:Int)) (.int .i64 (n:Int));binOp .and t (.int .i64 (m:Int)) (.int .i64 (n:Int)):Sem Value).run P w'=_
 simp only [eqGuard,binOp,Op.intBits]
 show Result.ok (Value.int .i64 (IntKind.i64.wrap (((BitVec.ofInt 64 (m:Int)) &&& (BitVec.ofInt 64 (n:Int))).toNat:Nat))) w'=_
 rw [e2,e1]
theorem zrE {m n:Nat} {ku:IntKind} (hm:m<4611686018427387904) (k:K (.int .i64 ((m >>> n:Nat):Int))):RD P (bin .shr t x y (.int .i64 (m:Int)) (.int ku (n:Int))) w K:=by
 refine zaV (fun w' _=>?_) k
 have e0:¬((n:Int)<0):=by omega
 have e1:(m:Int).fdiv (2^(min n 64))=((m >>> n:Nat):Int):=by
   rw [Nat.shiftRight_eq_div_pow]
   have h2:((2:Int)^(min n 64))=((2^(min n 64):Nat):Int):=by simp
   rw [h2,Int.fdiv_eq_ediv_of_nonneg _ (Int.natCast_nonneg _),←Int.natCast_ediv]
   by_cases h:n≤64
   · rw [Nat.min_eq_left h]
   rw [Nat.min_eq_right (by omega),Nat.div_eq_of_lt (by omega),Nat.div_eq_of_lt (Nat.lt_of_lt_of_le (by omega:m<2^64) (Nat.pow_le_pow_right (by omega) (by omega)))]
 show (do eqGuard .shr t x y (.int .i64 (m:Int)) (.int ku (n:Int));binOp .shr t (.int .i64 (m:Int)) (.int ku (n:Int)):Sem Value).run P w'=_
 simp only [eqGuard,binOp,Op.shift,e0,if_false,Int.toNat_natCast]
 show Result.ok (Value.int .i64 ((m:Int).fdiv (2^(min n 64)))) w'=_
 rw [e1]
end
def zcU (m:Nat):Nat→List Int
 | 0=>[]
 | k+1=>if m.testBit k then zcU m k++[(k:Int)] else zcU m k
theorem zei (m:Nat):∀ k,(zcU m k).length≤k
 | 0=>Nat.le_refl _
 | k+1=>by
   have:=zei m k
   rw [zcU]
   split
   · simp;omega
   omega
theorem ziJ {m k:Nat} (h:m<2^k):∀ {j:Nat},k≤j→zcU m j=zcU m k
 | 0,hj=>by rw [Nat.le_zero.1 hj]
 | j+1,hj=>by
   by_cases e:k=j+1
   · rw [e]
   rw [zcU,if_neg,ziJ h (by omega)]
   rw [Nat.testBit_lt_two_pow (Nat.lt_of_lt_of_le h (Nat.pow_le_pow_right (by omega) (by omega)))]
   simp
def zhe (m:Nat):List Int:=zcU m 64
theorem zkq {m k:Nat} (h:m<2^k) (hk:k≤64):zhe m=zcU m k:=ziJ h hk
theorem zej {m:Nat} {x:Int}:∀ {k:Nat},x∈zcU m k↔∃ i,i<k∧x=(i:Int)∧m.testBit i=true
 | 0=>by simp [zcU]
 | k+1=>by
   rw [zcU]
   constructor
   · intro h
     split at h
     · rename_i hb
       rcases List.mem_append.1 h with h | h
       · obtain ⟨i,h1,h2,h3⟩:=zej.1 h;exact ⟨i,by omega,h2,h3⟩
       simp at h;exact ⟨k,by omega,h,hb⟩
     obtain ⟨i,h1,h2,h3⟩:=zej.1 h;exact ⟨i,by omega,h2,h3⟩
   rintro ⟨i,h1,h2,h3⟩
   by_cases e:i=k
   · subst e;rw [if_pos h3];simp [h2]
   have:=(zej (m:=m) (x:=x) (k:=k)).2 ⟨i,by omega,h2,h3⟩
   split
   · simp [this]
   exact this
theorem zsz (m i:Nat):decide (((m >>> i &&& 1:Nat):Int)=1)=m.testBit i:=by
 have h:m >>> i &&& 1=(m.testBit i).toNat:=by
   rw [Nat.and_one_is_mod,Nat.testBit_eq_decide_div_mod_eq,Nat.shiftRight_eq_div_pow]
   rcases Nat.mod_two_eq_zero_or_one (m / 2^i) with h | h<;>simp [h]
 rw [h]
 cases m.testBit i<;>rfl
theorem zq2 (m i:Nat):decide (((m &&& 2^i:Nat):Int)≠0)=m.testBit i:=by
 have hp:0<2^i:=Nat.pow_pos (by omega)
 cases hb:m.testBit i with
 | false=>
   have:m &&& 2^i=0:=by
     apply Nat.eq_of_testBit_eq
     intro j
     rw [Nat.testBit_and,Nat.testBit_two_pow]
     by_cases e:i=j
     · subst e;simp [hb]
     simp [e]
   simp [this]
 | true=>
   have:m &&& 2^i≠0:=fun e=>by
     have:=congrArg (·.testBit i) e
     simp [Nat.testBit_and,Nat.testBit_two_pow,hb] at this
   simp only [ne_eq,decide_eq_true_eq]
   omega
theorem znC {m i:Nat}:m >>> i=0↔m<2^i:=by
 rw [Nat.shiftRight_eq_div_pow,Nat.div_eq_zero_iff]
 have:¬(2^i=0):=by have:0<2^i:=Nat.pow_pos (by omega);omega
 simp [this]
end Go.Sh
namespace Go.Proofs.YtdmailcgaekimaaGreat
open Go Go.Sh Go.Proofs
open Rep (rep)
def F118 (a0 a1:Value) (w:World) (R:VW):Prop:=
 rD (convert 3 108 a1) w fun x7=>
 rB .shr 3 T0 T0 a0 x7 w fun x8=>
 rB .and 3 T0 U0 x8 (iV 1) w fun x9=>
 rB .eql 3 T0 U0 x9 (iV 1) w fun x10=>
 R x10 w
def cfg118:Cfg:=⟨extL,[],[],[],[],[],[]⟩
theorem F118_call {a0 a1:Value} {w:World} {R:VW} (h:F118 a0 a1 w R):cL 118 [a0,a1] w R:=co (g:=cfg118) Tryz.func118 (by kernel_rfl) (by kernel_rfl) (by kernel_rfl) h
theorem zpW {w:World} {m:Nat} {i:Nat}   (hm:m<4611686018427387904) (hi:i<4611686018427387904) :
   CALL Tryz.prog 118 [.int .i64 (m:Int),.int .i64 (i:Int)] w fun r w'=>Ext w w'∧(r=.bool (m.testBit i)):=by
 refine F118_call ?_
 unfold F118
 refine zhX (by kernel_rfl) zth (by omega) ?_
 refine zrE (by omega) ?_
 refine zpV (n:=1) (Nat.lt_of_le_of_lt (Nat.shiftRight_le m i) hm) (by omega) ?_
 refine zag ?_
 refine ⟨Ext.refl w,?_⟩
 rw [zsz]
def F61 (a0:Value) (w:World) (R:VW):Prop:=
 LOOPI [3,4] [(Value.slice none 0 0),(iV 0)] w fun u3 w next3=>
 rD (convert 3 108 (u3 4)) w fun x7=>
 rB .shr 3 T0 T0 a0 x7 w fun x8=>
 rB .neq 3 T0 U0 x8 (iV 0) w fun x9=>
 BR x9
 (cL 118 [a0,(u3 4)] w fun x14 w=>
 BR x14
 (oP (Instr.buildSlice 25 1 #[(0,(u3 4))]) w fun x17 w=>
 oP (Builtin.append_ #[25,25] 25 [(u3 3),x17].toArray) w fun x18 w=>
 rA (u3 4) (iV 1) w fun x11=>
 next3 [x18,x11] w)
 (rA (u3 4) (iV 1) w fun x11=>
 next3 [(u3 3),x11] w))
 (R (u3 3) w)
def cfg61:Cfg:=⟨extL,[],[(3,524280,[3,4])],[],[],[],[]⟩
theorem F61_call {a0:Value} {w:World} {R:VW} (h:F61 a0 w R):cL 61 [a0] w R:=co (g:=cfg61) Tryz.func61 (by kernel_rfl) (by kernel_rfl) (by kernel_rfl) h
theorem zlA {w:World} {m:Nat}   (hm:m<4611686018427387904) :
   CALL Tryz.prog 61 [.int .i64 (m:Int)] w fun r w'=>Ext w w'∧(Own w.heap.size w' r (zhe m)):=by
 refine F61_call ?_
 unfold F61
 refine zaE (62) (fun k us w'=>∃ v:Value,us=[v,.int .i64 (k:Int)]∧Ext w w'∧(RowI w.heap.size w'.heap.size 3 w' v (zcU m k))) (0) (by omega) ⟨_,rfl,Ext.refl w,zdo _ _ _ _⟩ ?_
 rintro k m3 uu3 w1_ hk3 ⟨v3,hu,hx1_,hrow⟩
 have hs_hx1_:=hx1_.size
 obtain ⟨hu0,hu1⟩:=zfZ hu
 try rw [hu0]
 try rw [hu1]
 try clear hu0 hu1
 have hrl:=zei m k
 refine zhX (by kernel_rfl) zth (by omega) ?_
 refine zrE (by omega) ?_
 refine zaM ?_
 refine br (fun c1=>?_) (fun c1=>?_)
 · have hk62:k<62:=by
     rcases Nat.lt_or_ge k 62 with h | h
     · exact h
     have h1:m<2^k:=Nat.lt_of_lt_of_le (show m<2^62 by omega) (Nat.pow_le_pow_right (by omega) h)
     exact absurd (by rw [znC.2 h1];rfl) c1
   refine (zpW (by omega) (by omega)).mono ?_
   rintro _ w2_ ⟨hx2_,rfl⟩
   have hs_hx2_:=hx2_.size
   refine zcM (fun c2=>?_) (fun c2=>?_)
   · refine zch (α:=Int) u25 ty3 z3 zc3 (by decide) (hrow.ext hx2_) (by omega) (zcc (lo:=w2_.heap.size) (hi:=w2_.heap.size) (by first | assumption | (unfold I64 at *;omega))) (by omega) (by omega) (by rw [zam];omega) (by omega) fun v18 w3_ hc3_ o18=>?_
     have hs_hc3_:=hc3_.size
     refine zah (by omega) ?_
     refine ⟨m3-1,by omega,k+1,by omega,_,rfl,(Ext.chgI (hx1_.trans hx2_) hc3_ (by omega)),?_⟩
     rw [zcU,if_pos c2];exact o18
   refine zah (by omega) ?_
   refine ⟨m3-1,by omega,k+1,by omega,_,rfl,(hx1_.trans hx2_),?_⟩
   rw [zcU,if_neg (by simp [c2])];exact (hrow.ext hx2_).mono (by omega) (by omega)
 refine ⟨hx1_,?_⟩
 have h1:m >>> k=0:=by have:=Decidable.not_not.1 c1;omega
 rw [zkq (znC.1 h1) (by omega)]
 exact hrow.own.own
def F121 (a0:Value) (w:World) (R:VW):Prop:=
 rD (convert 3 108 a0) w fun x4=>
 rB .shl 3 U0 T0 (iV 1) x4 w fun x5=>
 R x5 w
def cfg121:Cfg:=⟨extL,[],[],[],[],[],[]⟩
theorem F121_call {a0:Value} {w:World} {R:VW} (h:F121 a0 w R):cL 121 [a0] w R:=co (g:=cfg121) Tryz.func121 (by kernel_rfl) (by kernel_rfl) (by kernel_rfl) h
theorem ziK {w:World} {i:Nat}   (hi:i<62) :
   CALL Tryz.prog 121 [.int .i64 (i:Int)] w fun r w'=>Ext w w'∧(r=.int .i64 ((2^i:Nat):Int)):=by
 refine F121_call ?_
 unfold F121
 refine zhX (by kernel_rfl) zth (by omega) ?_
 refine zlX (by omega) ?_
 refine ⟨Ext.refl w,?_⟩
 rfl
def F198 (a0 a1:Value) (w:World) (R:VW):Prop:=
 cL 121 [a1] w fun x7 w=>
 rB .and 3 T0 T0 a0 x7 w fun x8=>
 rB .neq 3 T0 U0 x8 (iV 0) w fun x9=>
 R x9 w
def cfg198:Cfg:=⟨extL,[],[],[],[],[],[]⟩
theorem F198_call {a0 a1:Value} {w:World} {R:VW} (h:F198 a0 a1 w R):cL 198 [a0,a1] w R:=co (g:=cfg198) Tryz.func198 (by kernel_rfl) (by kernel_rfl) (by kernel_rfl) h
theorem zq3 {w:World} {m:Nat} {i:Nat}   (hm:m<4611686018427387904) (hi:i<62) :
   CALL Tryz.prog 198 [.int .i64 (m:Int),.int .i64 (i:Int)] w fun r w'=>Ext w w'∧(r=.bool (m.testBit i)):=by
 refine F198_call ?_
 unfold F198
 refine (ziK (by omega)).mono ?_
 rintro _ w1_ ⟨hx1_,rfl⟩
 have hp:2^i<4611686018427387904:=Nat.lt_of_lt_of_le (Nat.pow_lt_pow_right (by omega) hi) (by omega:2^62≤4611686018427387904)
 refine zpV (by omega) (by omega) ?_
 refine zaM ?_
 refine ⟨hx1_,?_⟩
 rw [zq2]
def F197 (a0:Value) (w:World) (R:VW):Prop:=
 cL 65 [a0,(iV 0),(iV 63)] w fun x4 w=>
 R x4 w
def cfg197:Cfg:=⟨extL,[],[],[],[],[],[]⟩
theorem F197_call {a0:Value} {w:World} {R:VW} (h:F197 a0 w R):cL 197 [a0] w R:=co (g:=cfg197) Tryz.func197 (by kernel_rfl) (by kernel_rfl) (by kernel_rfl) h
theorem zq4 {w:World} {a:Int}    :
   CALL Tryz.prog 197 [.int .i64 a] w fun r w'=>Ext w w'∧(r=.bool (decide (0≤a∧a≤63))):=by
 refine F197_call ?_
 unfold F197
 refine (zcw ).mono ?_
 rintro _ w1_ ⟨hx1_,rfl⟩
 refine ⟨hx1_,?_⟩
 rfl
def F122 (a0:Value) (w:World) (R:VW):Prop:=
 oP (Instr.buildSlice 25 0 #[]) w fun x5 w=>
 LOOPI [3,4] [x5,(iV 0)] w fun u3 w next3=>
 cL 197 [a0] w fun x7 w=>
 BR x7
 (rB .lss 3 T0 U0 (u3 4) (iV 6) w fun x10=>
 BR x10
 (cL 198 [a0,(u3 4)] w fun x16 w=>
 BR x16
 (oP (Instr.buildSlice 25 1 #[(0,(u3 4))]) w fun x19 w=>
 oP (Builtin.append_ #[25,25] 25 [(u3 3),x19].toArray) w fun x20 w=>
 rA (u3 4) (iV 1) w fun x13=>
 next3 [x20,x13] w)
 (rA (u3 4) (iV 1) w fun x13=>
 next3 [(u3 3),x13] w))
 (R (u3 3) w))
 (R (u3 3) w)
def cfg122:Cfg:=⟨extL,[],[(3,2097112,[3,4])],[],[],[],[]⟩
theorem F122_call {a0:Value} {w:World} {R:VW} (h:F122 a0 w R):cL 122 [a0] w R:=co (g:=cfg122) Tryz.func122 (by kernel_rfl) (by kernel_rfl) (by kernel_rfl) h
theorem zlB {w:World} {m:Nat}   (hm:m<64) :
   CALL Tryz.prog 122 [.int .i64 (m:Int)] w fun r w'=>Ext w w'∧(Own w.heap.size w' r (zhe m)):=by
 refine F122_call ?_
 unfold F122
 refine zaK (α:=Int) u25 ty3 fun v5 w1_ hx1_ o5=>?_
 have hs_hx1_:=hx1_.size
 refine zaE (6) (fun k us w'=>∃ v:Value,us=[v,.int .i64 (k:Int)]∧Ext w1_ w'∧(RowI w1_.heap.size w'.heap.size 3 w' v (zcU m k))) (0) (by omega) ⟨_,rfl,Ext.refl w1_,zcg _ _ _ _ _⟩ ?_
 rintro k m3 uu3 w2_ hk3 ⟨v3,hu,hx2_,hrow⟩
 have hs_hx2_:=hx2_.size
 obtain ⟨hu0,hu1⟩:=zfZ hu
 try rw [hu0]
 try rw [hu1]
 try clear hu0 hu1
 have hrl:=zei m k
 refine (zq4 ).mono ?_
 rintro _ w3_ ⟨hx3_,rfl⟩
 have hs_hx3_:=hx3_.size
 refine br (fun c1=>?_) (fun c1=>?_)
 · refine zai ?_
   refine br (fun c2=>?_) (fun c2=>?_)
   · refine (zq3 (by omega) (by omega)).mono ?_
     rintro _ w4_ ⟨hx4_,rfl⟩
     have hs_hx4_:=hx4_.size
     refine zcM (fun c3=>?_) (fun c3=>?_)
     · refine zch (α:=Int) u25 ty3 z3 zc3 (by decide) (hrow.ext (hx3_.trans hx4_)) (by omega) (zcc (lo:=w4_.heap.size) (hi:=w4_.heap.size) (by first | assumption | (unfold I64 at *;omega))) (by omega) (by omega) (by rw [zam];omega) (by omega) fun v20 w5_ hc5_ o20=>?_
       have hs_hc5_:=hc5_.size
       have o5_c5:=(o5.ext (hx2_.trans (hx3_.trans hx4_))).chg hc5_ (by omega)
       refine zah (by omega) ?_
       refine ⟨m3-1,by omega,k+1,by omega,_,rfl,(Ext.chgI ((hx2_.trans hx3_).trans hx4_) hc5_ (by omega)),?_⟩
       rw [zcU,if_pos c3];exact o20
     refine zah (by omega) ?_
     refine ⟨m3-1,by omega,k+1,by omega,_,rfl,(hx2_.trans (hx3_.trans hx4_)),?_⟩
     rw [zcU,if_neg (by simp [c3])];exact (hrow.ext (hx3_.trans hx4_)).mono (by omega) (by omega)
   refine ⟨(hx1_.trans (hx2_.trans hx3_)),?_⟩
   rw [zkq (k:=6) (by omega) (by omega)]
   have:k=6:=by omega
   subst this
   exact (hrow.own.ext hx3_).own.mono (by omega)
 refine ⟨(hx1_.trans (hx2_.trans hx3_)),?_⟩
 exact absurd c1 (by omega)
theorem zdT {c:DCode} {s:DState} (hc:CodeR c) (hs:zaz c s) (t:Int):-1≤zav c s t∧zav c s t<c.locks.length∧(0≤zav c s t→(zav c s t).toNat<s.owner.length∧0≤ow s (zav c s t)∧ow s (zav c s t)<s.stacks.length):=by
 unfold zav
 split
 · rename_i h
   have h1:=zeH hc hs h.1 (.inl h.2.1)
   have h2:=znz hs h1.1 h1.2
   have h3:=hs.2.1
   refine ⟨by omega,by omega,fun _=>⟨h1.2,h.2.2,h2.2⟩⟩
 exact ⟨by omega,by omega,fun h=>by omega⟩
def zdf (c:DCode) (s:DState) (t:Int):Nat→Nat→Int→Nat
 | 0,_,_=>0
 | n+1,m,u=>if zav c s u<0 then 0 else if ow s (zav c s u)=t then m ||| 2^(zav c s u).toNat else zdf c s t n (m ||| 2^(zav c s u).toNat) (ow s (zav c s u))
def zbt (c:DCode) (s:DState) (t:Int):Nat:=zdf c s t s.stacks.length 0 t
theorem znD {m i:Nat} (hm:m<64) (hi:i<6):m ||| 2^i<64:=Nat.or_lt_two_pow (n:=6) hm (Nat.pow_lt_pow_right (by omega) hi)
theorem znE {c:DCode} {s:DState} (hc:CodeR c) (hs:zaz c s) (t:Int):∀ n m u,m<64→zdf c s t n m u<64
 | 0,_,_,_=>by rw [zdf];omega
 | n+1,m,u,hm=>by
   have h1:=zdT hc hs u
   have h2:=hc.1.locks6
   rw [zdf]
   split
   · omega
   have h3:=znD hm (i:=(zav c s u).toNat) (by omega)
   split
   · exact h3
   exact znE hc hs t n _ _ h3
theorem zlC {c:DCode} {s:DState} (hc:CodeR c) (hs:zaz c s) (t:Int):zbt c s t<64:=znE hc hs t _ _ _ (by omega)
def F63 (a0 a1 a2:Value) (w:World) (R:VW):Prop:=
 oP (Instr.box 28 a0) w fun x3 w=>
 oP (Instr.box 31 a1) w fun x4 w=>
 rF 31 x4 2 w fun x11=>
 rL 29 x11 w fun x12=>
 rN 29 3 x12 w fun x13=>
 LOOPI [7,8,14] [(iV 0),a2,(iV 0)] w fun u3 w next3=>
 rC (u3 14) x13 w fun x15=>
 BR x15
 (rL 28 x3 w fun x16=>
 rL 31 x4 w fun x17=>
 cL 67 [x16,x17,(u3 8)] w fun x19 w=>
 rB .lss 3 T0 U0 x19 (iV 0) w fun x21=>
 BR x21
 (R (iV 0) w)
 (rD (convert 3 108 x19) w fun x24=>
 rB .shl 3 U0 T0 (iV 1) x24 w fun x25=>
 rB .or 3 T0 T0 (u3 7) x25 w fun x26=>
 rL 31 x4 w fun x27=>
 cL 119 [x27,x19] w fun x29 w=>
 rB .eql 3 T0 T0 x29 a2 w fun x32=>
 BR x32
 (R x26 w)
 (rA (u3 14) (iV 1) w fun x34=>
 next3 [x26,x29,x34] w)))
 (R (iV 0) w)
def cfg63:Cfg:=⟨extL,[],[(3,34359722944,[7,8,14])],[],[],[],[]⟩
theorem F63_call {a0 a1 a2:Value} {w:World} {R:VW} (h:F63 a0 a1 a2 w R):cL 63 [a0,a1,a2] w R:=co (g:=cfg63) Tryz.func63 (by kernel_rfl) (by kernel_rfl) (by kernel_rfl) h
theorem zpX {w:World} {v0:Value} {W0:World} {c:DCode} {v1:Value} {W1:World} {s:DState} {t:Int}  (h0:Is W0 v0 c) (e0:Ext W0 w) (h1:Is W1 v1 s) (e1:Ext W1 w) (hc:CodeR c) (hs:zaz c s) :
   CALL Tryz.prog 63 [v0,v1,.int .i64 t] w fun r w'=>Ext w w'∧(r=.int .i64 (zbt c s t:Int)):=by
 refine F63_call ?_
 unfold F63
 refine zal zbq rfl h0 e0 fun w1_ hx1_ hA3 hV3=>?_
 refine zal zbM rfl h1 (e1.trans hx1_) fun w2_ hx2_ hA4 hV4=>?_
 refine zaa zaT ?_
 refine zab zdJ (zau hA4) (Ext.refl w2_) fun v12 h12=>?_
 have hln13:=zaf h12
 refine zae u29 h12 ?_
 refine zaE (s.stacks.length) (fun k us w'=>∃ q:Nat×Int,us=[.int .i64 (q.1:Int),.int .i64 q.2,.int .i64 (k:Int)]∧Ext w2_ w'∧(q.1<64∧zdf c s t (s.stacks.length-k) q.1 q.2=zbt c s t)) (0) (by omega) ⟨(0,t),rfl,Ext.refl w2_,by simp,rfl⟩ ?_
 rintro k m3 uu3 w3_ hk3 ⟨q,hu,hx3_,hq1,hq2⟩
 obtain ⟨hu0,hu1,hu2⟩:=ztV hu
 try rw [hu0]
 try rw [hu1]
 try rw [hu2]
 try clear hu0 hu1 hu2
 obtain ⟨q,u⟩:=q;simp only at hq1 hq2 ⊢;have hw:=zdT hc hs u;have hl6:=hc.1.locks6;have hmany:=hs.2.2.1
 refine zai ?_
 refine br (fun c1=>?_) (fun c1=>?_)
 · refine zan hV3 (hx2_.trans hx3_) ?_
   refine zan hV4 hx3_ ?_
   refine (zkl h0 (e0.trans (hx1_.trans (hx2_.trans hx3_))) h1 (e1.trans (hx1_.trans (hx2_.trans hx3_))) (by assumption) (by assumption)).mono ?_
   rintro _ w4_ ⟨hx4_,rfl⟩
   refine zai ?_
   refine br (fun c2=>?_) (fun c2=>?_)
   · refine ⟨(hx1_.trans (hx2_.trans (hx3_.trans hx4_))),?_⟩
     rw [show s.stacks.length-k=(s.stacks.length-k-1)+1 by omega,zdf,if_pos (by omega)] at hq2
     rw [←hq2];rfl
   rw [show s.stacks.length-k=(s.stacks.length-k-1)+1 by omega,zdf,if_neg (by omega)] at hq2
   obtain ⟨l,hl⟩:∃ l:Nat,zav c s u=(l:Int):=⟨(zav c s u).toNat,by omega⟩
   have hw2:=hw.2.2 (by omega)
   rw [hl] at hw hw2 hq2 ⊢
   simp only [Int.toNat_natCast] at hq2 hw2
   have ho6:=znD hq1 (i:=l) (by omega)
   have hp:2^l<64:=Nat.pow_lt_pow_right (n:=6) (by omega) (by omega)
   refine zhX (by kernel_rfl) zth (by omega) ?_
   refine zlX (by omega) ?_
   refine zqu (by omega) (by omega) ?_
   refine zan hV4 (hx3_.trans hx4_) ?_
   refine (zfV h1 (e1.trans (hx1_.trans (hx2_.trans (hx3_.trans hx4_)))) (by omega) (by omega)).mono ?_
   rintro _ w5_ ⟨hx5_,rfl⟩
   refine zag ?_
   refine br (fun c3=>?_) (fun c3=>?_)
   · refine ⟨(hx1_.trans (hx2_.trans (hx3_.trans (hx4_.trans hx5_)))),?_⟩
     rw [if_pos (by omega)] at hq2
     rw [hq2]
   refine zah (by omega) ?_
   refine ⟨m3-1,by omega,k+1,by omega,(q ||| 2^l,max (ow s (l:Int)) (-1)),rfl,(hx3_.trans (hx4_.trans hx5_)),?_⟩
   rw [if_neg (by omega)] at hq2
   refine ⟨ho6,?_⟩
   rw [←hq2]
   simp only
   rw [show max (ow s (l:Int)) (-1)=ow s (l:Int) by omega,Nat.sub_sub]
 refine ⟨(hx1_.trans (hx2_.trans hx3_)),?_⟩
 rw [show s.stacks.length-k=0 by omega,zdf] at hq2
 rw [←hq2];rfl
def F66 (a0 a1 a2:Value) (w:World) (R:VW):Prop:=
 oP (Instr.box 28 a0) w fun x3 w=>
 oP (Instr.box 31 a1) w fun x4 w=>
 LOOPI [7,8,9] [(iV 0),a2,(iV 0)] w fun u4 w next4=>
 rF 31 x4 2 w fun x13=>
 rL 29 x13 w fun x14=>
 rN 29 3 x14 w fun x15=>
 rC (u4 9) x15 w fun x16=>
 BR x16
 (rL 28 x3 w fun x19=>
 rL 31 x4 w fun x20=>
 cL 68 [x19,x20,(u4 8)] w fun x22 w=>
 rB .lss 3 T0 U0 x22 (iV 0) w fun x24=>
 BR x24
 (oP (Instr.buildSlice 25 0 #[]) w fun x25 w=>
 R x25 w)
 (cL 121 [x22] w fun x28 w=>
 rB .or 3 T0 T0 (u4 7) x28 w fun x29=>
 rF 31 x4 1 w fun x30=>
 rL 25 x30 w fun x31=>
 rX 25 x31 x22 w fun x33=>
 rL 3 x33 w fun x34=>
 rB .eql 3 T0 T0 x34 a2 w fun x37=>
 BR x37
 (cL 122 [x29] w fun x39 w=>
 R x39 w)
 (rA (u4 9) (iV 1) w fun x18=>
 next4 [x29,x34,x18] w)))
 (oP (Instr.buildSlice 25 0 #[]) w fun x40 w=>
 R x40 w)
def cfg66:Cfg:=⟨extL,[],[(4,1099511625664,[7,8,9])],[],[],[],[]⟩
theorem F66_call {a0 a1 a2:Value} {w:World} {R:VW} (h:F66 a0 a1 a2 w R):cL 66 [a0,a1,a2] w R:=co (g:=cfg66) Tryz.func66 (by kernel_rfl) (by kernel_rfl) (by kernel_rfl) h
theorem zlD {w:World} {v0:Value} {W0:World} {c:DCode} {v1:Value} {W1:World} {s:DState} {t:Int}  (h0:Is W0 v0 c) (e0:Ext W0 w) (h1:Is W1 v1 s) (e1:Ext W1 w) (hc:CodeR c) (hs:zaz c s) :
   CALL Tryz.prog 66 [v0,v1,.int .i64 t] w fun r w'=>Ext w w'∧(Own w.heap.size w' r (zhe (zbt c s t))):=by
 refine F66_call ?_
 unfold F66
 have hs_e0:=e0.size
 have hs_e1:=e1.size
 refine zal zbq rfl h0 e0 fun w1_ hx1_ hA3 hV3=>?_
 have hs_hx1_:=hx1_.size
 refine zal zbM rfl h1 (e1.trans hx1_) fun w2_ hx2_ hA4 hV4=>?_
 have hs_hx2_:=hx2_.size
 refine zaE (s.stacks.length) (fun k us w'=>∃ q:Nat×Int,us=[.int .i64 (q.1:Int),.int .i64 q.2,.int .i64 (k:Int)]∧Ext w2_ w'∧(q.1<64∧zdf c s t (s.stacks.length-k) q.1 q.2=zbt c s t)) (0) (by omega) ⟨(0,t),rfl,Ext.refl w2_,by simp,rfl⟩ ?_
 rintro k m4 uu4 w3_ hk4 ⟨q,hu,hx3_,hq1,hq2⟩
 have hs_hx3_:=hx3_.size
 obtain ⟨hu0,hu1,hu2⟩:=ztV hu
 try rw [hu0]
 try rw [hu1]
 try rw [hu2]
 try clear hu0 hu1 hu2
 obtain ⟨q,u⟩:=q;simp only at hq1 hq2 ⊢;have hw:=zdT hc hs u;have hl6:=hc.1.locks6;have hmany:=hs.2.2.1
 refine zaa zaT ?_
 refine zab zdJ (zau hA4) hx3_ fun v14 h14=>?_
 have hln15:=zaf h14
 refine zae u29 h14 ?_
 refine zai ?_
 refine br (fun c1=>?_) (fun c1=>?_)
 · refine zan hV3 (hx2_.trans hx3_) ?_
   refine zan hV4 hx3_ ?_
   refine (zeI h0 (e0.trans (hx1_.trans (hx2_.trans hx3_))) h1 (e1.trans (hx1_.trans (hx2_.trans hx3_))) (by assumption) (by assumption)).mono ?_
   rintro _ w4_ ⟨hx4_,rfl⟩
   have hs_hx4_:=hx4_.size
   refine zai ?_
   refine br (fun c2=>?_) (fun c2=>?_)
   · refine zaK (α:=Int) u25 ty3 fun v25 w5_ hx5_ o25=>?_
     have hs_hx5_:=hx5_.size
     refine ⟨(hx1_.trans (hx2_.trans (hx3_.trans (hx4_.trans hx5_)))),?_⟩
     rw [show s.stacks.length-k=(s.stacks.length-k-1)+1 by omega,zdf,if_pos (by omega)] at hq2
     rw [←hq2];exact o25.own.own.mono (by omega)
   rw [show s.stacks.length-k=(s.stacks.length-k-1)+1 by omega,zdf,if_neg (by omega)] at hq2
   obtain ⟨l,hl⟩:∃ l:Nat,zav c s u=(l:Int):=⟨(zav c s u).toNat,by omega⟩
   have hw2:=hw.2.2 (by omega)
   rw [hl] at hw hw2 hq2 ⊢
   simp only [Int.toNat_natCast] at hq2 hw2
   have ho6:=znD hq1 (i:=l) (by omega)
   have hp:2^l<64:=Nat.pow_lt_pow_right (n:=6) (by omega) (by omega)
   refine (ziK (by omega)).mono ?_
   rintro _ w6_ ⟨hx6_,rfl⟩
   have hs_hx6_:=hx6_.size
   refine zqu (by omega) (by omega) ?_
   refine zaa zcA ?_
   refine zab zbk (zbd hA4) (hx3_.trans (hx4_.trans hx6_)) fun v31 h31=>?_
   refine zat u25 ty3 h31 (by omega) (by omega) fun b33 o33 h33=>?_
   rw [zfU (by omega) (by simpa using hw2.1)] at h33
   refine zac ty3 h33 (hx3_.trans (hx4_.trans hx6_)) fun hI34=>?_
   refine zag ?_
   refine br (fun c3=>?_) (fun c3=>?_)
   · rw [if_pos c3] at hq2
     refine (zlB (by omega)).mono ?_
     rintro r39 w7_ ⟨hx7_,o39⟩
     have o39:=o39.toI
     have hs_hx7_:=hx7_.size
     refine ⟨(hx1_.trans (hx2_.trans (hx3_.trans (hx4_.trans (hx6_.trans hx7_))))),?_⟩
     rw [←hq2];exact o39.own.mono (by omega)
   refine zah (by omega) ?_
   refine ⟨m4-1,by omega,k+1,by omega,(q ||| 2^l,ow s (l:Int)),rfl,(hx3_.trans (hx4_.trans hx6_)),?_⟩
   rw [if_neg c3] at hq2
   refine ⟨ho6,?_⟩
   rw [←hq2,Nat.sub_sub]
 refine zaK (α:=Int) u25 ty3 fun v40 w8_ hx8_ o40=>?_
 have hs_hx8_:=hx8_.size
 refine ⟨(hx1_.trans (hx2_.trans (hx3_.trans hx8_))),?_⟩
 rw [show s.stacks.length-k=0 by omega,zdf] at hq2
 rw [←hq2];exact o40.own.own.mono (by omega)
def zhA (c:DCode) (s:DState) (t:Int):List Int:=if CodeR c∧zaz c s then zhe (zbt c s t) else []
theorem zop {c:DCode} {s:DState} {t:Int} (h:¬(0≤t∧t≤(s.stacks.length:Int)-1)):zbt c s t=0:=by
 unfold zbt
 cases hn:s.stacks.length with
 | zero=>rfl
 | succ n=>
   rw [zdf,if_pos]
   unfold zav zce
   rw [dif_neg (by omega)]
   simp
theorem zhf:zhe 0=[]:=by rw [zkq (k:=0) (by omega) (by omega)];rfl
def F10 (a0 a1 a2:Value) (w:World) (R:VW):Prop:=
 oP (Instr.box 28 a0) w fun x3 w=>
 oP (Instr.box 31 a1) w fun x4 w=>
 rL 28 x3 w fun x7=>
 rL 31 x4 w fun x8=>
 cL 60 [x7,x8] w fun x9 w=>
 rD (Op.unary .not x9) w fun x10=>
 BR x10
 (R (Value.slice none 0 0) w)
 (rL 28 x3 w fun x11=>
 rL 31 x4 w fun x12=>
 cL 63 [x11,x12,a2] w fun x14 w=>
 cL 61 [x14] w fun x15 w=>
 R x15 w)
def cfg10:Cfg:=⟨extL,[],[],[],[],[],[]⟩
theorem F10_call {a0 a1 a2:Value} {w:World} {R:VW} (h:F10 a0 a1 a2 w R):cL 10 [a0,a1,a2] w R:=co (g:=cfg10) Tryz.func10 (by kernel_rfl) (by kernel_rfl) (by kernel_rfl) h
theorem zgC {w:World} {v0:Value} {W0:World} {c:DCode} {v1:Value} {W1:World} {s:DState} {t:Int}  (h0:Is W0 v0 c) (e0:Ext W0 w) (h1:Is W1 v1 s) (e1:Ext W1 w)  :
   CALL Tryz.prog 10 [v0,v1,.int .i64 t] w fun r w'=>Ext w w'∧(Own w.heap.size w' r (zhA c s t)):=by
 refine F10_call ?_
 unfold F10
 have hs_e0:=e0.size
 have hs_e1:=e1.size
 refine zal zbq rfl h0 e0 fun w1_ hx1_ hA3 hV3=>?_
 have hs_hx1_:=hx1_.size
 refine zal zbM rfl h1 (e1.trans hx1_) fun w2_ hx2_ hA4 hV4=>?_
 have hs_hx2_:=hx2_.size
 refine zan hV3 hx2_ ?_
 refine zan hV4 (Ext.refl w2_) ?_
 refine (zb8 h0 (e0.trans (hx1_.trans hx2_)) h1 (e1.trans (hx1_.trans hx2_))).mono ?_
 rintro _ w3_ ⟨hx3_,rfl⟩
 have hs_hx3_:=hx3_.size
 refine zas ?_
 refine br (fun c1=>?_) (fun c1=>?_)
 · refine ⟨(hx1_.trans (hx2_.trans hx3_)),?_⟩
   unfold zhA;rw [if_neg c1];exact zfD rfl
 refine zan hV3 (hx2_.trans hx3_) ?_
 refine zan hV4 hx3_ ?_
 refine (zpX h0 (e0.trans (hx1_.trans (hx2_.trans hx3_))) h1 (e1.trans (hx1_.trans (hx2_.trans hx3_))) (Decidable.not_not.1 c1).1 (Decidable.not_not.1 c1).2).mono ?_
 rintro _ w4_ ⟨hx4_,rfl⟩
 have hs_hx4_:=hx4_.size
 have hk64:=zlC (Decidable.not_not.1 c1).1 (Decidable.not_not.1 c1).2 t
 refine (zlA (by omega)).mono ?_
 rintro r15 w5_ ⟨hx5_,o15⟩
 have o15:=o15.toI
 have hs_hx5_:=hx5_.size
 refine ⟨(hx1_.trans (hx2_.trans (hx3_.trans (hx4_.trans hx5_)))),?_⟩
 unfold zhA;rw [if_pos (Decidable.not_not.1 c1)];exact o15.own.mono (by omega)
def F12 (a0 a1 a2:Value) (w:World) (R:VW):Prop:=
 oP (Instr.box 28 a0) w fun x3 w=>
 oP (Instr.box 31 a1) w fun x4 w=>
 rL 28 x3 w fun x7=>
 rL 31 x4 w fun x8=>
 cL 64 [x7,x8] w fun x9 w=>
 rD (Op.unary .not x9) w fun x10=>
 BR x10
 (oP (Instr.buildSlice 25 0 #[]) w fun x20 w=>
 R x20 w)
 (rF 31 x4 2 w fun x13=>
 rL 29 x13 w fun x14=>
 rN 29 3 x14 w fun x15=>
 rB .sub 3 T0 U0 x15 (iV 1) w fun x16=>
 cL 65 [a2,(iV 0),x16] w fun x17 w=>
 rD (Op.unary .not x17) w fun x18=>
 BR x18
 (oP (Instr.buildSlice 25 0 #[]) w fun x20 w=>
 R x20 w)
 (rL 28 x3 w fun x21=>
 rL 31 x4 w fun x22=>
 cL 66 [x21,x22,a2] w fun x24 w=>
 R x24 w))
def cfg12:Cfg:=⟨extL,[],[],[],[],[],[]⟩
theorem F12_call {a0 a1 a2:Value} {w:World} {R:VW} (h:F12 a0 a1 a2 w R):cL 12 [a0,a1,a2] w R:=co (g:=cfg12) Tryz.func12 (by kernel_rfl) (by kernel_rfl) (by kernel_rfl) h
theorem zkr {w:World} {v0:Value} {W0:World} {c:DCode} {v1:Value} {W1:World} {s:DState} {t:Int}  (h0:Is W0 v0 c) (e0:Ext W0 w) (h1:Is W1 v1 s) (e1:Ext W1 w)  :
   CALL Tryz.prog 12 [v0,v1,.int .i64 t] w fun r w'=>Ext w w'∧(Own w.heap.size w' r (zhA c s t)):=by
 refine F12_call ?_
 unfold F12
 have hs_e0:=e0.size
 have hs_e1:=e1.size
 refine zal zbq rfl h0 e0 fun w1_ hx1_ hA3 hV3=>?_
 have hs_hx1_:=hx1_.size
 refine zal zbM rfl h1 (e1.trans hx1_) fun w2_ hx2_ hA4 hV4=>?_
 have hs_hx2_:=hx2_.size
 refine zan hV3 hx2_ ?_
 refine zan hV4 (Ext.refl w2_) ?_
 refine (zda h0 (e0.trans (hx1_.trans hx2_)) h1 (e1.trans (hx1_.trans hx2_))).mono ?_
 rintro _ w3_ ⟨hx3_,rfl⟩
 have hs_hx3_:=hx3_.size
 refine zas ?_
 refine br (fun c1=>?_) (fun c1=>?_)
 · refine zaK (α:=Int) u25 ty3 fun v20 w4_ hx4_ o20=>?_
   have hs_hx4_:=hx4_.size
   refine ⟨(hx1_.trans (hx2_.trans (hx3_.trans hx4_))),?_⟩
   unfold zhA;rw [if_neg c1];exact o20.own.own.mono (by omega)
 refine zaa zaT ?_
 refine zab zdJ (zau hA4) hx3_ fun v14 h14=>?_
 have hln15:=zaf h14
 refine zae u29 h14 ?_
 refine za2 (by unfold I64;omega) ?_
 refine (zcw ).mono ?_
 rintro _ w5_ ⟨hx5_,rfl⟩
 have hs_hx5_:=hx5_.size
 refine zas ?_
 refine br (fun c2=>?_) (fun c2=>?_)
 · refine zaK (α:=Int) u25 ty3 fun v20 w6_ hx6_ o20=>?_
   have hs_hx6_:=hx6_.size
   refine ⟨(hx1_.trans (hx2_.trans (hx3_.trans (hx5_.trans hx6_)))),?_⟩
   unfold zhA;rw [if_pos (Decidable.not_not.1 c1),zop c2,zhf];exact o20.own.own.mono (by omega)
 refine zan hV3 (hx2_.trans (hx3_.trans hx5_)) ?_
 refine zan hV4 (hx3_.trans hx5_) ?_
 refine (zlD h0 (e0.trans (hx1_.trans (hx2_.trans (hx3_.trans hx5_)))) h1 (e1.trans (hx1_.trans (hx2_.trans (hx3_.trans hx5_)))) (Decidable.not_not.1 c1).1 (Decidable.not_not.1 c1).2).mono ?_
 rintro r24 w7_ ⟨hx7_,o24⟩
 have o24:=o24.toI
 have hs_hx7_:=hx7_.size
 refine ⟨(hx1_.trans (hx2_.trans (hx3_.trans (hx5_.trans hx7_)))),?_⟩
 unfold zhA;rw [if_pos (Decidable.not_not.1 c1)];exact o24.own.mono (by omega)
def zbz (c:DCode) (s:DState):Nat→Nat
 | 0=>0
 | k+1=>if zbt c s k≠0 then zbz c s k ||| 2^(zav c s k).toNat else zbz c s k
theorem zdg {c:DCode} {s:DState} {t:Int} (h:zbt c s t≠0):0≤zav c s t:=by
 unfold zbt at h
 cases hn:s.stacks.length with
 | zero=>rw [hn,zdf] at h;exact absurd rfl h
 | succ n=>
   rw [hn,zdf] at h
   split at h
   · exact absurd rfl h
   omega
theorem zcB {c:DCode} {s:DState} (hc:CodeR c) (hs:zaz c s):∀ k,zbz c s k<64
 | 0=>by rw [zbz];omega
 | k+1=>by
   have h1:=zcB hc hs k
   have h2:=zdT hc hs k
   have h3:=hc.1.locks6
   rw [zbz]
   split
   · rename_i h
     have:=zdg h
     exact znD h1 (by omega)
   exact h1
def F62 (a0 a1:Value) (w:World) (R:VW):Prop:=
 oP (Instr.box 28 a0) w fun x2 w=>
 oP (Instr.box 31 a1) w fun x3 w=>
 rF 31 x3 2 w fun x7=>
 rL 29 x7 w fun x8=>
 rN 29 3 x8 w fun x9=>
 LOOPI [5,10] [(iV 0),(iV 0)] w fun u3 w next3=>
 rC (u3 10) x9 w fun x11=>
 BR x11
 (rL 28 x2 w fun x13=>
 rL 31 x3 w fun x14=>
 cL 63 [x13,x14,(u3 10)] w fun x16 w=>
 rB .neq 3 T0 U0 x16 (iV 0) w fun x17=>
 BR x17
 (rL 28 x2 w fun x19=>
 rL 31 x3 w fun x20=>
 cL 67 [x19,x20,(u3 10)] w fun x22 w=>
 rD (convert 3 108 x22) w fun x23=>
 rB .shl 3 U0 T0 (iV 1) x23 w fun x24=>
 rB .or 3 T0 T0 (u3 5) x24 w fun x25=>
 rA (u3 10) (iV 1) w fun x26=>
 next3 [x25,x26] w)
 (rA (u3 10) (iV 1) w fun x26=>
 next3 [(u3 5),x26] w))
 (R (u3 5) w)
def cfg62:Cfg:=⟨extL,[],[(3,134216800,[5,10])],[],[],[],[]⟩
theorem F62_call {a0 a1:Value} {w:World} {R:VW} (h:F62 a0 a1 w R):cL 62 [a0,a1] w R:=co (g:=cfg62) Tryz.func62 (by kernel_rfl) (by kernel_rfl) (by kernel_rfl) h
theorem znF {w:World} {v0:Value} {W0:World} {c:DCode} {v1:Value} {W1:World} {s:DState}  (h0:Is W0 v0 c) (e0:Ext W0 w) (h1:Is W1 v1 s) (e1:Ext W1 w) (hc:CodeR c) (hs:zaz c s) :
   CALL Tryz.prog 62 [v0,v1] w fun r w'=>Ext w w'∧(r=.int .i64 (zbz c s s.stacks.length:Int)):=by
 refine F62_call ?_
 unfold F62
 refine zal zbq rfl h0 e0 fun w1_ hx1_ hA2 hV2=>?_
 refine zal zbM rfl h1 (e1.trans hx1_) fun w2_ hx2_ hA3 hV3=>?_
 refine zaa zaT ?_
 refine zab zdJ (zau hA3) (Ext.refl w2_) fun v8 h8=>?_
 have hln9:=zaf h8
 refine zae u29 h8 ?_
 refine zaE (s.stacks.length) (fun k us w'=>us=[.int .i64 (zbz c s k:Int),.int .i64 (k:Int)]∧Ext w2_ w'∧(True)) (0) (by omega) ⟨rfl,Ext.refl w2_,trivial⟩ ?_
 rintro k m3 uu3 w3_ hk3 ⟨hu,hx3_,_⟩
 obtain ⟨hu0,hu1⟩:=zfZ hu
 try rw [hu0]
 try rw [hu1]
 try clear hu0 hu1
 have hw:=zdT hc hs k;have hl6:=hc.1.locks6;have hmany:=hs.2.2.1;have hk64:=zcB hc hs k;have hk1:=zcB hc hs (k+1);rw [zbz] at hk1
 refine zai ?_
 refine br (fun c1=>?_) (fun c1=>?_)
 · refine zan hV2 (hx2_.trans hx3_) ?_
   refine zan hV3 hx3_ ?_
   refine (zpX h0 (e0.trans (hx1_.trans (hx2_.trans hx3_))) h1 (e1.trans (hx1_.trans (hx2_.trans hx3_))) (by assumption) (by assumption)).mono ?_
   rintro _ w4_ ⟨hx4_,rfl⟩
   refine zaM ?_
   refine br (fun c2=>?_) (fun c2=>?_)
   · refine zan hV2 (hx2_.trans (hx3_.trans hx4_)) ?_
     refine zan hV3 (hx3_.trans hx4_) ?_
     refine (zkl h0 (e0.trans (hx1_.trans (hx2_.trans (hx3_.trans hx4_)))) h1 (e1.trans (hx1_.trans (hx2_.trans (hx3_.trans hx4_)))) (by assumption) (by assumption)).mono ?_
     rintro _ w5_ ⟨hx5_,rfl⟩
     have hw0:=zdg (c:=c) (s:=s) (t:=k) (by omega)
     obtain ⟨l,hl⟩:∃ l:Nat,zav c s k=(l:Int):=⟨(zav c s k).toNat,by omega⟩
     rw [hl] at hw ⊢
     have hp:2^l<64:=Nat.pow_lt_pow_right (n:=6) (by omega) (by omega)
     refine zhX (by kernel_rfl) zth (by omega) ?_
     refine zlX (by omega) ?_
     refine zqu (by omega) (by omega) ?_
     refine zah (by omega) ?_
     refine ⟨m3-1,by omega,k+1,by omega,by rw [zbz,if_pos (by omega),hl];rfl,(hx3_.trans (hx4_.trans hx5_)),?_⟩
     trivial
   refine zah (by omega) ?_
   refine ⟨m3-1,by omega,k+1,by omega,by rw [zbz,if_neg (by omega)],(hx3_.trans hx4_),?_⟩
   trivial
 refine ⟨(hx1_.trans (hx2_.trans hx3_)),?_⟩
 rw [show k=s.stacks.length by omega]
theorem zmI {c:DCode} {s:DState} (hc:CodeR c) (hs:zaz c s) {t u:Int} {n m:Nat} (h1:¬zav c s u<0) (h2:ow s (zav c s u)=t):zdf c s t (n+1) m u≠0:=by
 rw [zdf,if_neg h1,if_pos h2]
 intro e
 have:=congrArg (·.testBit (zav c s u).toNat) e
 simp [Nat.testBit_or,Nat.testBit_two_pow] at this
def F76 (a0 a1:Value) (w:World) (R:VW):Prop:=
 oP (Instr.box 28 a0) w fun x2 w=>
 oP (Instr.box 31 a1) w fun x3 w=>
 LOOPI [5,6] [(iV 0),(iV 0)] w fun u3 w next3=>
 rF 31 x3 2 w fun x11=>
 rL 29 x11 w fun x12=>
 rN 29 3 x12 w fun x13=>
 rC (u3 6) x13 w fun x14=>
 BR x14
 (LOOPI [5,7,8] [(u3 5),(u3 6),(iV 0)] w fun u7 w next7=>
 rF 31 x3 2 w fun x19=>
 rL 29 x19 w fun x20=>
 rN 29 3 x20 w fun x21=>
 rC (u7 8) x21 w fun x22=>
 BR x22
 (rL 28 x2 w fun x25=>
 rL 31 x3 w fun x26=>
 cL 68 [x25,x26,(u7 7)] w fun x28 w=>
 rB .lss 3 T0 U0 x28 (iV 0) w fun x30=>
 BR x30
 (rA (u3 6) (iV 1) w fun x16=>
 next3 [(u7 5),x16] w)
 (rF 31 x3 1 w fun x31=>
 rL 25 x31 w fun x32=>
 rX 25 x32 x28 w fun x34=>
 rL 3 x34 w fun x35=>
 rB .eql 3 T0 T0 x35 (u3 6) w fun x38=>
 BR x38
 (rL 28 x2 w fun x40=>
 rL 31 x3 w fun x41=>
 cL 68 [x40,x41,(u3 6)] w fun x43 w=>
 cL 121 [x43] w fun x44 w=>
 rB .or 3 T0 T0 (u7 5) x44 w fun x45=>
 rA (u3 6) (iV 1) w fun x16=>
 next3 [x45,x16] w)
 (rA (u7 8) (iV 1) w fun x24=>
 next7 [(u7 5),x35,x24] w)))
 (rA (u3 6) (iV 1) w fun x16=>
 next3 [(u7 5),x16] w))
 (cL 122 [(u3 5)] w fun x47 w=>
 R x47 w)
def cfg76:Cfg:=⟨extL,[],[(3,70368744177632,[5,6]),(7,70368743916448,[5,7,8])],[],[],[],[]⟩
theorem F76_call {a0 a1:Value} {w:World} {R:VW} (h:F76 a0 a1 w R):cL 76 [a0,a1] w R:=co (g:=cfg76) Tryz.func76 (by kernel_rfl) (by kernel_rfl) (by kernel_rfl) h
theorem zoq {w:World} {v0:Value} {W0:World} {c:DCode} {v1:Value} {W1:World} {s:DState}  (h0:Is W0 v0 c) (e0:Ext W0 w) (h1:Is W1 v1 s) (e1:Ext W1 w) (hc:CodeR c) (hs:zaz c s) :
   CALL Tryz.prog 76 [v0,v1] w fun r w'=>Ext w w'∧(Own w.heap.size w' r (zhe (zbz c s s.stacks.length))):=by
 refine F76_call ?_
 unfold F76
 have hs_e0:=e0.size
 have hs_e1:=e1.size
 refine zal zbq rfl h0 e0 fun w1_ hx1_ hA2 hV2=>?_
 have hs_hx1_:=hx1_.size
 refine zal zbM rfl h1 (e1.trans hx1_) fun w2_ hx2_ hA3 hV3=>?_
 have hs_hx2_:=hx2_.size
 refine zaE (s.stacks.length) (fun k us w'=>us=[.int .i64 (zbz c s k:Int),.int .i64 (k:Int)]∧Ext w2_ w'∧(True)) (0) (by omega) ⟨rfl,Ext.refl w2_,trivial⟩ ?_
 rintro k m3 uu3 w3_ hk3 ⟨hu,hx3_,_⟩
 have hs_hx3_:=hx3_.size
 obtain ⟨hu0,hu1⟩:=zfZ hu;clear hu
 try rw [hu0]
 try rw [hu1]
 try clear hu0 hu1
 have hwk:=zdT hc hs k;have hl6:=hc.1.locks6;have hmany:=hs.2.2.1;have hk64:=zcB hc hs k;have hk1:=zcB hc hs (k+1);rw [zbz] at hk1
 refine zaa zaT ?_
 refine zab zdJ (zau hA3) hx3_ fun v12 h12=>?_
 have hln13:=zaf h12
 refine zae u29 h12 ?_
 refine zai ?_
 refine br (fun c1=>?_) (fun c1=>?_)
 · refine zaE (s.stacks.length) (fun j us w'=>∃ q:Nat×Int,us=[.int .i64 (zbz c s k:Int),.int .i64 q.2,.int .i64 (j:Int)]∧Ext w3_ w'∧(zdf c s k (s.stacks.length-j) q.1 q.2=zbt c s k)) (0) (by omega) ⟨(0,(k:Int)),rfl,Ext.refl w3_,rfl⟩ ?_
   rintro j m7 uu7 w4_ hk7 ⟨q,hu,hx4_,hq2⟩
   have hs_hx4_:=hx4_.size
   obtain ⟨hu0,hu1,hu2⟩:=ztV hu
   try rw [hu0]
   try rw [hu1]
   try rw [hu2]
   try clear hu0 hu1 hu2
   obtain ⟨q,u⟩:=q;simp only at hq2 ⊢;have hw:=zdT hc hs u
   refine zaa zaT ?_
   refine zab zdJ (zau hA3) (hx3_.trans hx4_) fun v20 h20=>?_
   have hln21:=zaf h20
   refine zae u29 h20 ?_
   refine zai ?_
   refine br (fun c2=>?_) (fun c2=>?_)
   · refine zan hV2 (hx2_.trans (hx3_.trans hx4_)) ?_
     refine zan hV3 (hx3_.trans hx4_) ?_
     refine (zeI h0 (e0.trans (hx1_.trans (hx2_.trans (hx3_.trans hx4_)))) h1 (e1.trans (hx1_.trans (hx2_.trans (hx3_.trans hx4_)))) (by assumption) (by assumption)).mono ?_
     rintro _ w5_ ⟨hx5_,rfl⟩
     have hs_hx5_:=hx5_.size
     refine zai ?_
     refine br (fun c3=>?_) (fun c3=>?_)
     · refine zah (by omega) ?_
       refine ⟨m3-1,by omega,k+1,by omega,by rw [show s.stacks.length-j=(s.stacks.length-j-1)+1 by omega,zdf,if_pos c3] at hq2;rw [zbz,if_neg (by omega)],(hx3_.trans (hx4_.trans hx5_)),?_⟩
       trivial
     refine zaa zcA ?_
     refine zab zbk (zbd hA3) (hx3_.trans (hx4_.trans hx5_)) fun v32 h32=>?_
     refine zat u25 ty3 h32 (by omega) (by omega) fun b34 o34 h34=>?_
     rw [zfU (by omega) (hw.2.2 (by omega)).1] at h34
     refine zac ty3 h34 (hx3_.trans (hx4_.trans hx5_)) fun hI35=>?_
     refine zag ?_
     refine br (fun c4=>?_) (fun c4=>?_)
     · refine zan hV2 (hx2_.trans (hx3_.trans (hx4_.trans hx5_))) ?_
       refine zan hV3 (hx3_.trans (hx4_.trans hx5_)) ?_
       refine (zeI h0 (e0.trans (hx1_.trans (hx2_.trans (hx3_.trans (hx4_.trans hx5_))))) h1 (e1.trans (hx1_.trans (hx2_.trans (hx3_.trans (hx4_.trans hx5_))))) (by assumption) (by assumption)).mono ?_
       rintro _ w6_ ⟨hx6_,rfl⟩
       have hs_hx6_:=hx6_.size
       have hf:zbt c s k≠0:=by rw [←hq2,show s.stacks.length-j=(s.stacks.length-j-1)+1 by omega];exact zmI hc hs c3 c4
       have hw0:=zdg hf
       obtain ⟨l,hl⟩:∃ l:Nat,zav c s k=(l:Int):=⟨(zav c s k).toNat,by omega⟩
       rw [hl] at hwk ⊢
       have hp:2^l<64:=Nat.pow_lt_pow_right (n:=6) (by omega) (by omega)
       refine (ziK (by omega)).mono ?_
       rintro _ w7_ ⟨hx7_,rfl⟩
       have hs_hx7_:=hx7_.size
       refine zqu (by omega) (by omega) ?_
       refine zah (by omega) ?_
       refine ⟨m3-1,by omega,k+1,by omega,by rw [zbz,if_pos hf,hl];rfl,(hx3_.trans (hx4_.trans (hx5_.trans (hx6_.trans hx7_)))),?_⟩
       trivial
     refine zah (by omega) ?_
     refine ⟨m7-1,by omega,j+1,by omega,(q ||| 2^(zav c s u).toNat,ow s (zav c s u)),rfl,(hx4_.trans hx5_),?_⟩
     rw [show s.stacks.length-j=(s.stacks.length-j-1)+1 by omega,zdf,if_neg c3,if_neg c4] at hq2
     rw [←hq2,Nat.sub_sub]
   refine zah (by omega) ?_
   refine ⟨m3-1,by omega,k+1,by omega,by rw [show s.stacks.length-j=0 by omega,zdf] at hq2;rw [zbz,if_neg (by omega)],(hx3_.trans hx4_),?_⟩
   trivial
 have hkk:k=s.stacks.length:=by omega
 refine (zlB (by omega)).mono ?_
 rintro r47 w8_ ⟨hx8_,o47⟩
 have o47:=o47.toI
 have hs_hx8_:=hx8_.size
 refine ⟨(hx1_.trans (hx2_.trans (hx3_.trans hx8_))),?_⟩
 rw [←hkk];exact o47.own.mono (by omega)
def zfB (c:DCode) (s:DState):List Int:=if CodeR c∧zaz c s then zhe (zbz c s s.stacks.length) else []
def F9 (a0 a1:Value) (w:World) (R:VW):Prop:=
 oP (Instr.box 28 a0) w fun x2 w=>
 oP (Instr.box 31 a1) w fun x3 w=>
 rL 28 x2 w fun x5=>
 rL 31 x3 w fun x6=>
 cL 60 [x5,x6] w fun x7 w=>
 rD (Op.unary .not x7) w fun x8=>
 BR x8
 (R (Value.slice none 0 0) w)
 (rL 28 x2 w fun x9=>
 rL 31 x3 w fun x10=>
 cL 62 [x9,x10] w fun x11 w=>
 cL 61 [x11] w fun x12 w=>
 R x12 w)
def cfg9:Cfg:=⟨extL,[],[],[],[],[],[]⟩
theorem F9_call {a0 a1:Value} {w:World} {R:VW} (h:F9 a0 a1 w R):cL 9 [a0,a1] w R:=co (g:=cfg9) Tryz.func9 (by kernel_rfl) (by kernel_rfl) (by kernel_rfl) h
theorem zks {w:World} {v0:Value} {W0:World} {c:DCode} {v1:Value} {W1:World} {s:DState}  (h0:Is W0 v0 c) (e0:Ext W0 w) (h1:Is W1 v1 s) (e1:Ext W1 w)  :
   CALL Tryz.prog 9 [v0,v1] w fun r w'=>Ext w w'∧(Own w.heap.size w' r (zfB c s)):=by
 refine F9_call ?_
 unfold F9
 have hs_e0:=e0.size
 have hs_e1:=e1.size
 refine zal zbq rfl h0 e0 fun w1_ hx1_ hA2 hV2=>?_
 have hs_hx1_:=hx1_.size
 refine zal zbM rfl h1 (e1.trans hx1_) fun w2_ hx2_ hA3 hV3=>?_
 have hs_hx2_:=hx2_.size
 refine zan hV2 hx2_ ?_
 refine zan hV3 (Ext.refl w2_) ?_
 refine (zb8 h0 (e0.trans (hx1_.trans hx2_)) h1 (e1.trans (hx1_.trans hx2_))).mono ?_
 rintro _ w3_ ⟨hx3_,rfl⟩
 have hs_hx3_:=hx3_.size
 refine zas ?_
 refine br (fun c1=>?_) (fun c1=>?_)
 · refine ⟨(hx1_.trans (hx2_.trans hx3_)),?_⟩
   unfold zfB;rw [if_neg c1];exact zfD rfl
 refine zan hV2 (hx2_.trans hx3_) ?_
 refine zan hV3 hx3_ ?_
 refine (znF h0 (e0.trans (hx1_.trans (hx2_.trans hx3_))) h1 (e1.trans (hx1_.trans (hx2_.trans hx3_))) (Decidable.not_not.1 c1).1 (Decidable.not_not.1 c1).2).mono ?_
 rintro _ w4_ ⟨hx4_,rfl⟩
 have hs_hx4_:=hx4_.size
 have hk64:=zcB (Decidable.not_not.1 c1).1 (Decidable.not_not.1 c1).2 s.stacks.length
 refine (zlA (by omega)).mono ?_
 rintro r12 w5_ ⟨hx5_,o12⟩
 have o12:=o12.toI
 have hs_hx5_:=hx5_.size
 refine ⟨(hx1_.trans (hx2_.trans (hx3_.trans (hx4_.trans hx5_)))),?_⟩
 unfold zfB;rw [if_pos (Decidable.not_not.1 c1)];exact o12.own.mono (by omega)
def F23 (a0 a1:Value) (w:World) (R:VW):Prop:=
 oP (Instr.box 28 a0) w fun x2 w=>
 oP (Instr.box 31 a1) w fun x3 w=>
 rL 28 x2 w fun x5=>
 rL 31 x3 w fun x6=>
 cL 64 [x5,x6] w fun x7 w=>
 rD (Op.unary .not x7) w fun x8=>
 BR x8
 (oP (Instr.buildSlice 25 0 #[]) w fun x9 w=>
 R x9 w)
 (rL 28 x2 w fun x10=>
 rL 31 x3 w fun x11=>
 cL 76 [x10,x11] w fun x12 w=>
 R x12 w)
def cfg23:Cfg:=⟨extL,[],[],[],[],[],[]⟩
theorem F23_call {a0 a1:Value} {w:World} {R:VW} (h:F23 a0 a1 w R):cL 23 [a0,a1] w R:=co (g:=cfg23) Tryz.func23 (by kernel_rfl) (by kernel_rfl) (by kernel_rfl) h
theorem zkt {w:World} {v0:Value} {W0:World} {c:DCode} {v1:Value} {W1:World} {s:DState}  (h0:Is W0 v0 c) (e0:Ext W0 w) (h1:Is W1 v1 s) (e1:Ext W1 w)  :
   CALL Tryz.prog 23 [v0,v1] w fun r w'=>Ext w w'∧(Own w.heap.size w' r (zfB c s)):=by
 refine F23_call ?_
 unfold F23
 have hs_e0:=e0.size
 have hs_e1:=e1.size
 refine zal zbq rfl h0 e0 fun w1_ hx1_ hA2 hV2=>?_
 have hs_hx1_:=hx1_.size
 refine zal zbM rfl h1 (e1.trans hx1_) fun w2_ hx2_ hA3 hV3=>?_
 have hs_hx2_:=hx2_.size
 refine zan hV2 hx2_ ?_
 refine zan hV3 (Ext.refl w2_) ?_
 refine (zda h0 (e0.trans (hx1_.trans hx2_)) h1 (e1.trans (hx1_.trans hx2_))).mono ?_
 rintro _ w3_ ⟨hx3_,rfl⟩
 have hs_hx3_:=hx3_.size
 refine zas ?_
 refine br (fun c1=>?_) (fun c1=>?_)
 · refine zaK (α:=Int) u25 ty3 fun v9 w4_ hx4_ o9=>?_
   have hs_hx4_:=hx4_.size
   refine ⟨(hx1_.trans (hx2_.trans (hx3_.trans hx4_))),?_⟩
   unfold zfB;rw [if_neg c1];exact o9.own.own.mono (by omega)
 refine zan hV2 (hx2_.trans hx3_) ?_
 refine zan hV3 hx3_ ?_
 refine (zoq h0 (e0.trans (hx1_.trans (hx2_.trans hx3_))) h1 (e1.trans (hx1_.trans (hx2_.trans hx3_))) (Decidable.not_not.1 c1).1 (Decidable.not_not.1 c1).2).mono ?_
 rintro r12 w5_ ⟨hx5_,o12⟩
 have o12:=o12.toI
 have hs_hx5_:=hx5_.size
 refine ⟨(hx1_.trans (hx2_.trans (hx3_.trans hx5_))),?_⟩
 unfold zfB;rw [if_pos (Decidable.not_not.1 c1)];exact o12.own.mono (by omega)
noncomputable def m6 (p:Nat→Prop):Nat:=zuh p 6
abbrev Tab:=List (Nat×Nat)
structure DEffect where
 keep:Int
 gen:Int
theorem DEffect.ext_iff {x y:DEffect}:x=y↔(x.keep=y.keep∧x.gen=y.gen):=⟨fun h=>by rw [h];exact ⟨rfl,rfl⟩,fun h=>by obtain ⟨h0,h1⟩:=h;cases x;cases y;simp only at h0 h1;simp only [h0,h1]⟩
instance:DecidableEq DEffect:=fun x y=>decidable_of_iff (x.keep=y.keep∧x.gen=y.gen) DEffect.ext_iff.symm
instance:Rep DEffect:=Rep.via fun x=>(x.keep,x.gen)
instance:RepZ DEffect:=⟨⟨(RepZ.zv:Int),(RepZ.zv:Int)⟩,RepZ.zc (Int×Int),fun w=>RepZ.zr (α:=Int×Int) w⟩
instance:Flat DEffect:=⟨fun h=>Flat.flat (α:=Int×Int) h⟩
end Go.Proofs.YtdmailcgaekimaaGreat
namespace Go.Sh
open Rep (rep)
theorem ChgI.one {w w':World} {g:Nat} (h:ChgI g (g+1) w w'):Chg [g] w w':=⟨h.os,h.tape,h.output,h.size,fun b hb hn=>h.block b hb (by simp at hn;omega)⟩
theorem Ext.chgF {w0 w w':World} {F:List Nat} (h:Ext w0 w) (hc:Chg F w w') (hd:∀ b∈F,w0.heap.size≤b):Ext w0 w':=
 ⟨hc.os.trans h.os,hc.tape.trans h.tape,hc.output.trans h.output,Nat.le_trans h.size hc.size,fun b hb=>(hc.block b (Nat.lt_of_lt_of_le hb h.size) fun hF=>by have:=hd b hF;omega).trans (h.block b hb)⟩
end Go.Sh
namespace Go.Proofs.YtdmailcgaekimaaGreat
open Go Go.Sh Go.Proofs
open Rep (rep)
theorem zku {w:World} {lo hi:Nat} {u:Value} (h:u.oneCell'=true):OwnI lo hi w u (⟨u⟩:Raw):=⟨[],⟨⟨[u],⟨rfl,rfl,h⟩,rfl⟩,List.nodup_nil,Wr.nil _⟩,by simp⟩
section
variable {w1 w w':World} {gv g ga n:Nat} {ms:List Bool} {ag:Bool}
end
abbrev Raw5:=Raw×Raw×Raw×Raw×Raw
theorem zlE {w:World} {lo hi:Nat} {a b c d e:Value} (ha:a.oneCell'=true) (hb:b.oneCell'=true) (hc:c.oneCell'=true) (hd:d.oneCell'=true) (he:e.oneCell'=true):OwnI lo hi w (.agg #[a,b,c,d,e]) ((⟨a⟩,⟨b⟩,⟨c⟩,⟨d⟩,⟨e⟩):Raw5):=by
 refine ⟨[],⟨⟨[a,b,c,d,e],?_,rfl⟩,List.nodup_nil,Wr.nil _⟩,by simp⟩
 have r:∀ {v:Value},v.oneCell'=true→rep [] w [v] (⟨v⟩:Raw):=fun h=>⟨rfl,rfl,h⟩
 exact zaC (F:=[]) (r ha) (zaC (F:=[]) (r hb) (zaC (F:=[]) (r hc) (zaC (F:=[]) (r hd) (r he))))
theorem zpY {w:World} {v:Value} {p:DProg} (h:Is w v p):∃ c0 c1 c2,v=.agg #[c0,c1,c2]∧c0.oneCell'=true∧c1.oneCell'=true∧c2.oneCell'=true:=by
 obtain ⟨F,cs,hr,rfl⟩:=h
 have hone:=Rep.one hr
 obtain ⟨F1,F2,x1,x2,rfl,rfl,h1,F3,F4,x3,x4,rfl,rfl,h2,h3⟩:=hr
 have e1:∃ a,x1=[a]:=by obtain ⟨a,cap,Fi,xs,rfl,_⟩:=h1;exact ⟨_,rfl⟩
 have e2:∃ a,x3=[a]:=by obtain ⟨a,cap,Fi,xs,rfl,_⟩:=h2;exact ⟨_,rfl⟩
 have e3:∃ a,x4=[a]:=by obtain ⟨a,cap,Fi,xs,rfl,_⟩:=h3;exact ⟨_,rfl⟩
 obtain ⟨a1,rfl⟩:=e1
 obtain ⟨a2,rfl⟩:=e2
 obtain ⟨a3,rfl⟩:=e3
 exact ⟨a1,a2,a3,rfl,hone a1 (by simp),hone a2 (by simp),hone a3 (by simp)⟩
theorem zpZ {α:Type} [Rep α] (ha:Rep.agg α=false) {lo hi:Nat} {w:World} {v:Value} {x:α} (h:OwnI lo hi w v x):v.oneCell'=true:=by
 obtain ⟨F,⟨hm,_,_⟩,_⟩:=h
 exact Rep.one (zaS ha hm) v (by simp)
def cdQ (p:DProg) (g1:Nat) (w0:World):ParQ:=fun i u T w=>match i with
 | 0=>∃ a,u 11=.slice (some a) 0 0
 | 1=>u 12=.pointer (some ⟨g1,0+0,none⟩)
 | 2=>Is w0 (u 13) p.globals
 | 3=>OwnI (T 3).1 (T 3).2 w (u 14) p.globals
 | 4=>∃ a,u 15=.slice (some a) 0 0
 | 5=>u 16=.pointer (some ⟨g1,0+1,none⟩)
 | 6=>Is w0 (u 17) p.locks
 | 7=>OwnI (T 7).1 (T 7).2 w (u 18) p.locks
 | 8=>u 19=.agg #[u 14,u 18,.slice none 0 0,.slice none 0 0,.slice none 0 0]
 | 9=>∃ g,u 4=.pointer (some ⟨g,0,none⟩)∧(T 9).1≤g∧g<(T 9).2∧Blk g 28 w [.slice none 0 0,.slice none 0 0,.slice none 0 0,.slice none 0 0,.slice none 0 0]
 | _=>True
structure CdS (W:World) (p:DProg) (gk ge bs x2 l3 h3 l7 h7:Nat) (v14 v18 vp ve:Value) (N:List ByteArray) (E:List Int) (L:List DIns) (Fp Fe Fi:List Nat) (w:World):Prop where
 bk:Blk gk 28 w [v14,v18,vp,ve,.slice none 0 0]
 g:OwnI l3 h3 w v14 p.globals
 l:OwnI l7 h7 w v18 p.locks
 n:RowG Fp 9 w vp N
 e:RowG Fe 3 w ve E
 nn:Fp.Nodup
 en:Fe.Nodup
 em:EmF W ge p L Fi w
 x:Blk x2 28 w [.slice none 0 0,.slice none 0 0,.slice none 0 0,.slice none 0 0,.slice none 0 0]
 dpe:∀ c∈Fp,c∉Fe
 dpi:∀ c∈Fp,c∉Fi
 dei:∀ c∈Fe,c∉Fi
 bp:∀ c∈Fp,bs≤c
 be:∀ c∈Fe,bs≤c
 bi:∀ c∈Fi,bs≤c
section
variable {W:World} {p:DProg} {gk ge bs x2 l3 h3 l7 h7:Nat} {v14 v18 vp ve:Value} {N:List ByteArray} {E:List Int} {L:List DIns} {Fp Fe Fi:List Nat} {w w':World}
theorem zdw {α:Type} [Rep α] {lo hi:Nat} {v:Value} {x:α} {S:List Nat} (h:OwnI lo hi w v x) (hc:Chg S w w') (hd:∀ c∈S,c<lo∨hi≤c):OwnI lo hi w' v x:=by
 obtain ⟨F,hm,hF⟩:=h
 exact ⟨F,hm.keep fun c hcm=>hc.block c (hm.lt c hcm) fun hs=>by have:=hF c hcm;have:=hd c hs;omega,hF⟩
theorem CdS.ext (h:CdS W p gk ge bs x2 l3 h3 l7 h7 v14 v18 vp ve N E L Fp Fe Fi w) (hx:Ext w w'):CdS W p gk ge bs x2 l3 h3 l7 h7 v14 v18 vp ve N E L Fp Fe Fi w':=
 ⟨h.bk.ext hx,h.g.ext hx,h.l.ext hx,h.n.keep fun c hc=>hx.heap (h.n.lt c hc),h.e.keep fun c hc=>hx.heap (h.e.lt c hc),h.nn,h.en,h.em.ext hx,h.x.ext hx,h.dpe,h.dpi,h.dei,h.bp,h.be,h.bi⟩
variable (ho:gk<bs∧ge<bs∧gk≠ge∧x2<bs∧x2≠gk∧x2≠ge∧h3≤bs∧h7≤bs∧(gk<l3∨h3≤gk)∧(gk<l7∨h7≤gk)∧(ge<l3∨h3≤ge)∧(ge<l7∨h7≤ge)∧W.heap.size≤gk∧W.heap.size≤ge)
include ho
theorem CdS.names (h:CdS W p gk ge bs x2 l3 h3 l7 h7 v14 v18 vp ve N E L Fp Fe Fi w) {vp':Value} {N':List ByteArray} {Fp':List Nat} (hc:Chg (gk :: Fp) w w') (hB:Blk gk 28 w' [v14,v18,vp',ve,.slice none 0 0])
   (hR:RowG Fp' 9 w' vp' N') (hn:Fp'.Nodup) (hs:∀ c∈Fp',c∈Fp∨w.heap.size≤c) (hb:bs≤w.heap.size):CdS W p gk ge bs x2 l3 h3 l7 h7 v14 v18 vp' ve N' E L Fp' Fe Fi w':=by
 have hlt:=h.em.lt
 have hS:∀ c∈gk :: Fp,c=gk∨bs≤c:=fun c hc=>by
   rcases List.mem_cons.1 hc with e | hc
   · exact .inl e
   exact .inr (h.bp c hc)
 refine ⟨hB,zdw h.g hc fun c hcm=>by have:=hS c hcm;omega,zdw h.l hc fun c hcm=>by have:=hS c hcm;omega,hR,h.e.keep fun c hcm=>hc.block c (h.e.lt c hcm) fun hm=>?_,hn,h.en,h.em.keep (fun c hcm=>hc.block c ?_ fun hm=>?_) (h.em.old.chgL hc fun c hcm=>?_),h.x.chg hc fun hm=>?_,fun c hcm hce=>?_,fun c hcm hci=>?_,h.dei,fun c hcm=>?_,h.be,h.bi⟩
 · rcases List.mem_cons.1 hm with e | hm
   · have:=h.be c hcm;omega
   exact h.dpe c hm hcm
 · rcases List.mem_cons.1 hcm with rfl | hcm
   · exact hlt.1
   exact hlt.2.1 c hcm
 · rcases List.mem_cons.1 hcm with e1 | hcm
   · rcases List.mem_cons.1 hm with e | hm
     · omega
     have:=h.bp c hm;omega
   rcases List.mem_cons.1 hm with e | hm
   · have:=h.bi c hcm;omega
   exact h.dpi c hm hcm
 · rcases List.mem_cons.1 hcm with e | hcm
   · omega
   have:=h.bp c hcm;omega
 · have:=hS _ hm;omega
 · rcases hs c hcm with k | k
   · exact h.dpe c k hce
   have:=h.e.lt c hce;omega
 · rcases hs c hcm with k | k
   · exact h.dpi c k hci
   have:=hlt.2.1 c hci;omega
 rcases hs c hcm with k | k
 · exact h.bp c k
 omega
theorem CdS.ents (h:CdS W p gk ge bs x2 l3 h3 l7 h7 v14 v18 vp ve N E L Fp Fe Fi w) {ve':Value} {E':List Int} {Fe':List Nat} (hc:Chg (gk :: Fe) w w') (hB:Blk gk 28 w' [v14,v18,vp,ve',.slice none 0 0])
   (hR:RowG Fe' 3 w' ve' E') (hn:Fe'.Nodup) (hs:∀ c∈Fe',c∈Fe∨w.heap.size≤c) (hb:bs≤w.heap.size):CdS W p gk ge bs x2 l3 h3 l7 h7 v14 v18 vp ve' N E' L Fp Fe' Fi w':=by
 have hlt:=h.em.lt
 have hS:∀ c∈gk :: Fe,c=gk∨bs≤c:=fun c hc=>by
   rcases List.mem_cons.1 hc with e | hc
   · exact .inl e
   exact .inr (h.be c hc)
 refine ⟨hB,zdw h.g hc fun c hcm=>by have:=hS c hcm;omega,zdw h.l hc fun c hcm=>by have:=hS c hcm;omega,h.n.keep fun c hcm=>hc.block c (h.n.lt c hcm) fun hm=>?_,hR,h.nn,hn,h.em.keep (fun c hcm=>hc.block c ?_ fun hm=>?_) (h.em.old.chgL hc fun c hcm=>?_),h.x.chg hc fun hm=>?_,fun c hcm hce=>?_,h.dpi,fun c hcm hci=>?_,h.bp,fun c hcm=>?_,h.bi⟩
 · rcases List.mem_cons.1 hm with e | hm
   · have:=h.bp c hcm;omega
   exact h.dpe c hcm hm
 · rcases List.mem_cons.1 hcm with rfl | hcm
   · exact hlt.1
   exact hlt.2.1 c hcm
 · rcases List.mem_cons.1 hcm with e1 | hcm
   · rcases List.mem_cons.1 hm with e | hm
     · omega
     have:=h.be c hm;omega
   rcases List.mem_cons.1 hm with e | hm
   · have:=h.bi c hcm;omega
   exact h.dei c hm hcm
 · rcases List.mem_cons.1 hcm with e | hcm
   · omega
   have:=h.be c hcm;omega
 · have:=hS _ hm;omega
 · rcases hs c hce with k | k
   · exact h.dpe c hcm k
   have:=h.n.lt c hcm;omega
 · rcases hs c hcm with k | k
   · exact h.dei c k hci
   have:=hlt.2.1 c hci;omega
 rcases hs c hcm with k | k
 · exact h.be c k
 omega
theorem CdS.ems (h:CdS W p gk ge bs x2 l3 h3 l7 h7 v14 v18 vp ve N E L Fp Fe Fi w) {L':List DIns} {Fi':List Nat} (hc:Chg (ge :: Fi) w w') (hE:EmF W ge p L' Fi' w') (hs:∀ c∈Fi',c∈Fi∨w.heap.size≤c) (hb:bs≤w.heap.size) :
   CdS W p gk ge bs x2 l3 h3 l7 h7 v14 v18 vp ve N E L' Fp Fe Fi' w':=by
 have hS:∀ c∈ge :: Fi,c=ge∨bs≤c:=fun c hc=>by
   rcases List.mem_cons.1 hc with e | hc
   · exact .inl e
   exact .inr (h.bi c hc)
 refine ⟨h.bk.chg hc fun hm=>?_,zdw h.g hc fun c hcm=>by have:=hS c hcm;omega,zdw h.l hc fun c hcm=>by have:=hS c hcm;omega,h.n.keep fun c hcm=>hc.block c (h.n.lt c hcm) fun hm=>?_,h.e.keep fun c hcm=>hc.block c (h.e.lt c hcm) fun hm=>?_,h.nn,h.en,hE,h.x.chg hc fun hm=>?_,h.dpe,fun c hcm hci=>?_,fun c hcm hci=>?_,h.bp,h.be,fun c hcm=>?_⟩
 · have:=hS _ hm;omega
 · rcases List.mem_cons.1 hm with e | hm
   · have:=h.bp c hcm;omega
   exact h.dpi c hcm hm
 · rcases List.mem_cons.1 hm with e | hm
   · have:=h.be c hcm;omega
   exact h.dei c hcm hm
 · have:=hS _ hm;omega
 · rcases hs c hci with k | k
   · exact h.dpi c hcm k
   have:=h.n.lt c hcm;omega
 · rcases hs c hci with k | k
   · exact h.dei c hcm k
   have:=h.e.lt c hcm;omega
 rcases hs c hcm with k | k
 · exact h.bi c k
 omega
end
theorem zq5 {G L P:List ByteArray} {l:List DProc} {k:Nat} (hk:k<l.length) (a:Nat):emP G L P (l.drop k) a=emL G L P l[k].body a++(zsr :: emP G L P (l.drop (k+1)) (a+(emL G L P l[k].body a).length+1)):=by
 rw [List.drop_eq_getElem_cons hk,emP]
theorem zp0 {G L P:List ByteArray} {l:List DProc} {k:Nat} (hk:k<l.length) (a:Nat):zlp G L P (l.drop k) a=(a:Int) :: zlp G L P (l.drop (k+1)) (a+(emL G L P l[k].body a).length+1):=by
 rw [List.drop_eq_getElem_cons hk,zlp]
theorem ziL {α:Type} [Rep α] {e:TypeId} {F:List Nat} {w:World} {v:Value} {l:List α} (h:RowG F e w v l) (hn:F.Nodup):Mine F w v l:=⟨h.own,hn,h.wr⟩
def F55 (a0:Value) (w:World) (R:VW):Prop:=
 oP (Instr.box 64 a0) w fun x1 w=>
 oP (Instr.alloc 28 true (.tuple #[])) w fun x2 w=>
 rL 64 x1 w fun x7=>
 cL 112 [x7] w fun x8 w=>
 rB .neq 3 T0 U0 x8 (iV 0) w fun x9=>
 BR x9
 (rD (Instr.build 28 #[]) w fun x10=>
 oS 28 x2 x10 w fun w=>
 rD (zar 28 x2) w fun r2=>R (Value.tuple #[r2,(Value.bool false)]) w)
 ((fun w0=>PAR w0 [[(0,11)],[(1,12)],[(2,13),(1,12)],[(3,14),(0,11),(2,13)],[(4,15)],[(5,16)],[(6,17),(5,16)],[(7,18),(4,15),(6,17),(3,14)],[(8,19),(3,14),(7,18)],[(9,4)]] (fun Q=>
 (∀ (u3:Env) (T:Nat→Nat×Nat) (w:World),Ext w0 w→zbf [] w0.heap.size w.heap.size T→(True)→(fun w1=>oP (Instr.buildSlice 24 0 #[]) w fun x11 w=>
 Ext w1 w∧Q 0 (upd u3 11 x11) (zcx T 0 (w1.heap.size,w.heap.size)) w) w) ∧
 (∀ (u3:Env) (T:Nat→Nat×Nat) (w:World),Ext w0 w→zbf [] w0.heap.size w.heap.size T→(True)→(fun w1=>rF 64 x1 0 w fun x12=>
 Ext w1 w∧Q 1 (upd u3 12 x12) (zcx T 1 (w1.heap.size,w.heap.size)) w) w) ∧
 (∀ (u3:Env) (T:Nat→Nat×Nat) (w:World),Ext w0 w→zbf [1] w0.heap.size w.heap.size T→(Q 1 u3 T w∧True)→(fun w1=>rL 24 (u3 12) w fun x13=>
 Ext w1 w∧Q 2 (upd u3 13 x13) (zcx T 2 (w1.heap.size,w.heap.size)) w) w) ∧
 (∀ (u3:Env) (T:Nat→Nat×Nat) (w:World),Ext w0 w→zbf [0,2] w0.heap.size w.heap.size T→(Q 0 u3 T w∧Q 2 u3 T w∧True)→(fun w1=>oP (Builtin.append_ #[24,24] 24 [(u3 11),(u3 13)].toArray) w fun x14 w=>
 Ext w1 w∧Q 3 (upd u3 14 x14) (zcx T 3 (w1.heap.size,w.heap.size)) w) w) ∧
 (∀ (u3:Env) (T:Nat→Nat×Nat) (w:World),Ext w0 w→zbf [] w0.heap.size w.heap.size T→(True)→(fun w1=>oP (Instr.buildSlice 24 0 #[]) w fun x15 w=>
 Ext w1 w∧Q 4 (upd u3 15 x15) (zcx T 4 (w1.heap.size,w.heap.size)) w) w) ∧
 (∀ (u3:Env) (T:Nat→Nat×Nat) (w:World),Ext w0 w→zbf [] w0.heap.size w.heap.size T→(True)→(fun w1=>rF 64 x1 1 w fun x16=>
 Ext w1 w∧Q 5 (upd u3 16 x16) (zcx T 5 (w1.heap.size,w.heap.size)) w) w) ∧
 (∀ (u3:Env) (T:Nat→Nat×Nat) (w:World),Ext w0 w→zbf [5] w0.heap.size w.heap.size T→(Q 5 u3 T w∧True)→(fun w1=>rL 24 (u3 16) w fun x17=>
 Ext w1 w∧Q 6 (upd u3 17 x17) (zcx T 6 (w1.heap.size,w.heap.size)) w) w) ∧
 (∀ (u3:Env) (T:Nat→Nat×Nat) (w:World),Ext w0 w→zbf [4,6,3] w0.heap.size w.heap.size T→(Q 4 u3 T w∧Q 6 u3 T w∧Q 3 u3 T w∧True)→(fun w1=>oP (Builtin.append_ #[24,24] 24 [(u3 15),(u3 17)].toArray) w fun x18 w=>
 Ext w1 w∧Q 7 (upd u3 18 x18) (zcx T 7 (w1.heap.size,w.heap.size)) w) w) ∧
 (∀ (u3:Env) (T:Nat→Nat×Nat) (w:World),Ext w0 w→zbf [3,7] w0.heap.size w.heap.size T→(Q 3 u3 T w∧Q 7 u3 T w∧True)→(fun w1=>rD (Instr.build 28 #[(0,(u3 14)),(1,(u3 18))]) w fun x19=>
 Ext w1 w∧Q 8 (upd u3 19 x19) (zcx T 8 (w1.heap.size,w.heap.size)) w) w) ∧
 (∀ (u3:Env) (T:Nat→Nat×Nat) (w:World),Ext w0 w→zbf [] w0.heap.size w.heap.size T→(True)→(fun w1=>oP (Instr.alloc 28 true (.tuple #[])) w fun x4 w=>
 Ext w1 w∧Q 9 (upd u3 4 x4) (zcx T 9 (w1.heap.size,w.heap.size)) w) w) ∧
 True)
 (fun Q=>∀ (u3:Env) (T:Nat→Nat×Nat) (w:World),Ext w0 w→zbf [0,1,2,3,4,5,6,7,8,9] w0.heap.size w.heap.size T→(Q 0 u3 T w∧Q 1 u3 T w∧Q 2 u3 T w∧Q 3 u3 T w∧Q 4 u3 T w∧Q 5 u3 T w∧Q 6 u3 T w∧Q 7 u3 T w∧Q 8 u3 T w∧Q 9 u3 T w∧True) →
 oS 28 (u3 4) (u3 19) w fun w=>
 rL 64 x1 w fun x20=>
 rD (Instr.build 137 #[(0,x20)]) w fun x21=>
 oP (Instr.box 137 x21) w fun x22 w=>
 LOOPI [6] [(iV 0)] w fun u6 w next6=>
 rF 64 x1 2 w fun x24=>
 rL 62 x24 w fun x25=>
 rN 62 3 x25 w fun x26=>
 rC (u6 6) x26 w fun x27=>
 BR x27
 ((fun w=>rF 28 (u3 4) 2 w fun x30=>
 rL 24 x30 w fun x31=>
 rF 64 x1 2 w fun x32=>
 rL 62 x32 w fun x33=>
 rX 62 x33 (u6 6) w fun x35=>
 rF 69 x35 0 w fun x36=>
 rL 9 x36 w fun x37=>
 (fun w_=>oP (Instr.buildSlice 24 1 #[(0,x37)]) w_ fun x38 w=>
 Ext w_ w ∧
 (oP (Builtin.append_ #[24,24] 24 [x31,x38].toArray) w fun x39 w=>
 rF 28 (u3 4) 2 w fun x40=>
 oS 24 x40 x39 w fun w=>
 (fun w=>rF 28 (u3 4) 3 w fun x41=>
 rL 25 x41 w fun x42=>
 NIL x22 <|
 rF 137 x22 1 w fun x45=>
 rL 26 x45 w fun x46=>
 rN 26 3 x46 w fun x47=>
 (fun w_=>oP (Instr.buildSlice 25 1 #[(0,x47)]) w_ fun x48 w=>
 Ext w_ w ∧
 (oP (Builtin.append_ #[25,25] 25 [x42,x48].toArray) w fun x49 w=>
 rF 28 (u3 4) 3 w fun x50=>
 oS 25 x50 x49 w fun w=>
 rF 64 x1 2 w fun x52=>
 rL 62 x52 w fun x53=>
 rX 62 x53 (u6 6) w fun x55=>
 rF 69 x55 1 w fun x56=>
 rL 66 x56 w fun x57=>
 cL 113 [x22,x57] w fun x58 w=>
 rD (Instr.build 117 #[(0,(iV 9))]) w fun x60=>
 cL 114 [x22,x60] w fun x61 w=>
 rA (u6 6) (iV 1) w fun x29=>
 next6 [x29] w)) w) (World.drew1 w))) w) (World.drew1 w))
 (NIL x22 <|
 rF 137 x22 1 w fun x64=>
 rL 26 x64 w fun x65=>
 rF 28 (u3 4) 4 w fun x66=>
 oS 26 x66 x65 w fun w=>
 rL 28 (u3 4) w fun x67=>
 oS 28 x2 x67 w fun w=>
 rD (zar 28 x2) w fun r2=>R (Value.tuple #[r2,(Value.bool true)]) w))) (World.drew1 w))
def cfg55:Cfg:=⟨extL,[],[(6,4611686018418999360,[6])],[(8,[0,1,2,3,4,5,6,7,8,9,10,11],256),(9,[0,1,2,3,4,5,6,7,8,9,10],128)],[(3,1046544,10)],[],[]⟩
theorem F55_call {a0:Value} {w:World} {R:VW} (h:F55 a0 w R):cL 55 [a0] w R:=co (g:=cfg55) Tryz.func55 (by kernel_rfl) (by kernel_rfl) (by kernel_rfl) h
open Rep (rep)
theorem zgD {w W:World} {v:Value} {p:DProg} (h:Is W v p) (e:Ext W w) (hp:ProgR p) :
   CALL Tryz.prog 55 [v] w fun r w'=>Ext w w'∧∃ a,r=.tuple #[a,.bool true]∧OwnI w.heap.size w'.heap.size w' a (zbh p):=by
 have hcl:=(zfs hp).2
 obtain ⟨f1,f2,f3,f4⟩:=hp.facts
 refine F55_call ?_
 unfold F55
 refine zcG h e fun w1 hx1 hA=>?_
 have hs1:=hx1.size
 refine zaF zo5 fun w2 hx2 hB2=>?_
 have hs2:=hx2.size
 have hg2:=hB2.lt
 refine zab zh4 hA hx2 fun v7 h7=>?_
 refine (zlt h7 hx2 hp).mono ?_
 rintro _ w3 ⟨hx3,rfl⟩
 have hs3:=hx3.size
 refine zaM ?_
 refine br (fun hc=>absurd rfl hc) (fun _=>?_)
 have hx13:=hx2.trans hx3
 have hx4:=zaj w3
 have hs4:=hx4.size
 generalize World.drew1 w3=w4 at *
 have hx14:=hx13.trans hx4
 have hg1:w.heap.size<w1.heap.size:=by
   obtain ⟨F,cs,hr,hr2⟩:=hA
   exact zgK hr2 (by rw [Rep.len hr];decide)
 refine PAR.mk (cdQ p w.heap.size w4) ?_ ?_ ?_
 · intro i u u' T T' wa wb hxa hxb hd hq
   match i,hd,hq with
   | 0,hd,⟨a,hq⟩=>exact ⟨a,(hd (0,11) (by decide)).1.trans hq⟩
   | 1,hd,hq=>exact (hd (1,12) (by decide)).1.trans hq
   | 2,hd,hq=>have:=(hd (2,13) (by decide)).1;show Is _ (u' 13) _;simp only [this];exact hq
   | 3,hd,hq=>
     obtain ⟨e1,e2⟩:=hd (3,14) (by decide)
     simp only at e1 e2
     show OwnI (T' 3).1 (T' 3).2 wb (u' 14) p.globals
     rw [e1,e2];exact OwnI.ext hq hxb
   | 4,hd,⟨a,hq⟩=>exact ⟨a,(hd (4,15) (by decide)).1.trans hq⟩
   | 5,hd,hq=>exact (hd (5,16) (by decide)).1.trans hq
   | 6,hd,hq=>have:=(hd (6,17) (by decide)).1;show Is _ (u' 17) _;simp only [this];exact hq
   | 7,hd,hq=>
     obtain ⟨e1,e2⟩:=hd (7,18) (by decide)
     simp only at e1 e2
     show OwnI (T' 7).1 (T' 7).2 wb (u' 18) p.locks
     rw [e1,e2];exact OwnI.ext hq hxb
   | 8,hd,hq=>
     have e1:=(hd (8,19) (by decide)).1
     have e2:=(hd (3,14) (by decide)).1
     have e3:=(hd (7,18) (by decide)).1
     simp only at e1 e2 e3
     show u' 19=.agg #[u' 14,u' 18,.slice none 0 0,.slice none 0 0,.slice none 0 0]
     rw [e1,e2,e3];exact hq
   | 9,hd,⟨g,q1,q2,q3,q4⟩=>
     obtain ⟨e1,e2⟩:=hd (9,4) (by decide)
     simp only at e1 e2
     exact ⟨g,e1.trans q1,by rw [e2];exact q2,by rw [e2];exact q3,q4.ext hxb⟩
   | n+10,_,_=>trivial
 · refine ⟨fun u T w' hx _ _=>?_,fun u T w' hx _ _=>?_,fun u T w' hx _ hp'=>?_,fun u T w' hx _ hp'=>?_,fun u T w' hx _ _=>?_,fun u T w' hx _ _=>?_,fun u T w' hx _ hp'=>?_,fun u T w' hx _ hp'=>?_,fun u T w' hx _ hp'=>?_,fun u T w' hx _ _=>?_,trivial⟩
   · exact zaK (α:=ByteArray) u24 ty9 fun a w5 hx5 _=>⟨hx5,a,rfl⟩
   · exact zaa zi9 ⟨Ext.refl _,rfl⟩
   · have q0:u 12=_:=hp'.1
     rw [q0]
     exact zab zcP (zd5 hA) (hx14.trans hx) fun v6 h6=>⟨Ext.refl _,h6.ext hx14⟩
   · obtain ⟨a,q0⟩:∃ a,u 11=.slice (some a) 0 0:=hp'.1
     have q1:Is _ (u 13) p.globals:=hp'.2.1
     rw [q0]
     exact zef (α:=ByteArray) u24 ty9 zc9 q1 hx (by rcases hp.g with e | e<;>(rw [e,zam];decide)) (by rcases hp.g with e | e<;>(rw [e];decide)) fun v5 w5 hx5 r5=>⟨hx5,r5.own⟩
   · exact zaK (α:=ByteArray) u24 ty9 fun a w5 hx5 _=>⟨hx5,a,rfl⟩
   · exact zaa zja ⟨Ext.refl _,rfl⟩
   · have q0:u 16=_:=hp'.1
     rw [q0]
     exact zab zcP (zfl hA) (hx14.trans hx) fun v6 h6=>⟨Ext.refl _,h6.ext hx14⟩
   · obtain ⟨a,q0⟩:∃ a,u 15=.slice (some a) 0 0:=hp'.1
     have q1:Is _ (u 17) p.locks:=hp'.2.1
     rw [q0]
     exact zef (α:=ByteArray) u24 ty9 zc9 q1 hx (by rcases hp.l with e | e | e<;>(rw [e,zam];decide)) (by rcases hp.l with e | e | e<;>(rw [e];decide)) fun v5 w5 hx5 r5=>⟨hx5,r5.own⟩
   · have o1:OwnI _ _ _ (u 14) p.globals:=hp'.1
     have o2:OwnI _ _ _ (u 18) p.locks:=hp'.2.1
     obtain ⟨a,n,cap,q1⟩:=zgv o1
     obtain ⟨a',n',cap',q1'⟩:=zgv o2
     rw [q1,q1']
     refine zaH (cells:=#[.slice a n cap,.slice a' n' cap',.slice none 0 0,.slice none 0 0,.slice none 0 0]) (by kernel_rfl) ⟨Ext.refl _,?_⟩
     show _=Value.agg #[u 14,u 18,.slice none 0 0,.slice none 0 0,.slice none 0 0]
     rw [q1,q1'];rfl
   exact zaF zo5 fun w5 hx5 hB=>⟨hx5,w'.heap.size,rfl,Nat.le_refl _,hB.lt,hB⟩
 rintro u T w5 hx5 hap ⟨-,-,-,o14,-,-,-,o18,q19,⟨gk,q4,hgk0,hgk1,hB5⟩,-⟩
 have o14:OwnI (T 3).1 (T 3).2 w5 (u 14) p.globals:=o14
 have o18:OwnI (T 7).1 (T 7).2 w5 (u 18) p.locks:=o18
 have q19:u 19=.agg #[u 14,u 18,.slice none 0 0,.slice none 0 0,.slice none 0 0]:=q19
 have t3:=hap.1 3 (by decide)
 have t7:=hap.1 7 (by decide)
 have t9:=hap.1 9 (by decide)
 have d37:=hap.2 3 (by decide) 7 (by decide) (by decide)
 have d39:=hap.2 3 (by decide) 9 (by decide) (by decide)
 have d79:=hap.2 7 (by decide) 9 (by decide) (by decide)
 have hs5:=hx5.size
 obtain ⟨l3,hl3⟩:∃ x,(T 3).1=x:=⟨_,rfl⟩
 obtain ⟨h3,hh3⟩:∃ x,(T 3).2=x:=⟨_,rfl⟩
 obtain ⟨l7,hl7⟩:∃ x,(T 7).1=x:=⟨_,rfl⟩
 obtain ⟨h7,hh7⟩:∃ x,(T 7).2=x:=⟨_,rfl⟩
 rw [hl3,hh3] at o14 t3 d37 d39
 rw [hl7,hh7] at o18 t7 d37 d79
 generalize u 14=v14 at *
 generalize u 18=v18 at *
 rw [q19,q4]
 have one14:=zpZ rfl o14
 have one18:=zpZ rfl o18
 refine zaw (α:=Raw5) (x:=(⟨v14⟩,⟨v18⟩,⟨.slice none 0 0⟩,⟨.slice none 0 0⟩,⟨.slice none 0 0⟩)) (lo:=0) (hi:=0) zbq rfl hB5 rfl (zlE one14 one18 rfl rfl rfl) fun w6 hc6 hB6=>?_
 have hs6:=hc6.size
 have hx16:Ext w1 w6:=Ext.chgI (hx14.trans hx5) hc6 (by omega)
 refine zab zh4 hA hx16 fun v20 h20=>?_
 obtain ⟨c0,c1,c2,rfl,one0,one1,one2⟩:=zpY h20
 refine zaH (cells:=#[c0,c1,c2,.slice none 0 0]) (by kernel_rfl) ?_
 refine zpm fun w7 hx7 hB7=>?_
 have hs7:=hx7.size
 have hg7:=hB7.lt
 have hE7:EmF w1 w6.heap.size p [] [] w7:=by
   refine ⟨c0,c1,c2,.slice none 0 0,h20,⟨[c0,c1,c2,.slice none 0 0],?_,hB7.range,List.nodup_nil,Wr.nil _,by simp,_,_,hB7⟩,hx16.trans hx7,by omega,by simp⟩
   have r:∀ {v:Value},v.oneCell'=true→rep [] w7 [v] (⟨v⟩:Raw):=fun h=>⟨rfl,rfl,h⟩
   exact zaC (F:=[]) (r one0) (zaC (F:=[]) (r one1) (zaC (F:=[]) (r one2) (show rep [] w7 [Value.slice none 0 0] (⟨.slice none 0 0,[]⟩:RIns) from ⟨rfl,.inl ⟨none,rfl,rfl,rfl⟩⟩)))
 have hord:gk<w7.heap.size∧w6.heap.size<w7.heap.size∧gk≠w6.heap.size∧w1.heap.size<w7.heap.size∧w1.heap.size≠gk∧w1.heap.size≠w6.heap.size∧h3≤w7.heap.size∧h7≤w7.heap.size∧(gk<l3∨h3≤gk)∧(gk<l7∨h7≤gk) ∧
     (w6.heap.size<l3∨h3≤w6.heap.size)∧(w6.heap.size<l7∨h7≤w6.heap.size)∧w1.heap.size≤gk∧w1.heap.size≤w6.heap.size:=by omega
 have hS7:CdS w1 p gk w6.heap.size w7.heap.size w1.heap.size l3 h3 l7 h7 v14 v18 (.slice none 0 0) (.slice none 0 0) [] [] [] [] [] [] w7:=
   ⟨hB6.ext hx7,(o14.chg hc6 (by omega)).ext hx7,(o18.chg hc6 (by omega)).ext hx7,.inl ⟨none,rfl,rfl,rfl⟩,.inl ⟨none,rfl,rfl,rfl⟩,List.nodup_nil,List.nodup_nil,hE7,((((hB2.ext hx3).ext hx4).ext hx5).chgI hc6 (by omega)).ext hx7,by simp,by simp,by simp,by simp,by simp,by simp⟩
 generalize hge:w6.heap.size=ge at *
 generalize hbs:w7.heap.size=bs at *
 obtain ⟨G,hG⟩:∃ G,G=p.globals:=⟨_,rfl⟩
 obtain ⟨Lk,hLk⟩:∃ G,G=p.locks:=⟨_,rfl⟩
 obtain ⟨Pn,hPn⟩:∃ G,G=p.procs.map DProc.name:=⟨_,rfl⟩
 have hcd:zbh p=⟨G,Lk,Pn,zlp G Lk Pn p.procs 0,emP G Lk Pn p.procs 0⟩:=by rw [hG,hLk,hPn];rfl
 refine zaE p.procs.length (fun k us w'=>us=[.int .i64 (k:Int)]∧∃ vp ve E L Fp Fe Fi,k≤p.procs.length∧E.length=k∧CdS w1 p gk ge bs w1.heap.size l3 h3 l7 h7 v14 v18 vp ve ((p.procs.take k).map DProc.name) E L Fp Fe Fi w'∧bs≤w'.heap.size ∧
     zlp G Lk Pn p.procs 0=E++zlp G Lk Pn (p.procs.drop k) L.length∧emP G Lk Pn p.procs 0=L++emP G Lk Pn (p.procs.drop k) L.length) 0 (Nat.zero_le _)
     ⟨rfl,_,_,[],[],[],[],[],Nat.zero_le _,rfl,by simpa using hS7,by omega,by simp,by simp⟩ ?_
 rintro k m uu w8 hkm ⟨hu,vp,ve,E,L,Fp,Fe,Fi,hkl,hEl,hS8,hb8,hent,hem⟩
 simp only [List.map_cons,List.map_nil,List.cons.injEq,and_true] at hu
 rw [hu]
 have hx18:=hS8.em.old
 refine zaa zcR ?_
 refine zab zkD (zbw hA) hx18 fun v25 h25=>?_
 refine zae u62 h25 ?_
 refine zai ?_
 have hLl:L.length≤436:=by
   have h1:=congrArg List.length hem
   have h2:(zbh p).ins.length=(emP G Lk Pn p.procs 0).length:=by rw [hcd]
   rw [List.length_append] at h1
   omega
 refine br (fun hlt=>?_) (fun hge'=>?_)
 · have hk:k<p.procs.length:=by omega
   have hbody:=hp.b _ (List.getElem_mem hk)
   rw [zp0 hk] at hent
   rw [zq5 hk] at hem
   have hx9:=zaj w8
   have hS9:=hS8.ext hx9
   have hs9:=hx9.size
   generalize World.drew1 w8=w9 at *
   have hx19:=hx18.trans hx9
   refine zaa zdA ?_
   refine zaA zcP hS9.bk rfl ?_
   refine zaa zcR ?_
   refine zab zkD (zbw hA) hx19 fun v33 h33=>?_
   refine zad u62 zo6 h33 hk fun b35 o35 hA35=>?_
   refine zaa zm3 ?_
   refine zao ty9 (zfk hA35) hx19 fun hS37=>?_
   have hnl:((p.procs.take k).map DProc.name).length=k:=by rw [List.length_map,List.length_take];omega
   refine zfr (β:=ByteArray) (G:=Fp) u24 ty9 z9 zc9 (by decide) hS9.n hS9.nn (zng hS37) (by simp) (by rw [zam,hnl];omega) (by rw [hnl];omega) (fun w10 v39 w11 Fp' hx10 hc11 hR11 hN11 hs11=>?_) fun s' w' hx' h'=>⟨hx',h'⟩
   have hs10:=hx10.size
   have hs11':=hc11.size
   have hgkF:gk∉Fp:=fun hm=>by have:=hS9.bp _ hm;omega
   have hB11:=(hS9.bk.ext hx10).chg hc11 hgkF
   refine zaa zdA ?_
   refine za6 (α:=Raw) (lo:=0) (hi:=0) zcP rfl rfl hB11 (by simp) (zku hR11.one) fun w12 hc12 hB12=>?_
   have hs12:=hc12.size
   have hgkF':gk∉Fp':=fun hm=>by
     rcases hs11 _ hm with h | h | h
     · exact hgkF h
     · simp at h
     omega
   have hS12:=hS9.names hord (vp':=v39) (N':=(p.procs.take (k+1)).map DProc.name) (Fp':=Fp') (w':=w12) ((((hx10.chg Fp).trans hc11).mono (by simp +contextual)).trans (hc12.toC.mono (by simp))) hB12
     (by rw [List.take_succ_eq_append_getElem hk,List.map_append];exact hR11.keep fun c hc=>hc12.block c (hR11.lt c hc) (by have:c≠gk:=fun e=>hgkF' (e▸hc);omega)) hN11 (fun c hc=>by
       rcases hs11 c hc with h | h | h
       · exact .inl h
       · simp at h
       exact .inr h) (by omega)
   have hx13:=zaj w12
   have hS13:=hS12.ext hx13
   have hs13:=hx13.size
   generalize World.drew1 w12=w13 at *
   have hx113:=hS13.em.old
   refine zaa zbn ?_
   refine zaA zbk hS13.bk rfl ?_
   refine NIL.mk rfl ?_
   obtain ⟨d0,d1,d2,rv,hd1,hd2,hd3,hd4,hd5⟩:=hS13.em
   refine zaa zfH ?_
   refine zab (α:=RIns) zdN (zki hd2.at) (Ext.refl _) fun v46 k46=>?_
   obtain ⟨q46,h46⟩:=zmm k46
   have q46:v46=rv:=q46
   have h46:Is w13 rv L:=h46
   rw [q46]
   refine zae u26 h46 ?_
   refine zfr (β:=Int) (G:=Fe) (x:=(L.length:Int)) u25 ty3 z3 zc3 (by decide) hS13.e hS13.en (zcK (by unfold I64;omega)) (by simp) (by rw [zam,hEl];omega) (by rw [hEl];omega) (fun w14 v49 w15 Fe' hx14' hc15 hR15 hN15 hs15=>?_) fun s' w' hx' h'=>⟨hx',h'⟩
   have hs14:=hx14'.size
   have hs15':=hc15.size
   have hgkE:gk∉Fe:=fun hm=>by have:=hS13.be _ hm;omega
   have hB15:=(hS13.bk.ext hx14').chg hc15 hgkE
   refine zaa zbn ?_
   refine za6 (α:=Raw) (lo:=0) (hi:=0) zbk rfl rfl hB15 (by simp) (zku hR15.one) fun w16 hc16 hB16=>?_
   have hs16:=hc16.size
   have hgkE':gk∉Fe':=fun hm=>by
     rcases hs15 _ hm with h | h | h
     · exact hgkE h
     · simp at h
     omega
   have hS16:=hS13.ents hord (ve':=v49) (E':=E++[(L.length:Int)]) (Fe':=Fe') (w':=w16) ((((hx14'.chg Fe).trans hc15).mono (by simp +contextual)).trans (hc16.toC.mono (by simp))) hB16
     (hR15.keep fun c hc=>hc16.block c (hR15.lt c hc) (by have:c≠gk:=fun e=>hgkE' (e▸hc);omega)) hN15 (fun c hc=>by
       rcases hs15 c hc with h | h | h
       · exact .inl h
       · simp at h
       exact .inr h) (by omega)
   have hx116:=hS16.em.old
   refine zaa zcR ?_
   refine zab zkD (zbw hA) hx116 fun v53 h53=>?_
   refine zad u62 zo6 h53 hk fun b55 o55 hA55=>?_
   refine zaa zm4 ?_
   refine zab zfY (zgM hA55) hx116 fun v57 h57=>?_
   have hbl:=zg9 G Lk Pn (p.procs[k]).body L.length
   refine (ziD _ 2 _ hS16.em h57 hbody.1 (by have:=hbody.2;omega)).mono ?_
   rintro r58 w17 ⟨hc17,Fi',hE17,hF17⟩
   have hs17:=hc17.size
   rw [←hG,←hLk,←hPn] at hE17
   have hS17:=hS16.ems hord hc17 hE17 hF17 (by omega)
   obtain ⟨z1,z2,z3,z4,z5⟩:=hE17.lt
   refine ziC (lo:=w17.heap.size) (hi:=w17.heap.size) (by unfold I64;omega) fun v60 o60=>?_
   refine (zgy hE17 o60 z1 z2 (Nat.le_refl _) (by have:=hbody.2;rw [List.length_append];omega)).mono ?_
   rintro r61 w18 ⟨-,hc18,Fi'',hE18,hF18⟩
   have hs18:=hc18.size
   have hS18:=hS17.ems hord hc18 hE18 hF18 (by omega)
   refine zah (by omega) ?_
   refine ⟨m-1,by omega,k+1,by omega,rfl,_,_,_,_,_,_,_,by omega,by simp [hEl],hS18,by omega,?_,?_⟩
   · rw [hent];simp [Nat.add_assoc]
   rw [hem];simp [Nat.add_assoc,zsr]
 have hk:k=p.procs.length:=by omega
 subst hk
 rw [List.drop_length,zlp,List.append_nil] at hent
 rw [List.drop_length,emP,List.append_nil] at hem
 rw [List.take_length] at hS8
 refine NIL.mk rfl ?_
 obtain ⟨d0,d1,d2,rv,hd1,hd2,hd3,hd4,hd5⟩:=hS8.em
 refine zaa zfH ?_
 refine zab (α:=RIns) zdN (zki hd2.at) (Ext.refl _) fun v65 k65=>?_
 obtain ⟨q65,-⟩:=zmm k65
 have q65:v65=rv:=q65
 rw [q65]
 obtain ⟨Gi,hLi⟩:=zg8 (Lens.var hd2)
 obtain ⟨cs1,⟨rfl,hrow⟩,hr1,hnG,_,hg1,_⟩:=hLi.here
 have hrow:RowG Gi 117 w8 rv L:=hrow
 have hGi:∀ c∈Gi,c∈Fi:=fun c hc=>by
   rcases List.mem_cons.1 (hLi.sub c (by simp [hc])) with e | h
   · exact absurd (e▸hc) hg1
   exact h
 refine zaa zba ?_
 refine za6 (α:=Raw) (lo:=0) (hi:=0) zdN rfl rfl hS8.bk (by simp) (zku hrow.one) fun w9 hc9 hB9=>?_
 have hs9:=hc9.size
 refine zbP hB9 zbq ?_
 have hx9:=hS8.x.chgI hc9 (by omega)
 refine zaw (α:=Raw5) (x:=(⟨v14⟩,⟨v18⟩,⟨vp⟩,⟨ve⟩,⟨rv⟩)) (lo:=0) (hi:=0) zbq rfl hx9 rfl (zlE one14 one18 hS8.n.one hS8.e.one hrow.one) fun w10 hc10 hB10=>?_
 have hs10:=hc10.size
 refine zbx hB10 zbq ?_
 have hxf:Ext w w10:=Ext.chgI (Ext.chgI (hx1.trans hx18) hc9 (by omega)) hc10 (by omega)
 refine ⟨hxf,_,rfl,?_⟩
 obtain ⟨F3,M3,B3⟩:=(hS8.g.chg hc9 (by omega)).chg hc10 (by omega)
 obtain ⟨F7,M7,B7⟩:=(hS8.l.chg hc9 (by omega)).chg hc10 (by omega)
 have keep:∀ c,bs≤c→c<w8.heap.size→w10.heap[c]?=w8.heap[c]?:=fun c h1 h2=>(hc10.block c (by omega) (by omega)).trans (hc9.block c h2 (by omega))
 have Mp:=ziL (hS8.n.keep fun c hc=>keep c (hS8.bp c hc) (hS8.n.lt c hc)) hS8.nn
 have Me:=ziL (hS8.e.keep fun c hc=>keep c (hS8.be c hc) (hS8.e.lt c hc)) hS8.en
 have Mi:=ziL (hrow.keep fun c hc=>keep c (hS8.bi c (hGi c hc)) (hrow.lt c hc)) hnG
 rw [hcd,hent,hem,hG,hLk,hPn]
 refine ⟨F3++(F7++(Fp++(Fe++Gi))),⟨⟨[v14,v18,vp,ve,rv],zaC (zaS rfl M3.own) (zaC (zaS rfl M7.own) (zaC (zaS rfl Mp.own) (zaC (zaS rfl Me.own) (zaS rfl Mi.own)))),rfl⟩,?_,M3.wr.append (M7.wr.append (Mp.wr.append (Me.wr.append Mi.wr)))⟩,fun c hc=>?_⟩
 · simp only [List.nodup_append,List.mem_append]
   refine ⟨M3.nodup,⟨M7.nodup,⟨hS8.nn,⟨hS8.en,hnG,fun a ha b hb e=>?_⟩,fun a ha b hb e=>?_⟩,fun a ha b hb e=>?_⟩,fun a ha b hb e=>?_⟩
   · exact hS8.dei a ha (hGi a (e▸hb))
   · subst e
     rcases hb with h | h
     · exact hS8.dpe a ha h
     exact hS8.dpi a ha (hGi a h)
   · subst e
     have:=B7 a ha
     rcases hb with h | h | h
     · have:=hS8.bp a h;omega
     · have:=hS8.be a h;omega
     have:=hS8.bi a (hGi a h);omega
   subst e
   have:=B3 a ha
   rcases hb with h | h | h | h
   · have:=B7 a h;omega
   · have:=hS8.bp a h;omega
   · have:=hS8.be a h;omega
   have:=hS8.bi a (hGi a h);omega
 simp only [List.mem_append] at hc
 rcases hc with h | h | h | h | h
 · have:=B3 c h;omega
 · have:=B7 c h;omega
 · have:=hS8.bp c h;have:=hS8.n.lt c h;omega
 · have:=hS8.be c h;have:=hS8.e.lt c h;omega
 have:=hS8.bi c (hGi c h);have:=hrow.lt c h;omega
def ztM (c:Scp) (L:List DSign):Nat→List Nat→Bool
 | _,[]=>true
 | i,k :: ks=>decide ((k=4∨k=5)∧sgT L (i+1)∈c.pr∨(k=6∨k=7)∧sgT L (i+1)∈c.lk)&&ztM c L (i+3) ks
theorem zp1 {c:Scp} {L:List DSign}:∀ {ks:List Nat} {i:Nat},ztM c L i ks=true→(∀ x∈zkE L i ks,StR c 2 x)∧szL (zkE L i ks)=ks.length
 | [],i,_=>⟨fun x hx=>(by cases hx),by simp [zkE,szL]⟩
 | k :: ks,i,h=>by
   unfold ztM at h
   rw [Bool.and_eq_true] at h
   have ih:=zp1 h.2
   have h1:=of_decide_eq_true h.1
   refine ⟨fun x hx=>?_,by simp only [zkE,szL,szS,List.length_cons,ih.2];omega⟩
   rw [zkE] at hx
   rcases List.mem_cons.1 hx with rfl | hx
   · rcases h1 with ⟨hk,hn⟩ | ⟨hk,hn⟩
     · exact StR.base (.inr (.inl ⟨by show (k:Int)=4∨(k:Int)=5;omega,hn,rfl,rfl,rfl⟩))
     exact StR.base (.inr (.inr (.inl ⟨by show (k:Int)=6∨(k:Int)=7;omega,hn,rfl,rfl,rfl⟩)))
   exact ih.1 x hx
def zsA (c:Scp) (L:List DSign):Nat→List (List Nat)→Bool
 | _,[]=>true
 | i,ks :: r=>ztM c L (i+3) ks&&decide (ks.length≤54)&&zsA c L (i+4+3*ks.length) r
theorem zhQ {c:Scp} {L:List DSign}:∀ {N:List (List Nat)} {i:Nat},zsA c L i N=true→∀ x∈zoD L i N,zmf c x.body
 | [],i,_,x,hx=>by cases hx
 | ks :: r,i,h,x,hx=>by
   unfold zsA at h
   rw [Bool.and_eq_true,Bool.and_eq_true] at h
   rw [zoD] at hx
   rcases List.mem_cons.1 hx with rfl | hx
   · have:=zp1 h.1.1
     exact ⟨this.1,by show szL (zkE L (i+3) ks)≤54;rw [this.2];exact of_decide_eq_true h.1.2⟩
   exact zhQ h.2 x hx
def zty:DProg:=znu zs0 1 1 [[6,6]]
def ztz:DProg:=znu zs1 1 2 [[5,6,6,7,7],[6,6]]
def ztA:DProg:=znu zts 1 3 [[5,5,6,6],[6,6],[6,6]]
theorem zsB:ProgR zty:=⟨.inr (by decide +kernel),.inr (.inl (by decide +kernel)),⟨0,by decide,by decide +kernel⟩,zhQ (by decide +kernel)⟩
theorem zsC:ProgR ztz:=⟨.inr (by decide +kernel),.inr (.inr (by decide +kernel)),⟨1,by decide,by decide +kernel⟩,zhQ (by decide +kernel)⟩
theorem zsD:ProgR ztA:=⟨.inr (by decide +kernel),.inl (by decide +kernel),⟨2,by decide,by decide +kernel⟩,zhQ (by decide +kernel)⟩
def F50 (a0:Value) (w:World) (R:VW):Prop:=
 rN 22 3 a0 w fun x6=>
 rB .add 3 U0 T0 (iV 94701) x6 w fun x7=>
 LOOPI [3,4] [x7,(iV 0)] w fun u3 w next3=>
 rN 22 3 a0 w fun x10=>
 rC (u3 4) x10 w fun x11=>
 BR x11
 (rB .lss 3 T0 U0 (u3 4) (iV 4000) w fun x14=>
 BR x14
 (rB .mul 3 T0 U0 (u3 3) (iV 131) w fun x19=>
 rX 22 a0 (u3 4) w fun x22=>
 rL 5 x22 w fun x23=>
 rD (convert 5 3 x23) w fun x24=>
 rB .add 3 T0 T0 x19 x24 w fun x25=>
 rA x25 (iV 7) w fun x26=>
 rB .and 3 T0 U0 x26 (iV 1073741823) w fun x27=>
 rA (u3 4) (iV 1) w fun x17=>
 next3 [x27,x17] w)
 (rD (Instr.build 123 #[(0,a0),(2,(u3 3))]) w fun x30=>
 oP (Instr.box 123 x30) w fun x31 w=>
 R x31 w))
 (rD (Instr.build 123 #[(0,a0),(2,(u3 3))]) w fun x30=>
 oP (Instr.box 123 x30) w fun x31 w=>
 R x31 w)
def cfg50:Cfg:=⟨extL,[],[(3,268435224,[3,4])],[],[],[],[]⟩
theorem F50_call {a0:Value} {w:World} {R:VW} (h:F50 a0 w R):cL 50 [a0] w R:=co (g:=cfg50) Tryz.func50 (by kernel_rfl) (by kernel_rfl) (by kernel_rfl) h
def F70 (a0:Value) (w:World) (R:VW):Prop:=
 oP (Instr.alloc 28 true (.tuple #[])) w fun x2 w=>
 cL 98 [a0] w fun x9 w=>
 cL 55 [x9] w fun x10 w=>
 rE x10 0 w fun x11=>
 rE x10 1 w fun x12=>
 oP (Instr.alloc 28 true (.tuple #[])) w fun x3 w=>
 oS 28 x3 x11 w fun w=>
 rD (Op.unary .not x12) w fun x14=>
 BR x14
 (cL 53 [(Value.string (ByteArray.mk #[103,108,111,98,97,108,115,32,120,59,32,108,111,99,107,115,32,97,59,32,112,114,111,99,32,109,97,105,110,32,123,32,108,111,99,107,32,97,59,32,120,32,61,32,49,59,32,117,110,108,111,99,107,32,97,59,32,115,112,97,119,110,32,112,59,32,125,32,112,114,111,99,32,112,32,123,32,120,32,61,32,50,59,32,125]))] w fun x16 w=>
 rE x16 0 w fun x17=>
 rE x16 1 w fun x18=>
 oP (Instr.alloc 64 true (.tuple #[])) w fun x5 w=>
 oP (Instr.alloc 86 true (.tuple #[])) w fun x6 w=>
 oS 64 x5 x17 w fun w=>
 oS 86 x6 x18 w fun w=>
 rL 64 x5 w fun x20=>
 cL 55 [x20] w fun x21 w=>
 rE x21 0 w fun x22=>
 rE x21 1 w fun x23=>
 oS 28 x3 x22 w fun w=>
 rL 28 x3 w fun x24=>
 oS 28 x2 x24 w fun w=>
 rD (zar 28 x2) w fun r2=>R r2 w)
 (rL 28 x3 w fun x24=>
 oS 28 x2 x24 w fun w=>
 rD (zar 28 x2) w fun r2=>R r2 w)
def cfg70:Cfg:=⟨extL,[],[],[],[],[],[]⟩
theorem F70_call {a0:Value} {w:World} {R:VW} (h:F70 a0 w R):cL 70 [a0] w R:=co (g:=cfg70) Tryz.func70 (by kernel_rfl) (by kernel_rfl) (by kernel_rfl) h
open Rep (rep)
theorem zp2 {bs:List UInt8} {k:Nat} (hk:k<(bs.take 4000).length) (h:Int):((bs.take 4000).take (k+1)).foldl (fun h (b:UInt8)=>znZ (h*131+(b.toNat:Int)+7) 1073741823) h =
   znZ (((bs.take 4000).take k).foldl (fun h (b:UInt8)=>znZ (h*131+(b.toNat:Int)+7) 1073741823) h*131+(((bs.take 4000)[k]).toNat:Int)+7) 1073741823:=by
 rw [List.take_succ_eq_append_getElem hk,List.foldl_append];rfl
set_option maxRecDepth 100000 in
theorem ziM {w W:World} {v:Value} {bs:List UInt8} (h:Is W v bs) (e:Ext W w) (hl:bs.length≤1048576) :
    CALL Tryz.prog 50 [v] w fun r w'=>Ext w w'∧∃ g,r=.pointer (some ⟨g,0,none⟩)∧w.heap.size≤g∧CurAt w g bs (zcT bs) w':=by
  have fin:∀ {w1:World} {hh:Int},Ext w w1→hh=zt0 bs→I64 hh→RD Tryz.prog (Instr.build 123 #[(0,v),(2,.int .i64 hh)]) w1 fun x30=>OP Tryz.prog (Instr.box 123 x30) w1 fun x31 w2=>
      Ext w w2∧∃ g,x31=.pointer (some ⟨g,0,none⟩)∧w.heap.size≤g∧CurAt w g bs (zcT bs) w2:=by
    intro w1 hh hx1 hh1 hI
    obtain ⟨a,cap,Fi,xs,rfl,_⟩:=zcq h
    refine zaH (cells:=#[.slice a bs.length cap,.int .i64 0,.int .i64 hh]) (by kernel_rfl) ?_
    refine zpm fun w2 hx2 hB2=>?_
    refine ⟨hx1.trans hx2,_,rfl,hx1.size,.slice a bs.length cap,h.ext e,hx1.trans hx2,hx1.size,?_,Nat.zero_le _,hl⟩
    rw [hh1] at hB2
    exact hB2
  refine F50_call ?_
  unfold F50
  refine zae u22 h ?_
  refine zcp (by unfold I64;omega) ?_
  refine zaE (bs.take 4000).length (fun k us w'=>∃ hh:Int,us=[.int .i64 hh,.int .i64 (k:Int)]∧Ext w w'∧k≤(bs.take 4000).length∧0≤hh∧hh≤1073741823∧hh=((bs.take 4000).take k).foldl (fun h (b:UInt8)=>znZ (h*131+(b.toNat:Int)+7) 1073741823) (94701+(bs.length:Int))) 0 (Nat.zero_le _)
    ⟨_,rfl,Ext.refl w,Nat.zero_le _,by omega,by omega,by simp⟩ ?_
  rintro k m u w1 hkm ⟨hh,hu,hx1,hkl,h0,h1,hf⟩
  obtain ⟨hu0,hu1⟩:=zfZ hu
  rw [hu0,hu1]
  have htl:(bs.take 4000).length=min 4000 bs.length:=List.length_take
  have hdone:(bs.take 4000).length≤k→hh=zt0 bs:=fun hk=>by
    rw [hf,List.take_of_length_le hk];rfl
  have hIh:I64 hh:=by unfold I64;omega
  refine zae u22 h ?_
  refine zai ?_
  refine br (fun hlt=>?_) (fun hge=>fin hx1 (hdone (by omega)) hIh)
  refine zai ?_
  refine br (fun hlt2=>?_) (fun hge=>fin hx1 (hdone (by omega)) hIh)
  have hk:k<(bs.take 4000).length:=by omega
  have hkb:k<bs.length:=by omega
  refine zkK (by unfold I64;omega) ?_
  refine zad u22 ty5 (i:=k) h hkb fun b o hA=>?_
  refine zni ty5 hA (e.trans hx1) ?_
  have h256:=UInt8.toNat_lt (bs[k])
  refine zo3 (by kernel_rfl) u3 (by omega) ?_
  refine zcp (by unfold I64;omega) ?_
  refine zcp (by unfold I64;omega) ?_
  refine zl4 ?_
  refine zah (by omega) ?_
  have hb:=zjI (hh*131+((bs[k]).toNat:Int)+7) (n:=1073741823) (by omega)
  refine ⟨m-1,by omega,k+1,by omega,_,rfl,hx1,by omega,hb.1,hb.2,?_⟩
  rw [zp2 hk,←hf,List.getElem_take]
def zbl (bs:List UInt8):DCode:=zbh (zcm bs (zcT bs)).1
theorem zhg (bs:List UInt8):CodeR (zbl bs)∧(zbl bs).ins.length≤436:=zfs (zg0 bs _)
set_option maxRecDepth 20000 in
theorem zjr {W w:World} {g:Nat} {bs:List UInt8} {s:Cur} (hC:CurAt W g bs s w) :
    CALL Tryz.prog 70 [.pointer (some ⟨g,0,none⟩)] w fun r w'=>ChgI g (g+1) w w'∧OwnI w.heap.size w'.heap.size w' r (zbh (zcm bs s).1)∧CurAt W g bs (zcm bs s).2 w':=by
  have hgl:=hC.lt
  refine F70_call ?_
  unfold F70
  refine zaF zo5 fun w1 hx1 hB1=>?_
  have hs1:=hx1.size
  have hg1:=hB1.lt
  refine (zoe (hC.ext hx1)).mono ?_
  rintro v9 w2 ⟨hc2,hC2,o9⟩
  have hs2:=hc2.size
  refine (zgD o9.is (Ext.refl _) (zg0 bs s)).mono ?_
  rintro _ w3 ⟨hx3,a,rfl,o10⟩
  have hs3:=hx3.size
  refine za7 rfl ?_
  refine za7 rfl ?_
  refine zaF zo5 fun w4 hx4 hB4=>?_
  have hs4:=hx4.size
  have hg4:=hB4.lt
  have o10:=o10.ext hx4
  have hform:∃ us:Array Value,a=.agg us:=by
    obtain ⟨F,⟨⟨cs,hr,hv⟩,_⟩,_⟩:=o10
    exact ⟨cs.toArray,by simpa [mkv,Rep.agg] using hv⟩
  obtain ⟨us,rfl⟩:=hform
  have hB1':Blk w.heap.size 28 w4 _:=((hB1.chgI hc2 (by omega)).ext hx3).ext hx4
  have hul:us.toList.length=5:=by
    obtain ⟨F,⟨⟨cs,hr,hv⟩,_⟩,_⟩:=o10
    have:us=cs.toArray:=by simpa [mkv,Rep.agg] using hv
    rw [this];exact Rep.len hr
  refine zaw zbq rfl hB4 rfl o10 fun w5 hc5 hB5=>?_
  have hs5:=hc5.size
  have o10:=o10.chg hc5 (by omega)
  refine zbs ?_
  refine zcM (fun hc=>by simp at hc) (fun _=>?_)
  refine zbP hB5 (by rw [hul];exact zbq) ?_
  have hB15:=hB1'.chgI hc5 (by omega)
  refine zaw zbq rfl hB15 rfl o10 fun w6 hc6 hB6=>?_
  have hs6:=hc6.size
  refine zbx hB6 (by rw [hul];exact zbq) ?_
  refine ⟨?_,(o10.chg hc6 (by omega)).mono (by omega) (by omega),?_⟩
  · exact ChgI.out (ChgI.out (((hx1.toI.trans hc2).trans hx3.toI).trans hx4.toI) hc5 (by omega)) hc6 (by omega)
  exact (((hC2.ext hx3).ext hx4).chg hc5 (by omega) (by omega)).chg hc6 (by omega) (by omega)
theorem zun {G L P:List ByteArray} {c:Scp} (hG:G=c.gl) (hL:L=c.lk) (hP:∀ x∈c.pr,x∈P):∀ (l:List DProc) (a:Nat),(∀ x∈l,zmf c x.body)→∀ y∈emP G L P l a,wT y.term≤24
 | [],_,_,y,h=>by rw [emP] at h;cases h
 | x :: l,a,hb,y,h=>by
   have w0:wT term0≤24:=by decide
   rw [emP] at h
   rcases List.mem_append.1 h with h | h
   · have:=((zt7 hG hL hP 2).2 x.body a (hb x (by simp)).1).1 y h
     obtain ⟨_,_,_,q4,_⟩:=this
     split at q4
     · exact q4.2.2
     rw [q4];exact w0
   rcases List.mem_cons.1 h with rfl | h
   · exact w0
   exact zun hG hL hP l _ (fun z hz=>hb z (by simp [hz])) y h
theorem zrF {α:Type} {f:α→Nat} {b:Nat}:∀ {l:List α},(∀ x∈l,f x≤b)→sm f l≤l.length*b
 | [],_=>by simp [sm]
 | x :: l,h=>by
   have h1:=zrF (l:=l) fun y hy=>h y (List.mem_cons_of_mem _ hy)
   have h2:=h x List.mem_cons_self
   simp only [sm,List.map_cons,List.sum_cons,List.length_cons,Nat.add_mul] at h1 ⊢
   omega
theorem zrG {p:DProg} (hp:ProgR p):zn1 (zbh p)≤1048576:=by
 have hl:=(zfs hp).2
 obtain ⟨f1,f2,f3,f4⟩:=hp.facts
 obtain ⟨k,hk,hn⟩:=hp.n
 have h1:zqh (zbh p).globals≤100:=by
   show zqh p.globals≤100
   rcases hp.g with e | e<;>(rw [e];decide)
 have h2:zqh (zbh p).locks≤100:=by
   show zqh p.locks≤100
   rcases hp.l with e | e | e<;>(rw [e];decide)
 have h3:zqh (zbh p).procs≤100:=by
   show zqh (p.procs.map DProc.name)≤100
   rw [hn]
   match k,hk with
   | 0,_=>decide
   | 1,_=>decide
   | 2,_=>decide
   | 3,_=>decide
 have h4:(zbh p).entry.length≤4:=by
   have:(zbh p).entry.length=p.procs.length:=zhN _ _ _ _ _
   omega
 have h5:ztY (zbh p).ins≤20000:=by
   have:=zrF (f:=fun i:DIns=>wT i.term) (b:=24) (l:=(zbh p).ins) (zun rfl rfl (fun x hx=>List.mem_of_mem_drop hx) _ _ hp.b)
   unfold ztY
   omega
 unfold zn1
 omega
theorem zhh (bs:List UInt8):zn1 (zbl bs)≤1048576:=zrG (zg0 bs (zcT bs))
def F58 (a0 a1 a2:Value) (w:World) (R:VW):Prop:=
 oP (Instr.box 28 a0) w fun x3 w=>
 oP (Instr.box 31 a1) w fun x4 w=>
 oP (Instr.alloc 31 true (.tuple #[])) w fun x6 w=>
 rL 31 x4 w fun x12=>
 cL 97 [x12] w fun x13 w=>
 oP (Instr.alloc 31 true (.tuple #[])) w fun x7 w=>
 oS 31 x7 x13 w fun w=>
 rF 31 x7 2 w fun x14=>
 rL 29 x14 w fun x15=>
 rX 29 x15 a2 w fun x17=>
 rL 25 x17 w fun x18=>
 rN 25 3 x18 w fun x19=>
 rB .sub 3 T0 U0 x19 (iV 1) w fun x20=>
 rF 31 x7 2 w fun x21=>
 rL 29 x21 w fun x22=>
 rX 29 x22 a2 w fun x24=>
 rL 25 x24 w fun x25=>
 rX 25 x25 x20 w fun x27=>
 rL 3 x27 w fun x28=>
 rF 28 x3 4 w fun x29=>
 rL 26 x29 w fun x30=>
 rX 26 x30 x28 w fun x32=>
 rL 117 x32 w fun x33=>
 oP (Instr.alloc 117 true (.tuple #[])) w fun x10 w=>
 oS 117 x10 x33 w fun w=>
 rA x28 (iV 1) w fun x35=>
 JOIN [11] (fun J30=>
 rF 117 x10 0 w fun x36=>
 rL 3 x36 w fun x37=>
 rB .eql 3 T0 U0 x37 (iV 1) w fun x39=>
 BR x39
 ((fun w=>rF 31 x7 0 w fun x40=>
 rL 25 x40 w fun x41=>
 rF 117 x10 1 w fun x42=>
 rL 3 x42 w fun x43=>
 rF 117 x10 2 w fun x44=>
 rL 78 x44 w fun x45=>
 rF 28 x3 0 w fun x46=>
 rL 24 x46 w fun x47=>
 rF 31 x4 0 w fun x48=>
 rL 25 x48 w fun x49=>
 (fun w_=>cL 117 [x45,x47,x49] w_ fun x50 w=>
 Ext w_ w ∧
 rX 25 x41 x43 w fun x51=>
 oS 3 x51 x50 w fun w=>
 J30 [x35] w) w) (World.drew1 w))
 (rB .eql 3 T0 U0 x37 (iV 2) w fun x53=>
 BR x53
 (rF 117 x10 2 w fun x54=>
 rL 78 x54 w fun x55=>
 rF 28 x3 0 w fun x56=>
 rL 24 x56 w fun x57=>
 rF 31 x4 0 w fun x58=>
 rL 25 x58 w fun x59=>
 cL 117 [x55,x57,x59] w fun x60 w=>
 rB .eql 3 T0 U0 x60 (iV 0) w fun x61=>
 BR x61
 (rF 117 x10 3 w fun x62=>
 rL 3 x62 w fun x63=>
 J30 [x63] w)
 (J30 [x35] w))
 (rB .eql 3 T0 U0 x37 (iV 3) w fun x65=>
 BR x65
 (rF 117 x10 3 w fun x66=>
 rL 3 x66 w fun x67=>
 J30 [x67] w)
 (rB .eql 3 T0 U0 x37 (iV 4) w fun x69=>
 BR x69
 ((fun w=>XR fun X=>RDX tp X (Instr.fieldAt 31 x7 2) w fun x70=>
 RDX tp X (Instr.loadAt 29 x70) w fun x71=>
 RDX tp X (Instr.fieldAt 31 x7 2) w fun x73=>
 RDX tp X (Instr.loadAt 29 x73) w fun x74=>
 RDX tp X (Instr.indexAt 29 x74 a2) w fun x76=>
 RDX tp X (Instr.loadAt 25 x76) w fun x77=>
 RDX tp X (Instr.fieldAt 28 x3 3) w fun x78=>
 RDX tp X (Instr.loadAt 25 x78) w fun x79=>
 RDX tp X (Instr.fieldAt 117 x10 1) w fun x80=>
 RDX tp X (Instr.loadAt 3 x80) w fun x81=>
 RDX tp X (Instr.indexAt 25 x79 x81) w fun x82=>
 RDX tp X (Instr.loadAt 3 x82) w fun x83=>
 (fun w_=>oP (Instr.buildSlice 25 1 #[(0,x83)]) w_ fun x84 w=>
 ExtX X w_ w ∧
 ((fun w_=>oP (Builtin.append_ #[25,25] 25 [x77,x84].toArray) w_ fun x85 w=>
 ExtX X w_ w ∧
 (RDX tp X (Instr.indexAt 29 x71 a2) w fun x86=>
 oS 25 x86 x85 w fun w=>
 rL 31 x7 w fun x87=>
 oS 31 x6 x87 w fun w=>
 rD (zar 31 x6) w fun r6=>R r6 w)) w)) w) (World.drew1 w))
 (rB .eql 3 T0 U0 x37 (iV 5) w fun x89=>
 BR x89
 (rF 31 x7 2 w fun x90=>
 rL 29 x90 w fun x91=>
 rN 29 3 x91 w fun x92=>
 rB .lss 3 T0 U0 x92 (iV 6) w fun x93=>
 BR x93
 ((fun w=>rF 31 x7 2 w fun x94=>
 rL 29 x94 w fun x95=>
 rF 28 x3 3 w fun x96=>
 rL 25 x96 w fun x97=>
 rF 117 x10 1 w fun x98=>
 rL 3 x98 w fun x99=>
 rX 25 x97 x99 w fun x100=>
 rL 3 x100 w fun x101=>
 (fun w_=>oP (Instr.buildSlice 25 1 #[(0,x101)]) w_ fun x102 w=>
 Ext w_ w ∧
 ((fun w_=>oP (Instr.buildSlice 29 1 #[(0,x102)]) w_ fun x103 w=>
 Ext w_ w ∧
 (oP (Builtin.append_ #[29,29] 29 [x95,x103].toArray) w fun x104 w=>
 rF 31 x7 2 w fun x105=>
 oS 29 x105 x104 w fun w=>
 J30 [x35] w)) w)) w) (World.drew1 w))
 (J30 [x35] w))
 (rB .eql 3 T0 U0 x37 (iV 6) w fun x107=>
 BR x107
 (rF 31 x7 1 w fun x108=>
 rL 25 x108 w fun x109=>
 rF 117 x10 1 w fun x110=>
 rL 3 x110 w fun x111=>
 rX 25 x109 x111 w fun x113=>
 oS 3 x113 a2 w fun w=>
 J30 [x35] w)
 (rB .eql 3 T0 U0 x37 (iV 7) w fun x115=>
 BR x115
 (rF 31 x7 1 w fun x116=>
 rL 25 x116 w fun x117=>
 rF 117 x10 1 w fun x118=>
 rL 3 x118 w fun x119=>
 rX 25 x117 x119 w fun x120=>
 rL 3 x120 w fun x121=>
 rB .eql 3 T0 T0 x121 a2 w fun x123=>
 BR x123
 (rF 31 x7 1 w fun x124=>
 rL 25 x124 w fun x125=>
 rF 117 x10 1 w fun x126=>
 rL 3 x126 w fun x127=>
 rX 25 x125 x127 w fun x128=>
 oS 3 x128 (iV (-1)) w fun w=>
 J30 [x35] w)
 (J30 [x35] w))
 (rB .eql 3 T0 U0 x37 (iV 9) w fun x130=>
 BR x130
 ((fun w=>rF 31 x7 2 w fun x131=>
 rL 29 x131 w fun x132=>
 rF 31 x7 2 w fun x134=>
 rL 29 x134 w fun x135=>
 rX 29 x135 a2 w fun x137=>
 rL 25 x137 w fun x138=>
 rD (Instr.sliceAt 25 x138 none (some x20) none) w fun x140=>
 rX 29 x132 a2 w fun x141=>
 oS 25 x141 x140 w fun w=>
 rB .gtr 3 T0 U0 x20 (iV 0) w fun x143=>
 BR x143
 (rF 31 x7 2 w fun x144=>
 rL 29 x144 w fun x145=>
 rX 29 x145 a2 w fun x147=>
 rL 25 x147 w fun x148=>
 rB .sub 3 T0 U0 x20 (iV 1) w fun x150=>
 rX 25 x148 x150 w fun x151=>
 rL 3 x151 w fun x152=>
 rA x152 (iV 1) w fun x153=>
 rX 25 x148 x150 w fun x154=>
 oS 3 x154 x153 w fun w=>
 rL 31 x7 w fun x155=>
 oS 31 x6 x155 w fun w=>
 rD (zar 31 x6) w fun r6=>R r6 w)
 (rL 31 x7 w fun x155=>
 oS 31 x6 x155 w fun w=>
 rD (zar 31 x6) w fun r6=>R r6 w)) (World.drew1 w))
 (J30 [x35] w))))))))) (fun u30 w=>
 rF 31 x7 2 w fun x156=>
 rL 29 x156 w fun x157=>
 rX 29 x157 a2 w fun x159=>
 rL 25 x159 w fun x160=>
 rX 25 x160 x20 w fun x163=>
 oS 3 x163 (u30 11) w fun w=>
 rL 31 x7 w fun x164=>
 oS 31 x6 x164 w fun w=>
 rD (zar 31 x6) w fun r6=>R r6 w)
def cfg58:Cfg:={ ext:=extL,joins:=[(30,91343852333181432387730302044767688659776309248,[11])],loops:=[],draws:=[(8,[0,1,2,3,4,5,6,7,8,9,10,11,12],1024),(15,[0,1,2,3,4,5,6,7,8,9,10,11,12,13,14,15,16,17],49152),(19,[0,1,2,3,4,5,6,7,8,9,10,11,12],768),(26,[0,1,2,3,4,5,6,7,8,9,10,11],0)],pars:=[],xs:=[15] }
theorem F58_call {a0 a1 a2:Value} {w:World} {R:VW} (h:F58 a0 a1 a2 w R):cL 58 [a0,a1,a2] w R:=co (g:=cfg58) Tryz.func58 (by kernel_rfl) (by kernel_rfl) (by kernel_rfl) h
theorem zsE {P:Program} {w:World} {t e:TypeId} {by_:Nat} {u:Value} {l:List Int} {G:List Nat} {k:Nat} {K:Value→Prop} (ht:P.underlying t=some (.slice e)) (he:tyI P e=some (1,by_,false)) (hm:Mine G w u l) (hk:k≤l.length) (hne:l≠[])
   (kk:∀ b a cap v G',u=.slice (some ⟨b,a,none⟩) l.length cap→Mine G' w v (l.take k)→(∀ c∈G',c∈G)→(0<k→v=.slice (some ⟨b,a,none⟩) k cap)→K v):RD P (Instr.sliceAt t u none (some (.int .i64 (k:Int))) none) w K:=by
 obtain ⟨⟨cs,⟨a,cap,Fi,xs,rfl,h1,h2,hc,h4⟩,rfl⟩,hn,hw⟩:=hm
 rcases h4 with ⟨h4,_⟩ | ⟨b,o,rfl,rfl,hr,hb⟩
 · exact absurd h4 hne
 have hFi:=Cells.flat (xs:=xs) hc
 subst hFi
 have hbd:∀ w',(Instr.sliceBounds true l.length cap none (some (.int .i64 (k:Int))) none).run P w'=.ok (0,k,cap) w':=fun w'=>by
   have h5:(k:Int)≤(cap:Int):=by omega
   simp [Instr.sliceBounds,Instr.sliceBound,asIntOf,h5]
   intro h6
   omega
 have e0:l=l.take k++l.drop k:=by simp
 have hc':=hc
 rw [e0] at hc'
 obtain ⟨F1,F2,x1,x2,hFF,rfl,c1,c2⟩:=Cells.split hc'
 obtain ⟨rfl,rfl⟩:=List.append_eq_nil_iff.1 hFF.symm
 have hlk:(l.take k).length=k:=by simp;omega
 have hval:∃ v:Value,(∀ w',(Instr.sliceAt t (.slice (some ⟨b,o,none⟩) l.length cap) none (some (.int .i64 (k:Int))) none).run P w'=.ok v w')∧v=.slice (some ⟨b,o,none⟩) k cap:=by
   refine ⟨_,fun w'=>?_,rfl⟩
   simp only [Instr.sliceAt,Instr.slice,Sem.run_bind,run_underlying ht,Result.andThen_ok,hbd,zaD he]
   simp [Addr.add_mid]
 obtain ⟨v,hrun,rfl⟩:=hval
 refine zaV (fun w' _=>hrun w') ?_
 by_cases h0:k=0
 · subst h0
   refine kk b o cap _ [] rfl ?_ (by simp) (fun h=>by omega)
   have:l.take 0=[]:=by simp
   rw [this]
   exact ⟨⟨_,⟨some ⟨b,o,none⟩,cap,[],[],rfl,Nat.zero_le _,h2,⟨rfl,rfl⟩,.inl ⟨rfl,rfl⟩⟩,rfl⟩,List.nodup_nil,Wr.nil w⟩
 refine kk b o cap _ [b] rfl ?_ (by simp) (fun _=>rfl)
 refine ⟨⟨_,⟨some ⟨b,o,none⟩,cap,[],x1,rfl,by rw [hlk];omega,h2,c1,.inr ⟨b,o,rfl,rfl,(zaB hr).1,hb⟩⟩,by rw [hlk];rfl⟩,by simp,hw.sub (by simp)⟩
theorem zjs {w W0 W1:World} {v0 v1:Value} {c:DCode} {s:DState} {t:Int} (h0:Is W0 v0 c) (e0:Ext W0 w) (h1:Is W1 v1 s) (e1:Ext W1 w) (hc:CodeR c) (hs:zaz c s) (hgo:GoR c s t) :
   CALL Tryz.prog 58 [v0,v1,.int .i64 t] w fun r w'=>Ext w w'∧Own w.heap.size w' r (zgB c s t):=by
 obtain ⟨tn,rfl,htn,hne,hl8,hat⟩:=znA hs hgo.1
 have hatlt:=ziE hs tn
 have hat0:0≤zce s tn:=hgo.1
 have hpos:=List.length_pos_iff.2 hne
 refine F58_call ?_
 unfold F58
 refine zcG h0 e0 fun w1 hx1 hA1=>?_
 refine zcG h1 (e1.trans hx1) fun w2 hx2 hA2=>?_
 refine zaF zs3 fun w3 hx3 hB3=>?_
 have hg3:=hB3.lt
 have hs1:=hx1.size
 have hs2:=hx2.size
 refine zab zbM hA2 hx3 fun v12 h12=>?_
 refine (zof h12 hx3 (zsx hc hs)).mono ?_
 rintro r13 w4 ⟨hx4,z,o13,hz⟩
 have hs4:=hx4.size
 refine zdz (α:=DStV) zs3 fun w5 hx5 hv5=>?_
 have hs5:=hx5.size
 have hg5:=hv5.lt
 refine za9 zbM hv5 (o13.ext hx5) (by omega) fun w6 hc6 hv6=>?_
 have hs6:=hc6.size
 have hx36:Ext w3 w6:=Ext.chgI (hx4.trans hx5) hc6 (by omega)
 have hzl:z.stacks.l.map RV.l=s.stacks:=congrArg DState.stacks hz
 have hzn:tn<z.stacks.l.length:=by have:=congrArg List.length hzl;simp at this;omega
 refine zaa zaT ?_
 refine zab (α:=RIntss) zdJ (zgu hv6.at) (Ext.refl w6) fun v15 k15=>?_
 obtain ⟨rfl,h15⟩:=zmm k15
 refine zad (α:=RInts) u29 zbk h15 hzn fun b17 o17 hA17=>?_
 refine zab (α:=RInts) zbk hA17 (Ext.refl w6) fun v18 k18=>?_
 obtain ⟨rfl,h18⟩:=zmm k18
 obtain ⟨x,hx⟩:∃ x,x=z.stacks.l[tn]:=⟨_,rfl⟩
 have hxl:x.l=stk s tn:=by
   have e1:(z.stacks.l.map RV.l)[tn]?=s.stacks[tn]?:=by rw [hzl]
   rw [List.getElem?_map,List.getElem?_eq_getElem hzn,List.getElem?_eq_getElem htn] at e1
   have e2:=Option.some.inj e1
   rw [hx,e2]
   exact ze9 (t:=(tn:Int)) (by simpa using htn)
 rw [←hx] at h18 ⊢
 refine zae u25 h18 ?_
 refine za2 (by unfold I64;rw [hxl];omega) ?_
 obtain ⟨top,htop⟩:∃ top:Nat,(x.l.length:Int)-1=top:=⟨x.l.length-1,by rw [hxl];omega⟩
 have htl:top<x.l.length:=by omega
 rw [htop]
 have hx7:=Ext.refl w6
 have hs7:=hx7.size
 have hx16:Ext w1 w6:=hx2.trans (hx3.trans hx36)
 have hx26:Ext w2 w6:=hx3.trans hx36
 refine zaa zaT ?_
 refine zj8 zdJ (zgu hv6.at) (Ext.refl w6) ?_
 refine zad (α:=RInts) u29 zbk h15 hzn fun b24 o24 hA24=>?_
 rw [←hx] at hA24
 refine zj8 zbk hA24 (Ext.refl w6) ?_
 refine zad u25 ty3 h18 htl fun b26 o26 hA26=>?_
 have hget:x.l[top]=zce s tn:=by
   rw [ze8,hat,hxl]
   congr 1
   rw [hxl] at htop;omega
 rw [hget] at hA26
 refine zac ty3 hA26 hx7 fun hI27=>?_
 refine zaa zba ?_
 refine zab zdN (zaq hA1) hx16 fun v23 h23=>?_
 refine zat u26 zbS h23 hgo.1 (by omega) fun b28 o28 hA28=>?_
 rw [zaO] at hA28
 refine zab zbS hA28 hx16 fun v29 h29=>?_
 refine zeY zl5 rfl zbS rfl h29 hx16 fun w8 hx8 hA10 hV10=>?_
 have hs8:=hx8.size
 have hins:=hc.f.ins
 refine zcp (by unfold I64;omega) ?_
 have hR:=ziG hc hs hgo.1
 obtain ⟨I,hI⟩:∃ I,I=atI c s tn:=⟨_,rfl⟩
 have hA10:At w8 w6.heap.size 0 I:=by rw [hI];exact hA10
 have hx68:=hx7.trans hx8
 have hv8:VarI w3.heap.size w8.heap.size w8 w4.heap.size z:=(hv6.ext hx68).mono (Nat.le_refl _) (by omega)
 have hx38:Ext w3 w8:=hx36.trans hx68
 have hres:∀ (zz:DState) (w9:World),Ext w3 w9→VarI w3.heap.size w9.heap.size w9 w4.heap.size zz→zz=zgB c s tn →
     RD Tryz.prog (Instr.loadAt 31 (.pointer (some ⟨w4.heap.size,0,none⟩))) w9 fun x148=>OPU Tryz.prog (Instr.storeAt 31 (.pointer (some ⟨w2.heap.size,0,none⟩)) x148) w9 fun w'=>
       RD Tryz.prog (zar 31 (.pointer (some ⟨w2.heap.size,0,none⟩))) w' fun r6=>Ext w w'∧Own w.heap.size w' r6 (zgB c s tn):=by
   intro zz w9 hx9 hv9 he
   have hs9:=hx9.size
   refine zes zbM hv9 (Ext.refl w9) fun v148 o148=>?_
   obtain ⟨a,b,c',rfl⟩:=zt9 o148
   refine zaw (α:=DState) zbM rfl (hB3.ext hx9) rfl o148 fun w10 hc10 hB10=>?_
   refine zbx hB10 zbM ?_
   refine ⟨Ext.chgI (hx1.trans (hx2.trans (hx3.trans hx9))) hc10 (by omega),?_⟩
   have:=o148.chg hc10 (by omega)
   rw [he] at this
   exact this.own.mono (by omega)
 refine JOIN.mk (fun us w'=>us=[.int .i64 (zeh c s tn)]∧Ext w3 w'∧∃ z':DStV,VarI w3.heap.size w'.heap.size w' w4.heap.size z'∧z'.vars=(zb3 c s tn).vars∧z'.owner=(zb3 c s tn).owner∧z'.stacks.l.map RV.l=(zb3 c s tn).stacks∧z'.stacks.l[tn]?=some x∧(I.op≠4∧I.op≠9)) ?_ ?_
 · refine zaa za5 ?_
   refine zac ty3 (zaG hA10) (Ext.refl w8) fun _=>?_
   have hzv:z.vars=s.vars:=congrArg DState.vars hz
   have hzo:z.owner=s.owner:=congrArg DState.owner hz
   have hzx:z.stacks.l[tn]?=some x:=by rw [List.getElem?_eq_getElem hzn,hx]
   have same:∀ w9,Ext w8 w9→(I.op≠1∧I.op≠4∧I.op≠5∧I.op≠6∧I.op≠7∧I.op≠9)→∃ z':DStV,VarI w3.heap.size w9.heap.size w9 w4.heap.size z'∧z'.vars=(zb3 c s tn).vars∧z'.owner=(zb3 c s tn).owner∧z'.stacks.l.map RV.l=(zb3 c s tn).stacks∧z'.stacks.l[tn]?=some x∧(I.op≠4∧I.op≠9):=by
     rintro w9 hx9 ⟨q1,q4,q5,q6,q7,q9⟩
     have he:zb3 c s tn=s:=by unfold zb3;rw [←hI,if_neg q1,if_neg q5,if_neg q6,if_neg q7]
     rw [he]
     exact ⟨z,(hv8.ext hx9).mono (Nat.le_refl _) hx9.size,hzv,hzo,hzl,hzx,q4,q9⟩
   have hnext:I.op≠2→I.op≠3→zeh c s tn=zce s tn+1:=fun q2 q3=>by unfold zeh;rw [←hI,if_neg q2,if_neg q3]
   refine zag ?_
   refine br (fun q1=>?_) (fun q1=>?_)
   · have hx9:=zaj w8
     have hs9:=hx9.size
     have hg8:=hv8.lt
     obtain ⟨har0,har1⟩:=zsy hc hs hat0 (hI▸q1)
     rw [←hI] at har0 har1
     obtain ⟨ar,har⟩:∃ ar:Nat,I.arg=ar:=⟨I.arg.toNat,by omega⟩
     have har2:ar<z.vars.length:=by rw [hzv];omega
     obtain ⟨u,b,a,cap,hr,hIs,hu,hst⟩:=zq1 (hv8.ext hx9) (by omega) har2
     refine zaa zgd ?_
     refine zcr zbk hr ?_
     refine zaa zbY ?_
     refine zac ty3 (za4 hA10) hx9 fun _=>?_
     refine zaa zcI ?_
     refine zab zcs (zbG hA10) hx9 fun v54 h54=>?_
     refine zaa zcQ ?_
     refine zab zcP (zaW hA1) (hx16.trans (hx68.trans hx9)) fun v56 h56=>?_
     refine zaa zgd ?_
     refine zab zbk (zcf hA2) (hx26.trans (hx68.trans hx9)) fun v58 h58=>?_
     have hok:zaQ 6 I.term=true:=by
       have:=hR.2.2.1
       rw [←hI,if_pos (.inl q1)] at this
       exact this.1
     refine (zgA h54 hx9 h56 (hx16.trans (hx68.trans hx9)) h58 (hx26.trans (hx68.trans hx9)) hok).mono ?_
     rintro _ w10 ⟨hx10,rfl⟩
     refine ⟨hx10,?_⟩
     have hs10:=hx10.size
     rw [har]
     refine zdH u25 ty3 hu har2 ?_
     have hwr:=zeL c.globals s.vars 6 I.term
     refine hst w10 hx10 _ (by unfold I64;omega) _ fun w11 hc11 hv11=>?_
     have hs11:=hc11.size
     have hrest:zb3 c s tn=⟨s.vars.set I.arg.toNat (workT c.globals s.vars 6 I.term),s.owner,s.stacks⟩:=by unfold zb3;rw [←hI,if_pos q1]
     refine ⟨by rw [hnext (by omega) (by omega)],Ext.chgI ((hx38.trans hx9).trans hx10) hc11 (by omega),_,hv11.mono (Nat.le_refl _) (by omega),?_,?_,?_,hzx,by omega,by omega⟩
     · rw [hrest,hzv,har];rfl
     · rw [hrest];exact hzo
     rw [hrest];exact hzl
   refine zag ?_
   refine br (fun q2=>?_) (fun q2=>?_)
   · refine zaa zcI ?_
     refine zab zcs (zbG hA10) (Ext.refl w8) fun v54 h54=>?_
     refine zaa zcQ ?_
     refine zab zcP (zaW hA1) (hx16.trans hx68) fun v56 h56=>?_
     refine zaa zgd ?_
     refine zab zbk (zcf hA2) (hx26.trans hx68) fun v58 h58=>?_
     have hok:zaQ 6 I.term=true:=by
       have:=hR.2.2.1
       rw [←hI,if_pos (.inr q2)] at this
       exact this.1
     refine (zgA h54 (Ext.refl w8) h56 (hx16.trans hx68) h58 (hx26.trans hx68) hok).mono ?_
     rintro _ w9 ⟨hx9,rfl⟩
     refine zag ?_
     refine br (fun q=>?_) (fun q=>?_)
     · refine zaa zdY ?_
       refine zac ty3 (zcH hA10) hx9 fun _=>?_
       exact ⟨by unfold zeh;rw [←hI,if_pos q2,if_pos q],hx38.trans hx9,same w9 hx9 (by omega)⟩
     exact ⟨by unfold zeh;rw [←hI,if_pos q2,if_neg q],hx38.trans hx9,same w9 hx9 (by omega)⟩
   refine zag ?_
   refine br (fun q3=>?_) (fun q3=>?_)
   · refine zaa zdY ?_
     refine zac ty3 (zcH hA10) (Ext.refl w8) fun _=>?_
     exact ⟨by unfold zeh;rw [←hI,if_neg q2,if_pos q3],hx38,same w8 (Ext.refl w8) (by omega)⟩
   have hn:=hnext q2 q3
   refine zag ?_
   refine br (fun q4=>?_) (fun q4=>?_)
   · have hx9:=zaj w8
     have hs9:=hx9.size
     have hg8:=hv8.lt
     obtain ⟨har0,har1⟩:=zhP hc hs hat0 (.inl (hI▸q4))
     rw [←hI] at har0 har1
     obtain ⟨ar,har⟩:∃ ar:Nat,I.arg=ar:=⟨I.arg.toNat,by omega⟩
     obtain ⟨F,hO,hF⟩:=hv6.ext (hx68.trans hx9)
     have hlt:=hO.lts
     obtain ⟨G1,hL1⟩:=zeF (Lens.var hO)
     obtain ⟨b2,a2,cap2,G2,hv2,hG21,hL2⟩:=hL1.elemV hzn
     rw [←hx] at hL2
     obtain ⟨cs1,⟨rfl,_⟩,hr1,_,_,hg1,_⟩:=hL1.here
     obtain ⟨cs,⟨rfl,hrow⟩,hr2,hnG,_,hb2,_⟩:=hL2.here
     have hG2F:∀ c∈G2,c∈F:=fun c hcm=>by
       rcases List.mem_cons.1 (hL2.sub c (by simp [hcm])) with rfl | h
       · exact absurd (hG21 _ (by simp [hcm])) hg1
       exact h
     have hGb:∀ c∈G2,w3.heap.size≤c∧c<w4.heap.size:=fun c hcm=>hF c (hG2F c hcm)
     have hX3:∀ c,c∈G2→w3.heap.size≤c:=fun c hcm=>(hGb c hcm).1
     have hx39:=hx38.trans hx9
     refine XR.mk (fun c=>c∈G2) ?_
     refine zeB zaT ?_
     refine zeC zdJ hr1 (fun h=>by have:=hGb _ h;omega) ?_
     refine zeB zaT ?_
     refine zeC zdJ hr1 (fun h=>by have:=hGb _ h;omega) ?_
     refine ze5 (w0:=w3) hX3 hx39 ?_
     refine zdH u29 zbk hv2 hzn ?_
     refine zeC zbk hr2 hb2 ?_
     refine zeB zbn ?_
     refine ze5 (w0:=w3) hX3 hx39 ?_
     refine zab zbk (zax hA1) (hx2.trans hx3) fun v74 h74=>?_
     refine zeB zbY ?_
     refine zeC ty3 (zbW (zse (za4 hA10)) hx9) (fun h=>by have:=hGb _ h;omega) ?_
     rw [har]
     refine ze5 (w0:=w3) hX3 hx39 ?_
     refine zad u25 ty3 h74 (by omega) fun b77 o77 hA77=>?_
     rw [zbU] at hA77
     refine ze5 (w0:=w3) hX3 hx39 ?_
     refine zac ty3 hA77 (hx2.trans hx3) fun hI78=>?_
     refine zfr (β:=Int) (G:=G2) u25 ty3 z3 zc3 (by decide) hrow hnG (zcK hI78) (by simp) (by rw [zam,hxl];omega) (by rw [hxl];omega) (fun w10 v80 w11 G' hx10 hc11 hR11 hN11 hs11=>?_) fun sv w10 hx10 hop=>⟨hx10.toX,hop⟩
     refine ⟨hc11.toX (fun c h=>h),?_⟩
     have hs10:=hx10.size
     have hs11':=hc11.size
     have hc911:Chg G2 (World.drew1 w8) w11:=(hx10.chg G2).trans hc11
     have hx311:Ext w3 w11:=Ext.chgI hx39 (hc911.toI (lo:=w3.heap.size) (hi:=w4.heap.size) hGb) (Nat.le_refl _)
     refine ze5 (w0:=w3) hX3 hx311 ?_
     refine zdH u29 zbk hv2 hzn ?_
     refine zjk zbk hL2 hlt hc911 hR11 hN11 (fun c hcm=>?_) fun w12 hc12 ⟨F',hO',hF'⟩=>?_
     · rcases hs11 c hcm with h | h | h
       · exact .inl h
       · simp at h
       exact .inr h
     have hs12:=hc12.size
     have hcI:ChgI w3.heap.size w8.heap.size (World.drew1 w8) w12:=hc12.toI fun c hcm=>by
       have:=hL2.sub c hcm
       rcases List.mem_cons.1 this with rfl | h
       · exact ⟨by omega,hg8⟩
       have:=hF c h;omega
     refine hres _ w12 (Ext.chgI hx39 hcI (Nat.le_refl _)) (zpR ⟨F',hO',fun c hcm=>?_⟩) ?_
     · have h1:=hO'.lts c (by simp [hcm])
       rcases hF' c hcm with h | h
       · rcases List.mem_cons.1 h with rfl | h
         · obtain ⟨_,_,_,_,_,hnn,_⟩:=hO';exact absurd hcm hnn
         have:=hF c h;omega
       omega
     unfold zgB DStV.er
     have e1:((tn:Int)).toNat=tn:=by omega
     rw [←hI,if_pos q4]
     simp only [DState.mk.injEq,hzv,hzo,true_and]
     rw [List.map_set,hzl,hxl,e1,har,Int.toNat_natCast]
   refine zag ?_
   refine br (fun q5=>?_) (fun q5=>?_)
   · have hg8:=hv8.lt
     obtain ⟨har0,har1⟩:=zhP hc hs hat0 (.inr (hI▸q5))
     rw [←hI] at har0 har1
     obtain ⟨ar,har⟩:∃ ar:Nat,I.arg=ar:=⟨I.arg.toNat,by omega⟩
     have hzlen:z.stacks.l.length=s.stacks.length:=by have:=congrArg List.length hzl;simpa using this
     refine zaa zaT ?_
     refine zab (α:=RIntss) zdJ (zgu hv8.at) (Ext.refl w8) fun v86 k86=>?_
     obtain ⟨rfl,h86⟩:=zmm k86
     refine zae u29 h86 ?_
     rw [hzlen]
     refine zai ?_
     refine br (fun qq=>?_) (fun qq=>?_)
     · have hx9:=zaj w8
       have hs9:=hx9.size
       obtain ⟨F,hO,hF⟩:=hv8.ext hx9
       have hlt:=hO.lts
       obtain ⟨G1,hL1⟩:=zeF (Lens.var hO)
       refine zaa zaT ?_
       refine zj8 zdJ (zgu hv8.at) hx9 ?_
       refine zaa zbn ?_
       refine zab zbk (zax hA1) (hx16.trans (hx68.trans hx9)) fun v92 h92=>?_
       refine zaa zbY ?_
       refine zac ty3 (za4 hA10) hx9 fun _=>?_
       rw [har]
       refine zad u25 ty3 h92 (by omega) fun b95 o95 hA95=>?_
       rw [zbU] at hA95
       refine zac ty3 hA95 (hx16.trans (hx68.trans hx9)) fun hI96=>?_
       refine zg5 (β:=Int) u25 ty3 z3 (by decide) (zcK hI96) fun v97 w10 hx10 r97=>?_
       refine ⟨hx10,?_⟩
       have hs10:=hx10.size
       obtain ⟨GX,hMX,hGX⟩:=zml r97
       obtain ⟨cs,⟨rfl,hrow⟩,_,hnG,_⟩:=hL1.here
       have hGlt:∀ c∈G1,c<(World.drew1 w8).heap.size:=fun c hcm=>hlt c (hL1.sub c (by simp [hcm]))
       refine zfr (β:=RInts) (G:=G1) (w:=w10) u29 zbk z25 ztR (by decide) (hrow.keep fun c hcm=>hx10.heap (hGlt c hcm)) hnG hMX (fun c hcm hg=>by have:=hGX c hcm;have:=hGlt c hg;omega) (by rw [zam,hzlen];omega) (by rw [hzlen];omega) (fun w11 v99 w12 G' hx11 hc12' hR12 hN12 hs12=>?_) fun sv w11 hx11 hop=>⟨hx11,hop⟩
       have hc12:Chg G1 w10 w12:=(hx11.chg G1).trans hc12'
       refine zaa zaT ?_
       refine zjk zdJ hL1 hlt ((hx10.chg G1).trans hc12) hR12 hN12 (fun c hcm=>?_) fun w13 hc13 ⟨F',hO',hF'⟩=>?_
       · rcases hs12 c hcm with h | h | h
         · exact .inl h
         · exact .inr (hGX c h).1
         exact .inr (by omega)
       have hs13:=hc13.size
       have hcI:ChgI w3.heap.size w8.heap.size (World.drew1 w8) w13:=hc13.toI fun c hcm=>by
         have:=hL1.sub c hcm
         rcases List.mem_cons.1 this with rfl | h
         · exact ⟨by omega,hg8⟩
         exact hF c h
       have hrest:zb3 c s tn=⟨s.vars,s.owner,s.stacks++[[en c I.arg.toNat]]⟩:=by unfold zb3;rw [←hI,if_neg q1,if_pos q5,if_pos (by omega)]
       refine ⟨by rw [hn],Ext.chgI (hx38.trans hx9) hcI (Nat.le_refl _),_,⟨F',hO',fun c hcm=>?_⟩,?_,?_,?_,?_,by omega,by omega⟩
       · have h1:=hO'.lts c (by simp [hcm])
         rcases hF' c hcm with h | h
         · rcases List.mem_cons.1 h with rfl | h
           · obtain ⟨_,_,_,_,_,hnn,_⟩:=hO';exact absurd hcm hnn
           have:=hF c h;omega
         omega
       · rw [hrest];exact hzv
       · rw [hrest];exact hzo
       · rw [hrest]
         simp only [List.map_append,List.map_cons,List.map_nil,hzl,har,Int.toNat_natCast]
       show (z.stacks.l++_)[tn]?=some x
       rw [List.getElem?_append_left hzn];exact hzx
     have hrest:zb3 c s tn=s:=by unfold zb3;rw [←hI,if_neg q1,if_pos q5,if_neg (by omega)]
     refine ⟨by rw [hn],hx38,z,hv8,?_,?_,?_,hzx,by omega,by omega⟩
     · rw [hrest];exact hzv
     · rw [hrest];exact hzo
     rw [hrest];exact hzl
   refine zag ?_
   refine br (fun q6=>?_) (fun q6=>?_)
   · have hg8:=hv8.lt
     obtain ⟨har0,har1⟩:=zeH hc hs hat0 (.inl (hI▸q6))
     rw [←hI] at har0 har1
     obtain ⟨ar,har⟩:∃ ar:Nat,I.arg=ar:=⟨I.arg.toNat,by omega⟩
     have har2:ar<z.owner.length:=by rw [hzo];omega
     obtain ⟨u,b,a,cap,hr,hIs,hu,hst⟩:=zlx hv8 (by omega) har2
     refine zaa zcA ?_
     refine zcr zbk hr ?_
     refine zaa zbY ?_
     refine zac ty3 (za4 hA10) (Ext.refl w8) fun _=>?_
     rw [har]
     refine zdH u25 ty3 hu har2 ?_
     have hmany:=hs.2.2.1
     refine hst w8 (Ext.refl w8) _ (by unfold I64;omega) _ fun w11 hc11 hv11=>?_
     have hs11:=hc11.size
     have hrest:zb3 c s tn=⟨s.vars,s.owner.set I.arg.toNat tn,s.stacks⟩:=by unfold zb3;rw [←hI,if_neg q1,if_neg q5,if_pos q6]
     refine ⟨by rw [hn],Ext.chgI hx38 hc11 (by omega),_,hv11.mono (Nat.le_refl _) (by omega),?_,?_,?_,hzx,by omega,by omega⟩
     · rw [hrest];exact hzv
     · rw [hrest,hzo,har];rfl
     rw [hrest];exact hzl
   refine zag ?_
   refine br (fun q7=>?_) (fun q7=>?_)
   · have hg8:=hv8.lt
     obtain ⟨har0,har1⟩:=zeH hc hs hat0 (.inr (hI▸q7))
     rw [←hI] at har0 har1
     obtain ⟨ar,har⟩:∃ ar:Nat,I.arg=ar:=⟨I.arg.toNat,by omega⟩
     have har2:ar<z.owner.length:=by rw [hzo];omega
     obtain ⟨u,b,a,cap,hr,hIs,hu,hst⟩:=zlx hv8 (by omega) har2
     refine zaa zcA ?_
     refine zcr zbk hr ?_
     refine zaa zbY ?_
     refine zac ty3 (za4 hA10) (Ext.refl w8) fun _=>?_
     rw [har]
     refine zad u25 ty3 hIs har2 fun b115 o115 hA115=>?_
     refine zac ty3 hA115 (Ext.refl w8) fun _=>?_
     have how:z.owner[ar]=ow s I.arg:=by
       have:ar<s.owner.length:=by rw [←hzo];exact har2
       rw [har,←zrC this]
       congr 1
     rw [how]
     refine zag ?_
     refine br (fun qq=>?_) (fun qq=>?_)
     · refine zaa zcA ?_
       refine zcr zbk hr ?_
       refine zaa zbY ?_
       refine zac ty3 (za4 hA10) (Ext.refl w8) fun _=>?_
       rw [har]
       refine zdH u25 ty3 hu har2 ?_
       refine hst w8 (Ext.refl w8) _ (by unfold I64;omega) _ fun w11 hc11 hv11=>?_
       have hs11:=hc11.size
       have hrest:zb3 c s tn=⟨s.vars,s.owner.set I.arg.toNat (-1),s.stacks⟩:=by unfold zb3;rw [←hI,if_neg q1,if_neg q5,if_neg q6,if_pos q7,if_pos qq]
       refine ⟨by rw [hn],Ext.chgI hx38 hc11 (by omega),_,hv11.mono (Nat.le_refl _) (by omega),?_,?_,?_,hzx,by omega,by omega⟩
       · rw [hrest];exact hzv
       · rw [hrest,hzo,har];rfl
       rw [hrest];exact hzl
     have hrest:zb3 c s tn=s:=by unfold zb3;rw [←hI,if_neg q1,if_neg q5,if_neg q6,if_pos q7,if_neg qq]
     refine ⟨by rw [hn],hx38,z,hv8,?_,?_,?_,hzx,by omega,by omega⟩
     · rw [hrest];exact hzv
     · rw [hrest];exact hzo
     rw [hrest];exact hzl
   refine zag ?_
   refine br (fun q9=>?_) (fun q9=>?_)
   · have hx9:=zaj w8
     have hs9:=hx9.size
     have hg8:=hv8.lt
     have hx39:=hx38.trans hx9
     obtain ⟨F,hO,hF⟩:=hv6.ext (hx68.trans hx9)
     have hlt:=hO.lts
     obtain ⟨G1v,hL1v⟩:=zeF (Lens.var hO)
     obtain ⟨b2v,a2v,cap2v,G2v,hv2v,hG21v,hL2v⟩:=hL1v.elemV hzn
     rw [←hx] at hL2v
     obtain ⟨cs1,⟨rfl,_⟩,hr1v,_,_,hg1v,_⟩:=hL1v.here
     obtain ⟨cs2,⟨rfl,hrow2⟩,hr2v,_,_,_,hwb2⟩:=hL2v.here
     have hOs:OAt F (World.drew1 w8) w4.heap.size 0 s:=by have:=zrD hO;rwa [hz] at this
     obtain ⟨G1,hL1⟩:=zga (Lens.var hOs)
     obtain ⟨_,_,_,_,_,hgG1,_⟩:=hL1.here
     obtain ⟨u1,b2,a2,cap2,G2,hr1,hIs1,hu1,hL2⟩:=hL1.elem htn
     have hu:u1=z.stacks.v:=zeM hr1 hr1v
     refine zaa zaT ?_
     refine zcr zdJ hr1 ?_
     refine zaa zaT ?_
     refine zcr zdJ hr1 ?_
     refine zdH u29 zbk hu1 htn ?_
     have hbb:b2=b2v∧a2=a2v:=by
       rw [hu,hv2v] at hu1
       simp only [Value.slice.injEq,Option.some.injEq,Addr.mk.injEq] at hu1
       exact ⟨hu1.1.1.symm,hu1.1.2.1.symm⟩
     obtain ⟨rfl,rfl⟩:=hbb
     obtain ⟨ux,hMx,hrx,hGx,_⟩:=hL2.row
     obtain ⟨_,_,_,_,_,hb2G2,_⟩:=hL2.here
     have hux:ux=x.v:=zeM hrx hr2v
     have hsl:s.stacks[tn]=x.l:=by rw [hxl];exact ze9 (t:=(tn:Int)) (by simpa using htn)
     rw [hux,hsl] at hMx
     refine zcr zbk hr2v ?_
     refine zsE u25 ty3 hMx (by omega) (by rw [hxl];exact hne) fun bx ax capx v132 G' hxv hM' hG' hv'=>?_
     refine zdH u29 zbk hu1 htn ?_
     have hb2G':b2∉G':=fun h=>hb2G2 (hG' _ h)
     have hb2g:b2≠w4.heap.size:=fun e=>hg1v (e▸hG21v b2 (by simp))
     have hrep':=zaS rfl hM'.own
     have hone':v132.oneCell'=true:=Rep.one hrep' v132 (by simp)
     refine zj9 zbk hwb2 hr2v hrow2.one hone' fun w10 hch hr10=>?_
     have hkeep':∀ c∈G',w10.heap[c]?=(World.drew1 w8).heap[c]?:=fun c hcm=>hch.chg.block c (hM'.lt c hcm) (by simp;exact fun e=>hb2G' (e▸hcm))
     obtain ⟨cb,eb,hcb⟩:=hwb2
     obtain ⟨cb',hcb',_⟩:=hch.cell cb eb hcb
     have hOy:OAt G' w10 b2 (a2+tn*Rep.size (List Int)) (x.l.take top):=⟨[v132],Rep.keep hrep' hkeep',hr10,hM'.nodup,hM'.wr.keep hkeep',hb2G',cb',eb,hcb'⟩
     have hg10:w10.heap[w4.heap.size]?=(World.drew1 w8).heap[w4.heap.size]?:=hch.chg.block _ (hlt _ (by simp)) (by simp;exact fun e=>hb2g e.symm)
     obtain ⟨F',hO',hF'⟩:=hL2.back w10 G' (x.l.take top) (hch.mono (Nat.le_refl _) (Nat.le_refl _) (by simp)) hOy (fun c hcm=>.inl (hG' c hcm))
     have hs10:=hch.chg.size
     have hFb:∀ c∈F',w3.heap.size≤c∧c<w4.heap.size:=fun c hcm=>by
       have hin:c∈w4.heap.size :: F:=by
         rcases hF' c hcm with h | h
         · exact h
         exact hGx c (hG' c h)
       rcases List.mem_cons.1 hin with rfl | h
       · obtain ⟨_,_,_,_,_,hnn,_⟩:=hO';exact absurd hcm hnn
       exact hF c h
     have hb2F:b2∈w4.heap.size :: F:=hL2.sub b2 (by simp)
     have hcI:ChgI w3.heap.size w8.heap.size (World.drew1 w8) w10:=hch.chg.toI fun c hcm=>by
       simp only [List.mem_cons,List.not_mem_nil,or_false] at hcm
       subst hcm
       rcases List.mem_cons.1 hb2F with h | h
       · rw [h];exact ⟨by omega,hg8⟩
       have:=hF _ h;omega
     have hx310:Ext w3 w10:=Ext.chgI hx39 hcI (Nat.le_refl _)
     have e1:((tn:Int)).toNat=tn:=by omega
     have hlen:x.l.length=top+1:=by omega
     have htop8:top<8:=by have h:=htl;rw [hxl] at h;omega
     refine zb0 ?_
     refine br (fun hp=>?_) (fun hp=>?_)
     · refine zaa zaT ?_
       refine zcr zdJ (zaY hr1 hg10) ?_
       refine zdH u29 zbk hu1 htn ?_
       refine zcr zbk hr10 ?_
       refine za2 (by unfold I64;omega) ?_
       obtain ⟨tp,htp⟩:∃ tp:Nat,(top:Int)-1=tp:=⟨top-1,by omega⟩
       rw [htp]
       obtain ⟨G1',hL1'⟩:=zga (Lens.var hO')
       have hk':tn<(s.stacks.set tn (x.l.take top)).length:=by simpa using htn
       obtain ⟨u1',b2',a2',cap2',G2',hr1',_,hu1',hL2'⟩:=hL1'.elem hk'
       have hu':u1'=u1:=zeM hr1' (zaY hr1 hg10)
       have hbb':b2'=b2∧a2'=a2:=by
         rw [hu',hu1] at hu1'
         simp only [Value.slice.injEq,Option.some.injEq,Addr.mk.injEq] at hu1'
         exact ⟨hu1'.1.1.symm,hu1'.1.2.1.symm⟩
       obtain ⟨rfl,rfl⟩:=hbb'
       have hel:(s.stacks.set tn (x.l.take top))[tn]'hk'=x.l.take top:=List.getElem_set_self ..
       simp only [hel] at hL2'
       obtain ⟨uy,by',ay',capy',G3',hry,hIsy,huy,hL3'⟩:=hL2'.elem (k:=tp) (by simp;omega)
       have huy':uy=v132:=zeM hry hr10
       have hv132:=hv' (by omega)
       have hbx:by'=bx∧ay'=ax:=by
         rw [huy',hv132] at huy
         simp only [Value.slice.injEq,Option.some.injEq,Addr.mk.injEq] at huy
         exact ⟨huy.1.1.symm,huy.1.2.1.symm⟩
       obtain ⟨rfl,rfl⟩:=hbx
       refine zdH u25 ty3 hv132 (k:=tp) (by omega) ?_
       have hval:(x.l.take top)[tp]'(by simp;omega)=st x.l tp:=by
         rw [List.getElem_take,ze8]
       refine zac ty3 hL3'.here.at (Ext.refl w10) fun hI140=>?_
       rw [hval]
       have hstr:0≤st x.l tp∧st x.l tp<c.ins.length:=by
         have hmem:=hs.2.2.2.2.2 x.l (by rw [←hsl];exact List.getElem_mem _)
         exact hmem.2.1 tp (by omega)
       refine zcp (by unfold I64;omega) ?_
       refine zdH u25 ty3 hv132 (k:=tp) (by omega) ?_
       have hg10':w4.heap.size<w10.heap.size:=by omega
       refine zhK (α:=DState) (lo:=w3.heap.size) (hi:=w10.heap.size) ty3 hL3' (fun c hcm=>by have:=hFb c hcm;omega) (by omega) (zcK (x:=st x.l tp+1) (by unfold I64;omega)) fun w11 hc11 hv11=>?_
       have hs11:=hc11.size
       refine hres _ w11 (Ext.chgI hx310 hc11 (Nat.le_refl _)) (hv11.mono (Nat.le_refl _) (by omega)) ?_
       unfold zgB
       rw [←hI,if_neg q4,if_pos q9]
       simp only [DState.mk.injEq,true_and,e1,List.set_set]
       congr 1
       unfold zlw
       rw [←hxl,hlen,if_neg (by omega),show top+1-1=top by omega,show top+1-2=tp by omega]
     refine hres _ w10 hx310 ⟨F',hO',fun c hcm=>by have:=hFb c hcm;omega⟩ ?_
     unfold zgB
     rw [←hI,if_neg q4,if_pos q9]
     simp only [DState.mk.injEq,true_and,e1]
     congr 1
     unfold zlw
     have ht0:top=0:=by omega
     subst ht0
     rw [←hxl,hlen]
     simp
   exact ⟨by rw [hn],hx38,same w8 (Ext.refl w8) (by omega)⟩
 rintro uj w9 ⟨hu,hx9,z',hv9,hz1,hz2,hz3,hz4,ho4,ho9⟩
 simp only [List.map_cons,List.map_nil,List.cons.injEq,and_true] at hu
 rw [hu]
 have hs9:=hx9.size
 obtain ⟨hk',hxk⟩:=List.getElem?_eq_some_iff.1 hz4
 have hg9:=hv9.lt
 obtain ⟨F,hO,hF⟩:=hv9
 obtain ⟨G1,hL1⟩:=zeF (Lens.var hO)
 obtain ⟨b2,a2,cap2,G2,hv2,_,hL2⟩:=hL1.elemV hk'
 rw [hxk] at hL2
 obtain ⟨cs1,⟨rfl,_⟩,hr1,_⟩:=hL1.here
 obtain ⟨cs2,⟨rfl,_⟩,hr2,_⟩:=hL2.here
 refine zaa zaT ?_
 refine zcr zdJ hr1 ?_
 refine zdH u29 zbk hv2 hk' ?_
 refine zcr zbk hr2 ?_
 refine zqN (e:=3) u25 ty3 hL2 htl fun b3 o3 G3 hL3=>?_
 have hI64:I64 (zeh c s tn):=by
   have hto:I.op=2∨I.op=3→I64 I.to:=fun h=>by
     have:=hR.2.2.2
     rw [←hI,if_pos h] at this
     obtain ⟨i,hi,_,_,hpr⟩:=hc.f.find hc.1.procs8.2 hat0 hatlt.2
     have h1:=hc.f.nonneg hi
     have h2:=(hc.f.lt i hi).2
     rw [hpr,zdq,Int.toNat_natCast] at this
     unfold I64;omega
   unfold zeh
   rw [←hI]
   split
   · split
     · exact hto (.inl (by assumption))
     unfold I64;omega
   split
   · exact hto (.inr (by assumption))
   unfold I64;omega
 refine zhK ty3 hL3 hF (by omega) (zcK hI64) fun w10 hc10 hv10=>?_
 have hs10:=hc10.size
 refine hres _ w10 (Ext.chgI hx9 hc10 (Nat.le_refl _)) (zpR (hv10.mono (Nat.le_refl _) (by omega))) ?_
 unfold zgB DStV.er
 rw [←hI,if_neg ho4,if_neg ho9]
 simp only [DState.mk.injEq,hz1,hz2,true_and]
 have e1:((tn:Int)).toNat=tn:=by omega
 have e2:(stk s tn).length-1=top:=by rw [←hxl];omega
 rw [List.map_set,hz3,hxl,e1,e2]
theorem zfd {c:DCode} {s:DState} {t:Int}:∀ {k:Nat},t∈zdG c s k→GoR c s t
 | 0,h=>by simp [zdG] at h
 | k+1,h=>by
   rw [zdG] at h
   split at h
   · rcases List.mem_append.1 h with h | h
     · exact zfd h
     simp only [List.mem_cons,List.not_mem_nil,or_false] at h
     subst h;assumption
   exact zfd h
def zua {α β:Type} [Rep α] [Rep β] (w w':World) (r:Value) (x:α) (y:β):Prop:=∃ a b lo hi lo2 hi2,r=.tuple #[a,b]∧OwnI lo hi w' a x∧OwnI lo2 hi2 w' b y∧w.heap.size≤lo∧w.heap.size≤lo2∧hi≤w'.heap.size∧hi2≤w'.heap.size∧(hi≤lo2∨hi2≤lo)
end Go.Proofs.YtdmailcgaekimaaGreat
namespace Go.Sh
open Go.RowKit (Below)
open Rep (rep)
section
variable {P:Program} {w w0 w':World} {α β:Type} [Rep α] [Rep β] {lo hi e g o:Nat}
theorem zcd {X:Nat→Prop} {t by_ g e:Nat} {cs:List Value} {K:Value→Prop} (hB:Blk g e w cs) (ht:tyI P t=some (cs.length,by_,true)) (hX:¬X g) (k:K (.agg cs.toArray)):RDX P X (Instr.loadAt t (.pointer (some ⟨g,0,none⟩))) w K:=by
 refine ⟨_,fun w' hx'=>?_,k⟩
 obtain ⟨v,h1,h2⟩:=zbP (P:=P) (w:=w') (K:=fun v=>v=.agg cs.toArray) (hB.keep (hx'.block g hB.lt hX)) ht rfl
 rw [←h2];exact h1 w' (Ext.refl _)
end
end Go.Sh
