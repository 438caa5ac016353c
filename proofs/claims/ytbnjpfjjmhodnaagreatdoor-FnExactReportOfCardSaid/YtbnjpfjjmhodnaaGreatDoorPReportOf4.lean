/-
  Parts of the proof, put together by program.
-/
import Derived.Test.YtbnjpfjjmhodnaaGreatDoorPReportOf3
set_option linter.unusedVariables false
set_option linter.unusedSimpArgs false
set_option linter.unusedSectionVars false
namespace Go.Proofs.YtbnjpfjjmhodnaaGreatDoor
open Go Go.Sh Go.Proofs
open Rep (rep)
theorem zlv {s:ByteArray} (h:zbx s=true):s.size≤12:=by
 rcases Nat.lt_or_ge 12 s.size with h' | h'
 · simp [zbx,zic h'] at h
 exact h'
theorem NamesR.lock_size {c:DCode} (h:NamesR c) {i:Nat} (hi:i<c.locks.length):c.locks[i].size≤12:=by
 have h1:=h.2.1
 simp only [Bool.and_eq_true,List.all_eq_true] at h1
 exact zlv (h1.2 _ (List.getElem_mem hi))
theorem NamesR.global_size {c:DCode} (h:NamesR c) {i:Nat} (hi:i<c.globals.length):c.globals[i].size≤12:=by
 have h1:=h.1
 simp only [Bool.and_eq_true,List.all_eq_true] at h1
 exact zlv (h1.2 _ (List.getElem_mem hi))
theorem zdS {α:Type} {l:List α} {i:Nat} {d:α} (h:i<l.length):l.getD i d=l[i]:=by rw [List.getD_eq_getElem?_getD,List.getElem?_eq_getElem h];rfl
def zu7:ByteArray:=ByteArray.mk #[114,111,117,110,100]
def blankS:ByteArray:=ByteArray.mk #[32]
def lineS:ByteArray:=ByteArray.mk #[10]
def zdF (c:DCode) (part:List Int):Nat→ByteArray
 | 0=>zu7
 | k+1=>zdF c part k++(blankS++c.locks.getD (part.getD k 0).toNat ByteArray.empty)
def zfZ (c:DCode) (part:List Int):Prop:=CodeR c∧part≠[]∧part.length≤6∧∀ i∈part,0≤i∧i<c.locks.length
instance (c:DCode) (part:List Int):Decidable (zfZ c part):=by unfold zfZ;infer_instance
def zaQ (c:DCode) (part:List Int):ByteArray:=if zfZ c part then zdF c part part.length++lineS else ByteArray.mk #[]
theorem zfo:(ByteArray.mk #[32]).size=1:=rfl
theorem zlw:(ByteArray.mk #[10]).size=1:=rfl
def F25 (a0 a1:Value) (w:World) (R:VW):Prop:=
 oP (Instr.box 31 a0) w fun x2 w=>
 rN 23 3 a1 w fun x9=>
 rB .eql 3 T0 U0 x9 (iV 0) w fun x10=>
 BR x10
 (R (Value.string (ByteArray.mk #[])) w)
 (rN 23 3 a1 w fun x13=>
 rB .gtr 3 T0 U0 x13 (iV 6) w fun x14=>
 BR x14
 (R (Value.string (ByteArray.mk #[])) w)
 (rL 31 x2 w fun x17=>
 cL 44 [x17] w fun x18 w=>
 rD (Op.unary .not x18) w fun x19=>
 BR x19
 (R (Value.string (ByteArray.mk #[])) w)
 (rN 23 3 a1 w fun x22=>
 LOOPI [5,23] [(Value.string (ByteArray.mk #[114,111,117,110,100])),(iV 0)] w fun u5 w next5=>
 rC (u5 23) x22 w fun x24=>
 BR x24
 (rX 23 a1 (u5 23) w fun x25=>
 rL 3 x25 w fun x26=>
 rB .lss 3 T0 U0 x26 (iV 0) w fun x28=>
 BR x28
 (R (Value.string (ByteArray.mk #[])) w)
 (rF 31 x2 1 w fun x31=>
 rL 22 x31 w fun x32=>
 rN 22 3 x32 w fun x33=>
 rB .geq 3 T0 T0 x26 x33 w fun x34=>
 BR x34
 (R (Value.string (ByteArray.mk #[])) w)
 (rF 31 x2 1 w fun x37=>
 rL 22 x37 w fun x38=>
 rX 22 x38 x26 w fun x40=>
 rL 9 x40 w fun x41=>
 rB .add 9 U0 T0 (Value.string (ByteArray.mk #[32])) x41 w fun x42=>
 rB .add 9 T0 T0 (u5 5) x42 w fun x43=>
 rA (u5 23) (iV 1) w fun x44=>
 next5 [x43,x44] w)))
 (rB .add 9 T0 U0 (u5 5) (Value.string (ByteArray.mk #[10])) w fun x46=>
 R x46 w))))
def cfg25:Cfg:=⟨extL,[],[(5,35184363700400,[5,23])],[],[],[],[]⟩
theorem F25_call {a0 a1:Value} {w:World} {R:VW} (h:F25 a0 a1 w R):cL 25 [a0,a1] w R:=co (g:=cfg25) Tryz.func25 (by kernel_rfl) (by kernel_rfl) (by kernel_rfl) h
theorem zhu {w:World} {v0:Value} {W0:World} {c:DCode} {v1:Value} {W1:World} {part:(List Int)}  (h0:Is W0 v0 c) (e0:Ext W0 w) (h1:Is W1 v1 part) (e1:Ext W1 w)  :
   CALL Tryz.prog 25 [v0,v1] w fun r w'=>Ext w w'∧(r=.string (zaQ c part)):=by
 refine F25_call ?_
 unfold F25
 refine zaD zbt rfl h0 e0 fun w1_ hx1_ hA2 hV2=>?_
 have hln9:=zam h1
 refine zag u23 h1 ?_
 refine zao ?_
 refine br (fun c1=>?_) (fun c1=>?_)
 · refine ⟨hx1_,?_⟩
   have:¬zfZ c part:=fun h=>h.2.1 (List.eq_nil_of_length_eq_zero (by omega))
   rw [zaQ,if_neg this]
 have hln13:=zam h1
 refine zag u23 h1 ?_
 refine zcQ ?_
 refine br (fun c2=>?_) (fun c2=>?_)
 · refine ⟨hx1_,?_⟩
   have:¬zfZ c part:=fun h=>by have:=h.2.2.1;omega
   rw [zaQ,if_neg this]
 refine zbC hV2 (Ext.refl w1_) ?_
 refine (zgs h0 (e0.trans hx1_)).mono ?_
 rintro _ w2_ ⟨hx2_,rfl⟩
 refine zaz ?_
 refine br (fun c3=>?_) (fun c3=>?_)
 · refine ⟨(hx1_.trans hx2_),?_⟩
   have:¬zfZ c part:=fun h=>c3 h.1
   rw [zaQ,if_neg this]
 have hln22:=zam h1
 refine zag u23 h1 ?_
 refine zaq (part.length) (fun k us w'=>us=[.string (zdF c part k),.int .i64 (k:Int)]∧Ext w2_ w'∧((zdF c part k).size≤5+13*k∧∀ i∈part.take k,0≤i∧i<c.locks.length)) (0) (by omega) ⟨rfl,Ext.refl w2_,by rw [zdF];decide,by simp⟩ ?_
 rintro k m5 uu5 w3_ hk5 ⟨hu,hx3_,hsz,hall⟩
 obtain ⟨hu0,hu1⟩:=zb1 hu
 try rw [hu0]
 try rw [hu1]
 try clear hu0 hu1
 refine zah ?_
 refine br (fun c4=>?_) (fun c4=>?_)
 · refine zad u23 ty3 h1 (by omega) fun b25 o25 h25=>?_
   refine zab ty3 h25 (e1.trans (hx1_.trans (hx2_.trans hx3_))) fun hI26=>?_
   have hpk:part[k]'(by omega)=part.getD k 0:=by rw [List.getD_eq_getElem?_getD,List.getElem?_eq_getElem (by omega)];rfl
   rw [hpk] at hI26 ⊢
   refine zah ?_
   refine br (fun c5=>?_) (fun c5=>?_)
   · refine ⟨(hx1_.trans (hx2_.trans hx3_)),?_⟩
     have:¬zfZ c part:=fun h=>by have:=h.2.2.2 _ (List.getElem_mem (n:=k) (by omega));rw [hpk] at this;omega
     rw [zaQ,if_neg this]
   refine zaa zcn ?_
   refine zac zbP (zaR hA2) (hx2_.trans hx3_) fun v32 h32=>?_
   have hln33:=zam h32
   refine zag u22 h32 ?_
   refine zb9 ?_
   refine br (fun c6=>?_) (fun c6=>?_)
   · refine ⟨(hx1_.trans (hx2_.trans hx3_)),?_⟩
     have:¬zfZ c part:=fun h=>by have:=h.2.2.2 _ (List.getElem_mem (n:=k) (by omega));rw [hpk] at this;omega
     rw [zaQ,if_neg this]
   refine zaa zcn ?_
   refine zac zbP (zaR hA2) (hx2_.trans hx3_) fun v38 h38=>?_
   refine zch u22 ty9 h38 (by omega) (by omega) fun b40 o40 h40=>?_
   refine zaH ty9 h40 (hx2_.trans hx3_) fun hS41=>?_
   have hls:=(Decidable.not_not.1 c3).1.lock_size (i:=(part.getD k 0).toNat) (by omega)
   have hgd:c.locks[(part.getD k 0).toNat]'(by omega)=c.locks.getD (part.getD k 0).toNat ByteArray.empty:=(zdS (by omega)).symm
   rw [hgd] at hls ⊢
   refine zbS (by rw [zfo];omega) ?_
   refine zbS (by rw [ByteArray.size_append,zfo];omega) ?_
   refine zaf (by omega) ?_
   refine ⟨m5-1,by omega,k+1,by omega,by rw [zdF];rfl,hx3_,?_⟩
   refine ⟨by rw [zdF,ByteArray.size_append,ByteArray.size_append];have:blankS.size=1:=rfl;omega,?_⟩
   exact znK (by omega) hall (by rw [hpk];omega)
 refine zbS (by rw [zlw];omega) ?_
 refine ⟨(hx1_.trans (hx2_.trans hx3_)),?_⟩
 have:zfZ c part:=⟨Decidable.not_not.1 c3,fun e=>c1 (by rw [e];rfl),by omega,zqf (by omega) hall⟩
 rw [zaQ,if_pos this,show k=part.length by omega];rfl
def F16 (a0 a1:Value) (w:World) (R:VW):Prop:=
 oP (Instr.box 31 a0) w fun x2 w=>
 rL 31 x2 w fun x7=>
 cL 12 [x7] w fun x8 w=>
 rD (Op.unary .not x8) w fun x9=>
 BR x9
 (R (Value.string (ByteArray.mk #[])) w)
 (rN 23 3 a1 w fun x12=>
 rB .eql 3 T0 U0 x12 (iV 0) w fun x13=>
 BR x13
 (R (Value.string (ByteArray.mk #[])) w)
 (rN 23 3 a1 w fun x17=>
 rB .gtr 3 T0 U0 x17 (iV 6) w fun x18=>
 BR x18
 (R (Value.string (ByteArray.mk #[])) w)
 (LOOPI [5,6] [(Value.string (ByteArray.mk #[114,111,117,110,100])),(iV 0)] w fun u5 w next5=>
 rN 23 3 a1 w fun x22=>
 rC (u5 6) x22 w fun x23=>
 BR x23
 ((fun w=>rX 23 a1 (u5 6) w fun x28=>
 rL 3 x28 w fun x29=>
 rF 31 x2 1 w fun x30=>
 rL 22 x30 w fun x31=>
 rN 22 3 x31 w fun x32=>
 rB .sub 3 T0 U0 x32 (iV 1) w fun x33=>
 cL 38 [x29,(iV 0),x33] w fun x34 w=>
 rD (Op.unary .not x34) w fun x35=>
 BR x35
 (R (Value.string (ByteArray.mk #[])) w)
 ((fun w=>rB .add 9 T0 U0 (u5 5) (Value.string (ByteArray.mk #[32])) w fun x37=>
 rF 31 x2 1 w fun x38=>
 rL 22 x38 w fun x39=>
 rX 23 a1 (u5 6) w fun x42=>
 rL 3 x42 w fun x43=>
 rX 22 x39 x43 w fun x44=>
 rL 9 x44 w fun x45=>
 rB .add 9 T0 T0 x37 x45 w fun x46=>
 rA (u5 6) (iV 1) w fun x25=>
 next5 [x46,x25] w) (World.drew1 w))) (World.drew1 w))
 (rB .add 9 T0 U0 (u5 5) (Value.string (ByteArray.mk #[10])) w fun x48=>
 R x48 w))))
def cfg16:Cfg:=⟨extL,[],[(5,140737487306864,[5,6])],[(7,[0,1,2,3,4,5,6,7,8,9],0),(9,[0,1,2,3,4,5,6,7,8,9,10,11],0)],[],[],[]⟩
theorem F16_call {a0 a1:Value} {w:World} {R:VW} (h:F16 a0 a1 w R):cL 16 [a0,a1] w R:=co (g:=cfg16) Tryz.func16 (by kernel_rfl) (by kernel_rfl) (by kernel_rfl) h
theorem zhv {w:World} {v0:Value} {W0:World} {c:DCode} {v1:Value} {W1:World} {part:(List Int)}  (h0:Is W0 v0 c) (e0:Ext W0 w) (h1:Is W1 v1 part) (e1:Ext W1 w)  :
   CALL Tryz.prog 16 [v0,v1] w fun r w'=>Ext w w'∧(r=.string (zaQ c part)):=by
 refine F16_call ?_
 unfold F16
 have hplen:=zam h1
 refine zaD zbt rfl h0 e0 fun w1_ hx1_ hA2 hV2=>?_
 refine zbC hV2 (Ext.refl w1_) ?_
 refine (zeC h0 (e0.trans hx1_)).mono ?_
 rintro _ w2_ ⟨hx2_,rfl⟩
 refine zaz ?_
 refine br (fun c1=>?_) (fun c1=>?_)
 · refine ⟨(hx1_.trans hx2_),?_⟩
   have:¬zfZ c part:=fun h=>c1 h.1
   rw [zaQ,if_neg this]
 have hln12:=zam h1
 refine zag u23 h1 ?_
 refine zao ?_
 refine br (fun c2=>?_) (fun c2=>?_)
 · refine ⟨(hx1_.trans hx2_),?_⟩
   have:¬zfZ c part:=fun h=>h.2.1 (List.eq_nil_of_length_eq_zero (by omega))
   rw [zaQ,if_neg this]
 have hln17:=zam h1
 refine zag u23 h1 ?_
 refine zcQ ?_
 refine br (fun c3=>?_) (fun c3=>?_)
 · refine ⟨(hx1_.trans hx2_),?_⟩
   have:¬zfZ c part:=fun h=>by have:=h.2.2.1;omega
   rw [zaQ,if_neg this]
 refine zaq (part.length) (fun k us w'=>us=[.string (zdF c part k),.int .i64 (k:Int)]∧Ext w2_ w'∧((zdF c part k).size≤5+13*k∧∀ i∈part.take k,0≤i∧i<c.locks.length)) (0) (by omega) ⟨rfl,Ext.refl w2_,by rw [zdF];decide,by simp⟩ ?_
 rintro k m5 uu5 w3_ hk5 ⟨hu,hx3_,hsz,hall⟩
 obtain ⟨hu0,hu1⟩:=zb1 hu
 try rw [hu0]
 try rw [hu1]
 try clear hu0 hu1
 have hln22:=zam h1
 refine zag u23 h1 ?_
 refine zah ?_
 refine br (fun c4=>?_) (fun c4=>?_)
 · have hx4_:=zak w3_
   refine zad u23 ty3 h1 (by omega) fun b28 o28 h28=>?_
   refine zab ty3 h28 (e1.trans (hx1_.trans (hx2_.trans (hx3_.trans hx4_)))) fun hI29=>?_
   have hpk:part[k]'(by omega)=part.getD k 0:=(zdS (by omega)).symm
   rw [hpk] at hI29 ⊢
   refine zaa zcn ?_
   refine zac zbP (zaR hA2) (hx2_.trans (hx3_.trans hx4_)) fun v31 h31=>?_
   have hln32:=zam h31
   refine zag u22 h31 ?_
   refine zbf (by unfold I64;have:=zam h31;omega) ?_
   refine (l01In_ok ).mono ?_
   rintro _ w5_ ⟨hx5_,rfl⟩
   refine zaz ?_
   refine br (fun c5=>?_) (fun c5=>?_)
   · refine ⟨(hx1_.trans (hx2_.trans (hx3_.trans (hx4_.trans hx5_)))),?_⟩
     have:¬zfZ c part:=fun h=>by have:=h.2.2.2 _ (List.getElem_mem (n:=k) (by omega));rw [hpk] at this;omega
     rw [zaQ,if_neg this]
   have hx6_:=zak w5_
   refine zbS (by rw [zfo];omega) ?_
   refine zaa zcn ?_
   refine zac zbP (zaR hA2) (hx2_.trans (hx3_.trans (hx4_.trans (hx5_.trans hx6_)))) fun v39 h39=>?_
   refine zad u23 ty3 h1 (by omega) fun b42 o42 h42=>?_
   refine zab ty3 h42 (e1.trans (hx1_.trans (hx2_.trans (hx3_.trans (hx4_.trans (hx5_.trans hx6_)))))) fun hI43=>?_
   rw [hpk] at hI43 ⊢
   refine zch u22 ty9 h39 (by omega) (by omega) fun b44 o44 h44=>?_
   refine zaH ty9 h44 (hx2_.trans (hx3_.trans (hx4_.trans (hx5_.trans hx6_)))) fun hS45=>?_
   have hls:=(Decidable.not_not.1 c1).1.lock_size (i:=(part.getD k 0).toNat) (by omega)
   have hgd:c.locks[(part.getD k 0).toNat]'(by omega)=c.locks.getD (part.getD k 0).toNat ByteArray.empty:=(zdS (by omega)).symm
   rw [hgd] at hls ⊢
   refine zbS (by rw [ByteArray.size_append,zfo];omega) ?_
   refine zaf (by omega) ?_
   refine ⟨m5-1,by omega,k+1,by omega,by rw [zdF,←ByteArray.append_assoc];rfl,(hx3_.trans (hx4_.trans (hx5_.trans hx6_))),?_⟩
   refine ⟨by rw [zdF,ByteArray.size_append,ByteArray.size_append];have:blankS.size=1:=rfl;omega,?_⟩
   exact znK (by omega) hall (by rw [hpk];omega)
 refine zbS (by rw [zlw];omega) ?_
 refine ⟨(hx1_.trans (hx2_.trans hx3_)),?_⟩
 have:zfZ c part:=⟨Decidable.not_not.1 c1,fun e=>c2 (by rw [e];rfl),by omega,zqf (by omega) hall⟩
 rw [zaQ,if_pos this,show k=part.length by omega];rfl
def F14 (a0 a1:Value) (w:World) (R:VW):Prop:=
 oP (Instr.box 31 a0) w fun x2 w=>
 oP (Instr.box 44 a1) w fun x3 w=>
 rL 31 x2 w fun x5=>
 cL 12 [x5] w fun x6 w=>
 rD (Op.unary .not x6) w fun x7=>
 BR x7
 (R (Value.string (ByteArray.mk #[])) w)
 (rF 44 x3 0 w fun x9=>
 rL 3 x9 w fun x10=>
 rF 31 x2 0 w fun x11=>
 rL 22 x11 w fun x12=>
 rN 22 3 x12 w fun x13=>
 rB .sub 3 T0 U0 x13 (iV 1) w fun x14=>
 cL 38 [x10,(iV 0),x14] w fun x15 w=>
 rD (Op.unary .not x15) w fun x16=>
 BR x16
 (R (Value.string (ByteArray.mk #[])) w)
 ((fun w=>rF 31 x2 0 w fun x18=>
 rL 22 x18 w fun x19=>
 rF 44 x3 0 w fun x20=>
 rL 3 x20 w fun x21=>
 rX 22 x19 x21 w fun x22=>
 rL 9 x22 w fun x23=>
 rB .add 9 U0 T0 (Value.string (ByteArray.mk #[114,97,99,101,32])) x23 w fun x24=>
 rB .add 9 T0 U0 x24 (Value.string (ByteArray.mk #[32])) w fun x25=>
 rF 44 x3 1 w fun x26=>
 rL 3 x26 w fun x27=>
 rF 44 x3 2 w fun x31=>
 rL 3 x31 w fun x32=>
 (fun w_=>cL 39 [x27] w_ fun x28 w=>
 Ext w_ w ∧
 rB .add 9 T0 T0 x25 x28 w fun x29=>
 rB .add 9 T0 U0 x29 (Value.string (ByteArray.mk #[32])) w fun x30=>
 (fun w_=>cL 39 [x32] w_ fun x33 w=>
 Ext w_ w ∧
 rB .add 9 T0 T0 x30 x33 w fun x34=>
 rB .add 9 T0 U0 x34 (Value.string (ByteArray.mk #[10])) w fun x35=>
 R x35 w) w) w) (World.drew1 w)))
def cfg14:Cfg:=⟨extL,[],[],[(3,[0,1,2,3,4,5,6,7,8,9,13,14,10,11,12,15,16,17,18],33792)],[],[],[]⟩
theorem F14_call {a0 a1:Value} {w:World} {R:VW} (h:F14 a0 a1 w R):cL 14 [a0,a1] w R:=co (g:=cfg14) Tryz.func14 (by kernel_rfl) (by kernel_rfl) (by kernel_rfl) h
open Rep (rep)
def raceS:ByteArray:=ByteArray.mk #[114,97,99,101,32]
def zqg (c:DCode) (x:DRace):Prop:=CodeR c∧0≤x.g∧x.g<c.globals.length
instance (c:DCode) (x:DRace):Decidable (zqg c x):=by unfold zqg;infer_instance
def zeb (c:DCode) (x:DRace):ByteArray:=raceS++c.globals.getD x.g.toNat ByteArray.empty++blankS++zpQ x.a++blankS++zpQ x.b++lineS
def zfp (c:DCode) (x:DRace):ByteArray:=if zqg c x then zeb c x else ByteArray.empty
theorem zin {w W0 W1:World} {v0 v1:Value} {c:DCode} {x:DRace} (h0:Is W0 v0 c) (e0:Ext W0 w) (h1:Is W1 v1 x) (e1:Ext W1 w) :
   CALL Tryz.prog 14 [v0,v1] w fun r w'=>Ext w w'∧r=.string (zfp c x):=by
 refine F14_call ?_
 unfold F14
 refine zbr h0 e0 fun wa hxa hA=>?_
 refine zbr h1 (e1.trans hxa) fun wb hxb hB=>?_
 have hAb:=hA.ext hxb
 have hxw:=hxa.trans hxb
 have hno:¬zqg c x→∀ w9,Ext wb w9→Ext w w9∧Value.string (ByteArray.mk #[])=.string (zfp c x):=fun h w9 hx9=>⟨hxw.trans hx9,by unfold zfp;rw [if_neg h];rfl⟩
 refine zac zbt hAb (Ext.refl _) fun v5 h5=>?_
 refine (zeC h5 (Ext.refl _)).mono ?_
 rintro _ w2 ⟨hx2,rfl⟩
 refine zaz ?_
 refine br (fun hn=>hno (fun h=>hn h.1) _ hx2) (fun hy=>?_)
 have hc:=Decidable.not_not.1 hy
 refine zaa zgj ?_
 refine zab ty3 (zcS hB) hx2 fun _=>?_
 refine zaa zcH ?_
 refine zac zbP (zaZ hAb) hx2 fun v12 h12=>?_
 refine zag u22 h12 ?_
 have hlen:=zam h12
 refine zbf (by unfold I64;omega) ?_
 refine l01In_ok.mono ?_
 rintro _ w3 ⟨hx3,rfl⟩
 refine zaz ?_
 refine br (fun hn=>hno (fun h=>hn ⟨h.2.1,by have:=h.2.2;omega⟩) _ (hx2.trans hx3)) (fun hy2=>?_)
 have hr:=Decidable.not_not.1 hy2
 have hlr:zqg c x:=⟨hc,hr.1,by omega⟩
 have hxd:=zak w3
 generalize World.drew1 w3=w4 at *
 have hxb3:=(hx2.trans hx3).trans hxd
 obtain ⟨i,hi⟩:∃ i:Nat,x.g=(i:Int):=⟨x.g.toNat,by omega⟩
 have hil:i<c.globals.length:=by omega
 refine zaa zcH ?_
 refine zac zbP (zaZ hAb) hxb3 fun v22 h22=>?_
 refine zaa zgj ?_
 refine zab ty3 (zcS hB) hxb3 fun _=>?_
 rw [hi]
 refine zad u22 ty9 h22 hil fun b3 o3 hA3=>?_
 refine zaH ty9 hA3 hxb3 fun _=>?_
 have hsz:=hc.1.global_size hil
 have h5:(ByteArray.mk #[114,97,99,101,32]).size=5:=rfl
 have h1':(ByteArray.mk #[32]).size=1:=rfl
 have h1n:(ByteArray.mk #[10]).size=1:=rfl
 refine zbS (by omega) ?_
 refine zbS (by simp only [ByteArray.size_append];omega) ?_
 refine zaa zhi ?_
 refine zab ty3 (zdt hB) hxb3 fun hIa=>?_
 refine zaa zjm ?_
 refine zab ty3 (zfi hB) hxb3 fun hIb=>?_
 have hda:=zfk x.a hIa
 have hdb:=zfk x.b hIb
 have hxw3:=hxw.trans hxb3
 refine (zfJ hIa).mono ?_
 rintro _ w5 ⟨hx5,rfl⟩
 refine ⟨hx5,?_⟩
 refine zbS (by simp only [ByteArray.size_append];omega) ?_
 refine zbS (by simp only [ByteArray.size_append];omega) ?_
 refine (zfJ hIb).mono ?_
 rintro _ w6 ⟨hx6,rfl⟩
 refine ⟨hx6,?_⟩
 refine zbS (by simp only [ByteArray.size_append];omega) ?_
 refine zbS (by simp only [ByteArray.size_append];omega) ?_
 refine ⟨(hxw3.trans hx5).trans hx6,?_⟩
 unfold zfp zeb
 rw [if_pos hlr,hi,Int.toNat_natCast,zdS hil]
 rfl
def zth (s:DState):Prop:=∀ x∈s.stacks,x=[]
instance (s:DState):Decidable (zth s):=inferInstanceAs (Decidable (∀ x∈s.stacks,x=[]))
def ow (s:DState) (i:Int):Int:=s.owner.getD i.toNat 0
def stk (s:DState) (t:Int):List Int:=s.stacks.getD t.toNat []
def atI (c:DCode) (s:DState) (t:Int):DIns:=zal c (zu1 s t).toNat
theorem zgt {c:DCode} (hc:CodeR c) {j:Nat} (hj:j<c.ins.length):zfX c (zal c j) (en c (zat c j).toNat) (zeB c (zat c j)+1):=hc.2.2 j hj
theorem zr4 {c:DCode} (hc:CodeR c) {j:Nat} (hj:j<c.ins.length) (h:(zal c j).op=6∨(zal c j).op=7):0≤(zal c j).arg∧(zal c j).arg<c.locks.length:=by
 have:=(zgt hc hj).2.1
 unfold zb7 at this
 rwa [if_neg (by omega),if_neg (by omega),if_pos h] at this
theorem NamesR.locks6 {c:DCode} (h:NamesR c):c.locks.length≤6:=by
 have h1:=h.2.1
 simp only [Bool.and_eq_true,decide_eq_true_eq] at h1
 omega
def GoR (c:DCode) (s:DState) (t:Int):Prop:=0≤zu1 s t∧((atI c s t).op=6→ow s (atI c s t).arg=-1)∧((atI c s t).op=4→((stk s t).length:Int)<8)
instance (c:DCode) (s:DState) (t:Int):Decidable (GoR c s t):=by unfold GoR;infer_instance
def zgU (c:DCode) (s:DState) (t:Int):Int:=if 0≤zu1 s t∧(atI c s t).op=6∧0≤ow s (atI c s t).arg then (atI c s t).arg else -1
def zmL (c:DCode) (s:DState):Nat→List Int
 | 0=>[]
 | k+1=>if GoR c s k then zmL c s k++[(k:Int)] else zmL c s k
def zu8 (c:DCode) (s:DState):List Int:=zmL c s s.stacks.length
def zlx (c:DCode) (s:DState):Prop:=(CodeR c∧znJ c s)∧¬zth s∧zu8 c s=[]
instance (c:DCode) (s:DState):Decidable (zlx c s):=by unfold zlx;infer_instance
end Go.Proofs.YtbnjpfjjmhodnaaGreatDoor
namespace Go.Sh
open Rep (rep)
abbrev RInts:=RV Int 3
abbrev RIntss:=RV RInts 23
structure DStV where
 vars:List Int
 owner:List Int
 stacks:RIntss
theorem DStV.ext_iff {x y:DStV}:x=y↔(x.vars=y.vars∧x.owner=y.owner∧x.stacks=y.stacks):=⟨fun h=>by rw [h];exact ⟨rfl,rfl,rfl⟩,fun h=>by obtain ⟨h0,h1,h2⟩:=h;cases x;cases y;simp only at h0 h1 h2;simp only [h0,h1,h2]⟩
instance:Rep DStV:=Rep.via fun x=>(x.vars,x.owner,x.stacks)
instance:RepZ DStV:=⟨⟨(RepZ.zv:List Int),(RepZ.zv:List Int),(RepZ.zv:RIntss)⟩,RepZ.zc ((List Int)×(List Int)×RIntss),fun w=>RepZ.zr (α:=(List Int)×(List Int)×RIntss) w⟩
section
variable {w:World}
end
end Go.Sh
namespace Go.Proofs.YtbnjpfjjmhodnaaGreatDoor
open Go Go.Sh Go.Proofs
open Rep (rep)
theorem ztW {c:DCode} (hc:CodeR c):0≤plc zja c.procs∧(plc zja c.procs).toNat<c.entry.length:=by
 have h1:=ze2.2 hc.1.2.2.2.2.2.2
 have h2:=zu3 (s:=zja) (l:=c.procs)
 have h3:=hc.2.1.1
 omega
def F130 (a0:Value) (w:World) (R:VW):Prop:=
 oP (Instr.box 31 a0) w fun x1 w=>
 rF 31 x1 2 w fun x3=>
 rL 22 x3 w fun x4=>
 cL 66 [x4,(Value.string (ByteArray.mk #[109,97,105,110]))] w fun x5 w=>
 R x5 w
def cfg130:Cfg:=⟨extL,[],[],[],[],[],[]⟩
theorem F130_call {a0:Value} {w:World} {R:VW} (h:F130 a0 w R):cL 130 [a0] w R:=co (g:=cfg130) Tryz.func130 (by kernel_rfl) (by kernel_rfl) (by kernel_rfl) h
theorem zfq {w:World} {v0:Value} {W0:World} {c:DCode}  (h0:Is W0 v0 c) (e0:Ext W0 w)  :
   CALL Tryz.prog 130 [v0] w fun r w'=>Ext w w'∧(r=.int .i64 (plc zja c.procs)):=by
 refine F130_call ?_
 unfold F130
 refine zaD zbt rfl h0 e0 fun w1_ hx1_ hA1 hV1=>?_
 refine zaa zba ?_
 refine zac zbP (zar hA1) (Ext.refl w1_) fun v4 h4=>?_
 refine (zcY h4 (Ext.refl w1_)).mono ?_
 rintro _ w2_ ⟨hx2_,rfl⟩
 refine ⟨(hx1_.trans hx2_),?_⟩
 rfl
theorem zio {α:Type} {l:List α} {i:Nat} {x y:α} (h:y∈l.set i x):y=x∨y∈l:=by
 rcases List.mem_or_eq_of_mem_set h with h | h
 · exact .inr h
 exact .inl h
theorem zqh {c:DCode} (hc:CodeR c) {a:Int} (h0:0≤a) (h1:a<c.ins.length) (ho:(zal c a.toNat).op≠9):a+1<c.ins.length∧zat c (a+1)=zat c a:=by
 obtain ⟨i,hi,h2,h3,h4⟩:=hc.f.find hc.1.procs8.2 h0 h1
 have h5:=(hc.2.1.2.2.2 a.toNat (by omega))
 rw [Int.toNat_of_nonneg h0,h4,zdR] at h5
 have h6:zdh c i-1≠a:=fun e=>ho (h5.2 e)
 have h7:=(hc.f.lt i hi).2
 exact ⟨by omega,by rw [h4];exact hc.f.proc hi (by omega) (by omega)⟩
theorem zmM {c:DCode} (hc:CodeR c) {a:Int} (h0:0≤a) (h1:a<c.ins.length) (ho:(zal c a.toNat).op=2∨(zal c a.toNat).op=3) :
   0≤(zal c a.toNat).to∧(zal c a.toNat).to<c.ins.length∧zat c (zal c a.toNat).to=zat c a:=by
 obtain ⟨i,hi,h2,h3,h4⟩:=hc.f.find hc.1.procs8.2 h0 h1
 have h5:=(zgt hc (j:=a.toNat) (by omega)).2.2.2
 rw [if_pos ho,Int.toNat_of_nonneg h0,h4,zdR,Int.toNat_natCast] at h5
 have h6:=hc.f.nonneg hi
 have h7:=(hc.f.lt i hi).2
 exact ⟨by omega,by omega,by rw [h4];exact hc.f.proc hi h5.1 (by omega)⟩
theorem zqi {c:DCode} (hc:CodeR c) {i:Nat} (hi:i<c.entry.length):0≤en c i∧en c i<c.ins.length∧zat c (en c i)=i:=by
 have h6:=hc.f.nonneg hi
 have h7:=hc.f.lt i hi
 exact ⟨h6,by omega,hc.f.proc hi (Int.le_refl _) h7.1⟩
end Go.Proofs.YtbnjpfjjmhodnaaGreatDoor
namespace Go.Sh
def zaA (l:List Nat):List Int:=l.map fun x:Nat=>(x:Int)
theorem zae (l:List Nat):(zaA l).length=l.length:=by simp [zaA]
theorem zaL {l:List Nat} {i:Nat} (h:i<(zaA l).length):(zaA l)[i]=((l[i]'(by rw [←zae];exact h):Nat):Int):=by simp [zaA]
theorem zbM (l m:List Nat):zaA (l++m)=zaA l++zaA m:=by simp [zaA]
theorem zqj (l:List Nat) (k:Nat):zaA (l.take k)=(zaA l).take k:=by simp [zaA]
def mkd (ms:List Bool) (i:Nat):Prop:=ms.getD i false=true
theorem zaM {ms:List Bool} {i:Nat} (h:i<ms.length):mkd ms i↔ms[i]=true:=by
 unfold mkd;rw [List.getD_eq_getElem?_getD,List.getElem?_eq_getElem h];rfl
theorem znL {ms:List Bool} {i:Nat} (h:mkd ms i):i<ms.length:=by
 rcases Nat.lt_or_ge i ms.length with h' | h'
 · exact h'
 unfold mkd at h;rw [List.getD_eq_getElem?_getD,List.getElem?_eq_none h'] at h;cases h
theorem zb8 {ms:List Bool} {i j:Nat} (hi:i<ms.length):mkd (ms.set i true) j↔mkd ms j∨j=i:=by
 unfold mkd
 rw [List.getD_eq_getElem?_getD,List.getD_eq_getElem?_getD,List.getElem?_set]
 by_cases h:i=j
 · subst h;simp [hi]
 have:¬j=i:=fun e=>h e.symm
 simp [h,this]
theorem zbj {n i:Nat}:¬mkd (List.replicate n false) i:=by
 unfold mkd
 rw [List.getD_eq_getElem?_getD,List.getElem?_replicate]
 split<;>simp
theorem zqk {ms ns:List Bool} (hl:ms.length=ns.length) (h:∀ i,i<ms.length→(mkd ms i↔mkd ns i)):ms=ns:=by
 refine List.ext_getElem hl fun i h1 h2=>?_
 have:=h i h1
 rw [zaM h1,zaM h2] at this
 cases e1:ms[i]<;>cases e2:ns[i]<;>simp_all
def zhD (ms:List Bool):Nat:=ms.count true
theorem ze6 (ms:List Bool):zhD ms≤ms.length:=List.count_le_length
theorem zgu:∀ {ms:List Bool} {i:Nat},i<ms.length→¬mkd ms i→zhD (ms.set i true)=zhD ms+1
 | b :: ms,0,_,h=>by
   have:b=false:=by cases b<;>simp_all [mkd]
   subst this
   simp [zhD]
 | b :: ms,i+1,hi,h=>by
   have ih:=zgu (ms:=ms) (i:=i) (by simpa using hi) (by simpa [mkd] using h)
   simp only [zhD,List.set_cons_succ,List.count_cons] at ih ⊢
   omega
inductive RP (nx:Nat→List Nat) (a:Nat):Nat→Prop
 | one {b:Nat} (h:b∈nx a):RP nx a b
 | more {b d:Nat} (h:RP nx a b) (k:d∈nx b):RP nx a d
theorem RP.trans {nx:Nat→List Nat} {a b d:Nat} (h:RP nx a b) (k:RP nx b d):RP nx a d:=by
 induction k with
 | one h1=>exact .more h h1
 | more _ h2 ih=>exact .more ih h2
theorem RP.keeps {nx:Nat→List Nat} {p:Nat→Prop} {a b:Nat} (h:RP nx a b) (ha:p a) (hp:∀ i j,p i→j∈nx i→p j):p b:=by
 induction h with
 | one h=>exact hp _ _ ha h
 | more _ h ih=>exact hp _ _ ih h
structure SInv (nx:Nat→List Nat) (n a:Nat) (M0 ms:List Bool) (td:List Nat) (k:Nat):Prop where
 len:ms.length=n
 sub:∀ i,mkd M0 i→mkd ms i
 src:∀ i,mkd ms i→mkd M0 i∨RP nx a i
 tdo:∀ i∈td,(i=a∨RP nx a i)∧i<n
 clo:∀ i,(i=a∨(mkd ms i∧¬mkd M0 i))→i∈td∨∀ j∈nx i,mkd ms j
 cnt:td.length+k+zhD M0=1+zhD ms
structure SIn2 (nx:Nat→List Nat) (n a:Nat) (M0 ms:List Bool) (td:List Nat) (k x q:Nat):Prop where
 len:ms.length=n
 sub:∀ i,mkd M0 i→mkd ms i
 src:∀ i,mkd ms i→mkd M0 i∨RP nx a i
 tdo:∀ i∈td,(i=a∨RP nx a i)∧i<n
 clo:∀ i,(i=a∨(mkd ms i∧¬mkd M0 i))→i∈td∨(i=x∧∀ j∈(nx x).take q,mkd ms j)∨∀ j∈nx i,mkd ms j
 cnt:td.length+k+1+zhD M0=1+zhD ms
 met:x=a∨RP nx a x
section
variable {nx:Nat→List Nat} {n a k x q:Nat} {M0 ms:List Bool} {td td':List Nat}
theorem SInv.start (hl:M0.length=n) (ha:a<n):SInv nx n a M0 M0 [a] 0:=
 ⟨hl,fun _ h=>h,fun _ h=>.inl h,fun i hi=>by simp only [List.mem_cons,List.not_mem_nil,or_false] at hi;exact ⟨.inl hi,hi▸ha⟩,fun i hi=>by
   rcases hi with rfl | ⟨h1,h2⟩
   · exact .inl (by simp)
   exact absurd h1 h2,by simp⟩
theorem SInv.bound (h:SInv nx n a M0 ms td k):td.length+k≤1+n:=by
 have h1:=h.cnt
 have h2:=ze6 ms
 rw [h.len] at h2
 omega
theorem SInv.pop (h:SInv nx n a M0 ms td k) (hm:∀ i,i∈td↔i∈td'∨i=x) (hl:td.length=td'.length+1):SIn2 nx n a M0 ms td' k x 0:=
 ⟨h.len,h.sub,h.src,fun i hi=>h.tdo i ((hm i).2 (.inl hi)),fun i hi=>by
   rcases h.clo i hi with h1 | h1
   · rcases (hm i).1 h1 with h1 | rfl
     · exact .inl h1
     exact .inr (.inl ⟨rfl,by simp⟩)
   exact .inr (.inr h1),by have:=h.cnt;omega,(h.tdo x ((hm x).2 (.inr rfl))).1⟩
theorem SIn2.skip (h:SIn2 nx n a M0 ms td k x q) (hq:q<(nx x).length) (hmk:mkd ms (nx x)[q]):SIn2 nx n a M0 ms td k x (q+1):=
 ⟨h.len,h.sub,h.src,h.tdo,fun i hi=>by
   rcases h.clo i hi with h1 | ⟨rfl,h1⟩ | h1
   · exact .inl h1
   · refine .inr (.inl ⟨rfl,fun j hj=>?_⟩)
     rw [List.take_succ_eq_append_getElem hq] at hj
     rcases List.mem_append.1 hj with hj | hj
     · exact h1 j hj
     simp only [List.mem_cons,List.not_mem_nil,or_false] at hj
     rw [hj];exact hmk
   exact .inr (.inr h1),h.cnt,h.met⟩
theorem SIn2.push (h:SIn2 nx n a M0 ms td k x q) (hq:q<(nx x).length) (hn:(nx x)[q]<n) (hmk:¬mkd ms (nx x)[q]):SIn2 nx n a M0 (ms.set (nx x)[q] true) (td++[(nx x)[q]]) k x (q+1):=by
 have hs:=fun j=>zb8 (ms:=ms) (i:=(nx x)[q]) (j:=j) (by rw [h.len];exact hn)
 have hr:RP nx a (nx x)[q]:=by
   rcases h.met with e | e
   · exact .one (e▸List.getElem_mem hq)
   exact .more e (List.getElem_mem hq)
 refine ⟨by simp [h.len],fun i hi=>(hs i).2 (.inl (h.sub i hi)),fun i hi=>?_,fun i hi=>?_,fun i hi=>?_,?_,h.met⟩
 · rcases (hs i).1 hi with h1 | h1
   · exact h.src i h1
   exact .inr (h1▸hr)
 · rcases List.mem_append.1 hi with h1 | h1
   · exact h.tdo i h1
   simp only [List.mem_cons,List.not_mem_nil,or_false] at h1
   exact ⟨.inr (h1▸hr),h1▸hn⟩
 · have hi':i=(nx x)[q]∨(i=a∨(mkd ms i∧¬mkd M0 i)):=by
     rcases hi with h1 | ⟨h1,h2⟩
     · exact .inr (.inl h1)
     rcases (hs i).1 h1 with h1 | h1
     · exact .inr (.inr ⟨h1,h2⟩)
     exact .inl h1
   rcases hi' with h1 | h1
   · exact .inl (List.mem_append_right _ (by simp [h1]))
   rcases h.clo i h1 with h1 | ⟨rfl,h1⟩ | h1
   · exact .inl (List.mem_append_left _ h1)
   · refine .inr (.inl ⟨rfl,fun j hj=>?_⟩)
     rw [List.take_succ_eq_append_getElem hq] at hj
     rcases List.mem_append.1 hj with hj | hj
     · exact (hs j).2 (.inl (h1 j hj))
     simp only [List.mem_cons,List.not_mem_nil,or_false] at hj
     exact (hs j).2 (.inr hj)
   exact .inr (.inr fun j hj=>(hs j).2 (.inl (h1 j hj)))
 have:=h.cnt
 rw [zgu (by rw [h.len];exact hn) hmk,List.length_append]
 simp only [List.length_cons,List.length_nil]
 omega
theorem SIn2.done (h:SIn2 nx n a M0 ms td k x q) (hq:(nx x).length≤q):SInv nx n a M0 ms td (k+1):=
 ⟨h.len,h.sub,h.src,h.tdo,fun i hi=>by
   rcases h.clo i hi with h1 | ⟨rfl,h1⟩ | h1
   · exact .inl h1
   · rw [List.take_of_length_le hq] at h1;exact .inr h1
   exact .inr h1,by have:=h.cnt;omega⟩
theorem SInv.fin (h:SInv nx n a M0 ms [] k) (hc:∀ i,mkd M0 i→i≠a→∀ j∈nx i,mkd M0 j) (i:Nat):mkd ms i↔mkd M0 i∨RP nx a i:=by
 refine ⟨h.src i,fun hi=>?_⟩
 rcases hi with hi | hi
 · exact h.sub i hi
 have hcl:∀ b,(b=a∨mkd ms b)→∀ j∈nx b,mkd ms j:=fun b hb=>by
   by_cases hba:b=a
   · rcases h.clo b (.inl hba) with h1 | h1
     · cases h1
     exact h1
   have hb:=hb.resolve_left hba
   by_cases hm:mkd M0 b
   · exact fun j hj=>h.sub j (hc b hm hba j hj)
   rcases h.clo b (.inr ⟨hb,hm⟩) with h1 | h1
   · cases h1
   exact h1
 induction hi with
 | one h1=>exact hcl a (.inl rfl) _ h1
 | more _ h2 ih=>exact hcl _ (.inr ih) _ h2
end
noncomputable def zbl (n:Nat) (p:Nat→Prop):List Bool:=(List.range n).map fun i=>@decide (p i) (Classical.propDecidable _)
noncomputable def zaS (n:Nat) (p:Nat→Prop):List Nat:=(List.range n).filter fun i=>@decide (p i) (Classical.propDecidable _)
noncomputable def zbY (p:Nat→Prop):Nat→Nat
 | 0=>0
 | n+1=>zbY p n ||| (if @decide (p n) (Classical.propDecidable _) then 2^n else 0)
section
variable {n:Nat} {p q:Nat→Prop}
theorem zaj:(zbl n p).length=n:=by simp [zbl]
theorem zaB {i:Nat}:mkd (zbl n p) i↔i<n∧p i:=by
 constructor
 · intro h
   have hl:=znL h
   rw [zaM hl] at h
   rw [zaj] at hl
   refine ⟨hl,?_⟩
   simpa [zbl] using h
 rintro ⟨h1,h2⟩
 rw [zaM (by rw [zaj];exact h1)]
 simpa [zbl] using h2
theorem zbH {ms:List Bool} (hl:ms.length=n) (h:∀ i,i<n→(mkd ms i↔p i)):ms=zbl n p:=
 zqk (by rw [hl,zaj]) fun i hi=>by
   rw [zaB,h i (hl▸hi)]
   exact ⟨fun h=>⟨hl▸hi,h⟩,fun h=>h.2⟩
theorem zaK (h:∀ i,i<n→(p i↔q i)):zbl n p=zbl n q:=zbH zaj fun i hi=>by rw [zaB,←h i hi];exact ⟨fun h=>h.2,fun h=>⟨hi,h⟩⟩
theorem zaE {i:Nat}:i∈zaS n p↔i<n∧p i:=by simp [zaS]
theorem zfr (h:∀ i,i<n→(p i↔q i)):zaS n p=zaS n q:=by
 refine List.filter_congr fun i hi=>?_
 have:=h i (List.mem_range.1 hi)
 by_cases hp:p i
 · simp [hp,this.1 hp]
 have hq:¬q i:=fun hq=>hp (this.2 hq)
 simp [hp,hq]
theorem zly:zaS (n+1) p=zaS n p++(if @decide (p n) (Classical.propDecidable _) then [n] else []):=by
 simp only [zaS,List.range_succ,List.filter_append,List.filter_cons,List.filter_nil]
theorem zcc (h:p n):zaS (n+1) p=zaS n p++[n]:=by rw [zly];simp [h]
theorem zck (h:¬p n):zaS (n+1) p=zaS n p:=by rw [zly];simp [h]
theorem zaT:(zaS n p).length≤n:=Nat.le_trans (List.length_filter_le _ _) (by simp)
theorem zaO {i:Nat}:(zbY p n).testBit i=true↔i<n∧p i:=by
 induction n with
 | zero=>simp [zbY]
 | succ n ih=>
   rw [zbY,Nat.testBit_or,Bool.or_eq_true,ih]
   by_cases hp:p n
   · simp only [hp,decide_true,if_true,Nat.testBit_two_pow,decide_eq_true_eq]
     constructor
     · rintro (⟨h1,h2⟩ | rfl)
       · exact ⟨by omega,h2⟩
       exact ⟨by omega,hp⟩
     rintro ⟨h1,h2⟩
     rcases Nat.lt_or_eq_of_le (Nat.lt_succ_iff.1 h1) with h | h
     · exact .inl ⟨h,h2⟩
     exact .inr h.symm
   simp only [hp,decide_false,Bool.false_eq_true,if_false,Nat.zero_testBit,or_false]
   constructor
   · rintro ⟨h1,h2⟩;exact ⟨by omega,h2⟩
   rintro ⟨h1,h2⟩
   rcases Nat.lt_or_eq_of_le (Nat.lt_succ_iff.1 h1) with h | h
   · exact ⟨h,h2⟩
   exact absurd (h▸h2) hp
theorem zgV:zbY p n<2^n:=by
 refine Nat.lt_pow_two_of_testBit _ fun i hi=>?_
 cases h:(zbY p n).testBit i
 · rfl
 have:=(zaO.1 h).1;omega
theorem zcV {m:Nat} (h:∀ i,m.testBit i=true↔i<n∧p i):m=zbY p n:=
 Nat.eq_of_testBit_eq fun i=>by
   have h1:=h i
   rw [←zaO] at h1
   cases e1:m.testBit i<;>cases e2:(zbY p n).testBit i<;>simp_all
theorem za8 (h:∀ i,i<n→(p i↔q i)):zbY p n=zbY q n:=zcV fun i=>by
 rw [zaO]
 exact ⟨fun ⟨h1,h2⟩=>⟨h1,(h i h1).1 h2⟩,fun ⟨h1,h2⟩=>⟨h1,(h i h1).2 h2⟩⟩
end
end Go.Sh
namespace Go.Proofs.YtbnjpfjjmhodnaaGreatDoor
open Go Go.Sh Go.Proofs
open Rep (rep)
def F87 (a0 a1:Value) (w:World) (R:VW):Prop:=
 NIL a0 <|
 rF 97 a0 0 w fun x8=>
 rF 31 x8 4 w fun x9=>
 rL 29 x9 w fun x10=>
 rX 29 x10 a1 w fun x12=>
 rL 94 x12 w fun x13=>
 oP (Instr.alloc 94 true (.tuple #[])) w fun x5 w=>
 oS 94 x5 x13 w fun w=>
 rF 94 x5 0 w fun x14=>
 rL 3 x14 w fun x15=>
 rB .eql 3 T0 U0 x15 (iV 9) w fun x17=>
 BR x17
 (R (Value.slice none 0 0) w)
 (rB .eql 3 T0 U0 x15 (iV 3) w fun x19=>
 BR x19
 (rF 94 x5 3 w fun x20=>
 rL 3 x20 w fun x21=>
 oP (Instr.buildSlice 23 1 #[(0,x21)]) w fun x22 w=>
 R x22 w)
 (rB .eql 3 T0 U0 x15 (iV 2) w fun x24=>
 BR x24
 (rF 94 x5 3 w fun x25=>
 rL 3 x25 w fun x26=>
 rA a1 (iV 1) w fun x28=>
 rB .neq 3 T0 T0 x26 x28 w fun x29=>
 BR x29
 (rA a1 (iV 1) w fun x31=>
 rF 94 x5 3 w fun x32=>
 rL 3 x32 w fun x33=>
 oP (Instr.buildSlice 23 2 #[(0,x31),(1,x33)]) w fun x34 w=>
 R x34 w)
 (rA a1 (iV 1) w fun x36=>
 oP (Instr.buildSlice 23 1 #[(0,x36)]) w fun x37 w=>
 R x37 w))
 (rA a1 (iV 1) w fun x36=>
 oP (Instr.buildSlice 23 1 #[(0,x36)]) w fun x37 w=>
 R x37 w)))
def cfg87:Cfg:=⟨extL,[],[],[],[],[],[]⟩
theorem F87_call {a0 a1:Value} {w:World} {R:VW} (h:F87 a0 a1 w R):cL 87 [a0,a1] w R:=co (g:=cfg87) Tryz.func87 (by kernel_rfl) (by kernel_rfl) (by kernel_rfl) h
def F129 (a0 a1:Value) (w:World) (R:VW):Prop:=
 oP (Instr.box 31 a0) w fun x2 w=>
 rF 31 x2 4 w fun x6=>
 rL 29 x6 w fun x7=>
 rX 29 x7 a1 w fun x9=>
 rL 94 x9 w fun x10=>
 oP (Instr.alloc 94 true (.tuple #[])) w fun x5 w=>
 oS 94 x5 x10 w fun w=>
 rF 94 x5 0 w fun x11=>
 rL 3 x11 w fun x12=>
 rB .eql 3 T0 U0 x12 (iV 2) w fun x14=>
 BR x14
 (rF 94 x5 3 w fun x15=>
 rL 3 x15 w fun x16=>
 rA a1 (iV 1) w fun x18=>
 rB .eql 3 T0 T0 x16 x18 w fun x19=>
 BR x19
 (rA a1 (iV 1) w fun x21=>
 oP (Instr.buildSlice 23 1 #[(0,x21)]) w fun x22 w=>
 R x22 w)
 (rA a1 (iV 1) w fun x24=>
 rF 94 x5 3 w fun x25=>
 rL 3 x25 w fun x26=>
 oP (Instr.buildSlice 23 2 #[(0,x24),(1,x26)]) w fun x27 w=>
 R x27 w))
 (rB .eql 3 T0 U0 x12 (iV 3) w fun x29=>
 BR x29
 (rF 94 x5 3 w fun x30=>
 rL 3 x30 w fun x31=>
 oP (Instr.buildSlice 23 1 #[(0,x31)]) w fun x32 w=>
 R x32 w)
 (rB .eql 3 T0 U0 x12 (iV 9) w fun x34=>
 BR x34
 (oP (Instr.buildSlice 23 0 #[]) w fun x35 w=>
 R x35 w)
 (rA a1 (iV 1) w fun x37=>
 oP (Instr.buildSlice 23 1 #[(0,x37)]) w fun x38 w=>
 R x38 w)))
def cfg129:Cfg:=⟨extL,[],[],[],[],[],[]⟩
theorem F129_call {a0 a1:Value} {w:World} {R:VW} (h:F129 a0 a1 w R):cL 129 [a0,a1] w R:=co (g:=cfg129) Tryz.func129 (by kernel_rfl) (by kernel_rfl) (by kernel_rfl) h
def zax (c:DCode) (i:Nat):List Nat:=
 if (zal c i).op=9 then [] else if (zal c i).op=3 then [(zal c i).to.toNat] else if (zal c i).op=2∧(zal c i).to≠(i:Int)+1 then [i+1,(zal c i).to.toNat] else [i+1]
theorem zcj {c:DCode} (hc:CodeR c) {i j:Nat} (hi:i<c.ins.length) (h:j∈zax c i):j<c.ins.length∧zat c j=zat c i:=by
 have h9:=zqh hc (a:=(i:Int)) (by omega) (by omega)
 have hto:=zmM hc (a:=(i:Int)) (by omega) (by omega)
 simp only [Int.toNat_natCast] at h9 hto
 unfold zax at h
 split at h
 · cases h
 rename_i ho
 have h1:=h9 ho
 have e1:((i+1:Nat):Int)=(i:Int)+1:=by omega
 split at h
 · rename_i h3
   simp only [List.mem_cons,List.not_mem_nil,or_false] at h
   subst h
   have h2:=hto (.inr h3)
   rw [Int.toNat_of_nonneg h2.1]
   exact ⟨by omega,h2.2.2⟩
 split at h
 · rename_i h2
   simp only [List.mem_cons,List.not_mem_nil,or_false] at h
   rcases h with rfl | rfl
   · exact ⟨by omega,by rw [e1];exact h1.2⟩
   have h2:=hto (.inl h2.1)
   rw [Int.toNat_of_nonneg h2.1]
   exact ⟨by omega,h2.2.2⟩
 simp only [List.mem_cons,List.not_mem_nil,or_false] at h
 subst h
 exact ⟨by omega,by rw [e1];exact h1.2⟩
theorem zdG (c:DCode) (i:Nat):(zax c i).length≤2:=by
 unfold zax
 split
 · simp
 split
 · simp
 split<;>simp
section
variable {P:Program} {w:World} {K:Value→World→Prop}
def vsI (l:List Int):List Value:=l.map fun x=>.int .i64 x
theorem zlz {w:World}:∀ {l:List Int},(∀ x∈l,I64 x)→Cells [] w (vsI l) l
 | [],_=>⟨rfl,rfl⟩
 | x :: l,h=>⟨[],[],[.int .i64 x],vsI l,rfl,rfl,⟨rfl,rfl,h x (by simp)⟩,zlz fun y hy=>h y (by simp [hy])⟩
theorem ztX {l:List Int} {e:Nat} (hl:∀ x∈l,I64 x) (hm:l.length≤maxLen):Own w.heap.size (w.alloc (.cells (vsI l).toArray e)) (.slice (some ⟨w.heap.size,0,none⟩) l.length l.length) l:=by
 have hB:Blk w.heap.size e (w.alloc (.cells (vsI l).toArray e)) (vsI l):=heap_alloc_new w _
 refine ⟨[w.heap.size],⟨⟨_,⟨some ⟨w.heap.size,0,none⟩,l.length,[],vsI l,rfl,Nat.le_refl _,hm,zlz hl,.inr ⟨_,_,rfl,rfl,hB.range,?_⟩⟩,rfl⟩,by simp,fun i hi=>?_⟩,by simp⟩
 · exact (Array.getElem?_eq_some_iff.1 hB).1
 simp only [List.mem_cons,List.not_mem_nil,or_false] at hi
 subst hi
 exact ⟨_,_,hB⟩
theorem zjv {t e:TypeId} {by_:Nat} {x y:Int} (ht:P.underlying t=some (.slice e)) (he:tyI P e=some (1,by_,false)) (hz:zcm P e=some [.int .i64 0]) (hx:I64 x) (hy:I64 y)
   (k:∀ v w',Ext w w'→Own w.heap.size w' v [x,y]→K v w'):OP P (Instr.buildSlice t 2 #[(0,.int .i64 x),(1,.int .i64 y)]) w K:=by
 unfold zcm at hz
 cases hi:P.info? e with
 | none=>simp [hi] at hz
 | some i=>
   simp only [hi] at hz
   obtain ⟨v,hv,hvc⟩:=Option.map_eq_some_iff.1 hz
   refine ⟨_,w.alloc (.cells (vsI [x,y]).toArray e),?_,k _ _ (zaP w _) (ztX (l:=[x,y]) (e:=e) (by simp [hx,hy]) (by simp [maxLen]))⟩
   have hvc':v.cells=#[.int .i64 0]:=Array.ext' (by simpa using hvc)
   have e1:∀ n:Int,(Value.int .i64 n).cells=#[.int .i64 n]:=fun _=>rfl
   simp only [Instr.buildSlice,Sem.run_bind,run_underlying ht,Result.andThen_ok,zaW he]
   have e2:Array.range 2=#[0,1]:=by decide
   simp [zeroValue,typeInfo,hi,hv,newRow,Instr.fill,hvc',vsI,e1,e2]
end
theorem zvI:zcm Tryz.prog 3=some [.int .i64 0]:=by kernel_rfl
theorem zgv {w W0:World} {b:Nat} {c:DCode} {i:Nat} (hA:At W0 b 0 c) (e0:Ext W0 w) (hc:CodeR c) (hi:i<c.ins.length) :
   CALL Tryz.prog 87 [.pointer (some ⟨b,0,none⟩),.int .i64 (i:Int)] w fun r w'=>Ext w w'∧Own w.heap.size w' r (zaA (zax c i)):=by
 refine F87_call ?_
 unfold F87
 have hil:=hc.f.ins
 have hto:=zmM hc (a:=(i:Int)) (by omega) (by omega)
 simp only [Int.toNat_natCast] at hto
 refine NIL.mk rfl ?_
 refine zaa zbd ?_
 refine zaa zaJ ?_
 refine zac zct (zai hA) e0 fun v10 h10=>?_
 refine zad u29 zcb h10 hi fun b12 o12 h12=>?_
 rw [zaF] at h12
 have hnx:zax c i=if (zal c i).op=9 then [] else if (zal c i).op=3 then [(zal c i).to.toNat] else if (zal c i).op=2∧(zal c i).to≠(i:Int)+1 then [i+1,(zal c i).to.toNat] else [i+1]:=rfl
 generalize zal c i=I at *
 refine zac zcb h12 e0 fun v13 h13=>?_
 refine zbX zmj rfl zcb rfl h13 e0 fun w1 hx1 hA5 hV5=>?_
 refine zaa za6 ?_
 refine zab ty3 (zas hA5) (Ext.refl _) fun _=>?_
 refine zao ?_
 refine br (fun c9=>?_) (fun c9=>?_)
 · rw [hnx,if_pos c9]
   exact ⟨hx1,zmu rfl⟩
 rw [if_neg c9] at hnx
 refine zao ?_
 refine br (fun c3=>?_) (fun c3=>?_)
 · rw [if_pos c3] at hnx
   have ht:=hto (.inr c3)
   refine zaa zdg ?_
   refine zab ty3 (zbv hA5) (Ext.refl _) fun hI=>?_
   refine zb5 (x:=I.to) u23 ty3 z3 (by decide) (zcq hI) fun v w2 hx2 hr=>?_
   refine ⟨hx1.trans hx2,?_⟩
   rw [hnx]
   have e:zaA [I.to.toNat]=[I.to]:=by simp [zaA,Int.toNat_of_nonneg ht.1]
   rw [e]
   have:=hx1.size
   exact hr.own.own.mono (by omega)
 rw [if_neg c3] at hnx
 have e1:zaA [i+1]=[((i+1:Nat):Int)]:=by simp [zaA]
 refine zao ?_
 refine br (fun c2=>?_) (fun c2=>?_)
 · have ht:=hto (.inl c2)
   refine zaa zdg ?_
   refine zab ty3 (zbv hA5) (Ext.refl _) fun hI=>?_
   refine zaf (by omega) ?_
   refine zaI ?_
   refine br (fun cn=>?_) (fun cn=>?_)
   · rw [if_pos ⟨c2,by omega⟩] at hnx
     refine zaf (by omega) ?_
     refine zaa zdg ?_
     refine zab ty3 (zbv hA5) (Ext.refl _) fun _=>?_
     refine zjv u23 ty3 zvI (by unfold I64;omega) hI fun v w2 hx2 hr=>?_
     refine ⟨hx1.trans hx2,?_⟩
     have e:zaA [i+1,I.to.toNat]=[((i+1:Nat):Int),I.to]:=by simp [zaA,Int.toNat_of_nonneg ht.1]
     rw [hnx,e]
     have:=hx1.size
     exact hr.mono (by omega)
   rw [if_neg (fun h=>cn (by have:=h.2;omega))] at hnx
   refine zaf (by omega) ?_
   refine zb5 (x:=((i+1:Nat):Int)) u23 ty3 z3 (by decide) (zcq (by unfold I64;omega)) fun v w2 hx2 hr=>?_
   refine ⟨hx1.trans hx2,?_⟩
   rw [hnx,e1]
   have:=hx1.size
   exact hr.own.own.mono (by omega)
 rw [if_neg (fun h=>c2 h.1)] at hnx
 refine zaf (by omega) ?_
 refine zb5 (x:=((i+1:Nat):Int)) u23 ty3 z3 (by decide) (zcq (by unfold I64;omega)) fun v w2 hx2 hr=>?_
 refine ⟨hx1.trans hx2,?_⟩
 rw [hnx,e1]
 have:=hx1.size
 exact hr.own.own.mono (by omega)
theorem zgW {w W0:World} {v0:Value} {c:DCode} {i:Nat} (h0:Is W0 v0 c) (e0:Ext W0 w) (hc:CodeR c) (hi:i<c.ins.length) :
   CALL Tryz.prog 129 [v0,.int .i64 (i:Int)] w fun r w'=>Ext w w'∧Own w.heap.size w' r (zaA (zax c i)):=by
 refine F129_call ?_
 unfold F129
 have hil:=hc.f.ins
 have hto:=zmM hc (a:=(i:Int)) (by omega) (by omega)
 simp only [Int.toNat_natCast] at hto
 refine zbr h0 e0 fun w0 hx0 hA=>?_
 refine zaa zaJ ?_
 refine zac zct (zai hA) (Ext.refl _) fun v10 h10=>?_
 refine zad u29 zcb h10 hi fun b12 o12 h12=>?_
 rw [zaF] at h12
 have hnx:zax c i=if (zal c i).op=9 then [] else if (zal c i).op=3 then [(zal c i).to.toNat] else if (zal c i).op=2∧(zal c i).to≠(i:Int)+1 then [i+1,(zal c i).to.toNat] else [i+1]:=rfl
 generalize zal c i=I at *
 refine zac zcb h12 (Ext.refl _) fun v13 h13=>?_
 refine zbX zmj rfl zcb rfl h13 (Ext.refl _) fun w1 hx1 hA5 hV5=>?_
 have hs0:=hx0.size
 have hs1:=hx1.size
 have hx01:=hx0.trans hx1
 have e1:zaA [i+1]=[((i+1:Nat):Int)]:=by simp [zaA]
 refine zaa za6 ?_
 refine zab ty3 (zas hA5) (Ext.refl _) fun _=>?_
 refine zao ?_
 refine br (fun c2=>?_) (fun c2=>?_)
 · have ht:=hto (.inl c2)
   rw [if_neg (by omega),if_neg (by omega)] at hnx
   refine zaa zdg ?_
   refine zab ty3 (zbv hA5) (Ext.refl _) fun hI=>?_
   refine zaf (by omega) ?_
   refine zao ?_
   refine br (fun cn=>?_) (fun cn=>?_)
   · rw [if_neg (fun h=>h.2 (by omega))] at hnx
     refine zaf (by omega) ?_
     refine zb5 (x:=((i+1:Nat):Int)) u23 ty3 z3 (by decide) (zcq (by unfold I64;omega)) fun v w2 hx2 hr=>?_
     refine ⟨hx01.trans hx2,?_⟩
     rw [hnx,e1]
     exact hr.own.own.mono (by omega)
   rw [if_pos ⟨c2,by omega⟩] at hnx
   refine zaf (by omega) ?_
   refine zaa zdg ?_
   refine zab ty3 (zbv hA5) (Ext.refl _) fun _=>?_
   refine zjv u23 ty3 zvI (by unfold I64;omega) hI fun v w2 hx2 hr=>?_
   refine ⟨hx01.trans hx2,?_⟩
   have e:zaA [i+1,I.to.toNat]=[((i+1:Nat):Int),I.to]:=by simp [zaA,Int.toNat_of_nonneg ht.1]
   rw [hnx,e]
   exact hr.mono (by omega)
 refine zao ?_
 refine br (fun c3=>?_) (fun c3=>?_)
 · rw [if_neg (by omega),if_pos c3] at hnx
   have ht:=hto (.inr c3)
   refine zaa zdg ?_
   refine zab ty3 (zbv hA5) (Ext.refl _) fun hI=>?_
   refine zb5 (x:=I.to) u23 ty3 z3 (by decide) (zcq hI) fun v w2 hx2 hr=>?_
   refine ⟨hx01.trans hx2,?_⟩
   rw [hnx]
   have e:zaA [I.to.toNat]=[I.to]:=by simp [zaA,Int.toNat_of_nonneg ht.1]
   rw [e]
   exact hr.own.own.mono (by omega)
 refine zao ?_
 refine br (fun c9=>?_) (fun c9=>?_)
 · rw [if_pos c9] at hnx
   rw [hnx]
   refine zaY (α:=Int) u23 ty3 fun a w2 hx2 hr=>?_
   have hs2:=hx2.size
   exact ⟨hx01.trans hx2,hr.own.own.mono (by omega)⟩
 rw [if_neg c9,if_neg c3,if_neg (fun h=>c2 h.1)] at hnx
 refine zaf (by omega) ?_
 refine zb5 (x:=((i+1:Nat):Int)) u23 ty3 z3 (by decide) (zcq (by unfold I64;omega)) fun v w2 hx2 hr=>?_
 refine ⟨hx01.trans hx2,?_⟩
 rw [hnx,e1]
 exact hr.own.own.mono (by omega)
end Go.Proofs.YtbnjpfjjmhodnaaGreatDoor
namespace Go.Sh
open Rep (rep)
section
variable {P:Program} {w w0 w':World} {α:Type} [Rep α] {lo hi e:Nat} {v:Value} {l:List α}
theorem RowG.flat [Flat α] {F:List Nat} (h:RowG F e w v l):F=[]∨∃ b,F=[b]:=by
 rcases h with ⟨_,_,_,rfl⟩ | ⟨xs,Fi,_,hc,rfl,_⟩
 · exact .inl rfl
 have:=Cells.flat (xs:=xs) hc
 subst this
 rcases hv:v.ownBlock with _ | b
 · exact .inl (by simp)
 exact .inr ⟨b,by simp⟩
theorem Chg.ofI {F:List Nat} (h:Chg F w w') (hF:∀ b∈F,lo≤b∧b<hi):ChgI lo hi w w':=
 ⟨h.os,h.tape,h.output,h.size,fun b hb hx=>h.block b hb fun hm=>by have:=hF b hm;omega⟩
theorem ChgI.ext_left {w1:World} (hx:Ext w w1) (h:ChgI lo hi w1 w'):ChgI lo hi w w':=
 ⟨h.os.trans hx.os,h.tape.trans hx.tape,h.output.trans hx.output,Nat.le_trans hx.size h.size,fun b hb ho=>by rw [h.block b (Nat.lt_of_lt_of_le hb hx.size) ho,hx.block b hb]⟩
theorem zcI [Flat α] {t ty:TypeId} {by_:Nat} {u:Value} {x:α} {lo2 hi2:Nat} {K:Value→World→Prop} (ht:P.underlying t=some (.slice e)) (he:tyI P e=some (Rep.size α,by_,Rep.agg α)) (hz:zbm P e=true)
   (hzc:(P.info? e).map (fun i=>(i.zero.map (·.cells.size)))=some (some (Rep.size α))) (hsz:Rep.size α≤1000) (hv:RowI lo hi e w v l) (hx:OwnI lo2 hi2 w u x) (hm:l.length+1≤maxLen) (hb:(l.length+1)*by_≤140737488355328)
   (k:∀ v' w' lo' hi',ChgI lo hi w w'→RowI lo' hi' e w' v' (l++[x])→(lo'=lo∧hi'=hi∨lo'=w.heap.size∧hi'=w'.heap.size)→K v' w'):OP P (Instr.buildSlice t 1 #[(0,u)]) w fun s w1=>OP P (Builtin.append_ #[t,t] ty [v,s].toArray) w1 K:=by
 obtain ⟨F,h1,h2,h3⟩:=zhz.1 hv
 obtain ⟨G,hmx,hG⟩:=hx
 have hGn:G=[]:=by obtain ⟨cs,hr,_⟩:=hmx.own;exact Flat.flat hr
 subst hGn
 refine zgi (K:=fun _=>K) ht he hz hzc hsz h1 h2 hmx (by simp) hm hb (fun w1 v' w' G' hx1 hc hR hN hs=>?_) fun _ _ _ h=>h
 have hcI:=ChgI.ext_left hx1 (hc.ofI h3)
 have hlt:=hR.lt
 rcases hR.flat with rfl | ⟨b,rfl⟩
 · exact k v' w' lo hi hcI (zhz.2 ⟨[],hR,hN,by simp⟩) (.inl ⟨rfl,rfl⟩)
 rcases hs b (by simp) with h | h | h
 · exact k v' w' lo hi hcI (zhz.2 ⟨[b],hR,hN,fun c hc=>by simp at hc;subst hc;exact h3 _ h⟩) (.inl ⟨rfl,rfl⟩)
 · cases h
 exact k v' w' w.heap.size w'.heap.size hcI (zhz.2 ⟨[b],hR,hN,fun c hc=>by simp at hc;subst hc;exact ⟨h,hlt _ (by simp)⟩⟩) (.inr ⟨rfl,rfl⟩)
end
end Go.Sh
namespace Go.Proofs.YtbnjpfjjmhodnaaGreatDoor
open Go Go.Sh Go.Proofs
open Rep (rep)
def F133 (a0 a1:Value) (w:World) (R:VW):Prop:=
 oP (Instr.box 31 a0) w fun x2 w=>
 rF 31 x2 4 w fun x10=>
 rL 29 x10 w fun x11=>
 rN 29 3 x11 w fun x12=>
 oP (Instr.makeSlice 82 x12 x12) w fun x13 w=>
 oP (Instr.buildSlice 23 1 #[(0,a1)]) w fun x15 w=>
 LOOPI [6,7] [x15,(iV 0)] w fun u4 w next4=>
 rN 23 3 (u4 6) w fun x18=>
 rC (u4 7) x18 w fun x19=>
 BR x19
 ((fun w=>rL 31 x2 w fun x22=>
 rX 23 (u4 6) (u4 7) w fun x25=>
 rL 3 x25 w fun x26=>
 cL 129 [x22,x26] w fun x27 w=>
 LOOPI [6,9] [(u4 6),(iV 0)] w fun u8 w next8=>
 rN 23 3 x27 w fun x30=>
 rC (u8 9) x30 w fun x31=>
 BR x31
 (rX 23 x27 (u8 9) w fun x37=>
 rL 3 x37 w fun x38=>
 rX 82 x13 x38 w fun x39=>
 rL 4 x39 w fun x40=>
 rD (Op.unary .not x40) w fun x41=>
 BR x41
 (rX 23 x27 (u8 9) w fun x45=>
 rL 3 x45 w fun x46=>
 rX 82 x13 x46 w fun x47=>
 oS 4 x47 (Value.bool true) w fun w=>
 rX 23 x27 (u8 9) w fun x51=>
 rL 3 x51 w fun x52=>
 oP (Instr.buildSlice 23 1 #[(0,x52)]) w fun x53 w=>
 oP (Builtin.append_ #[23,23] 23 [(u8 6),x53].toArray) w fun x54 w=>
 rA (u8 9) (iV 1) w fun x33=>
 next8 [x54,x33] w)
 (rA (u8 9) (iV 1) w fun x33=>
 next8 [(u8 6),x33] w))
 (rA (u4 7) (iV 1) w fun x21=>
 next4 [(u8 6),x21] w)) (World.drew1 w))
 (R x13 w)
def cfg133:Cfg:=⟨extL,[],[(4,36028797018899392,[6,7]),(8,36028796750529088,[6,9])],[(6,[0,1,2,3,4,5,6],0)],[],[],[]⟩
theorem F133_call {a0 a1:Value} {w:World} {R:VW} (h:F133 a0 a1 w R):cL 133 [a0,a1] w R:=co (g:=cfg133) Tryz.func133 (by kernel_rfl) (by kernel_rfl) (by kernel_rfl) h
def F45 (a0 a1 a2:Value) (w:World) (R:VW):Prop:=
 oP (Instr.buildSlice 23 1 #[(0,a2)]) w fun x11 w=>
 LOOPI [6] [x11] w fun u1 w next1=>
 rN 23 3 (u1 6) w fun x13=>
 rB .gtr 3 T0 U0 x13 (iV 0) w fun x14=>
 BR x14
 (rN 23 3 (u1 6) w fun x17=>
 rB .sub 3 T0 U0 x17 (iV 1) w fun x18=>
 rX 23 (u1 6) x18 w fun x19=>
 rL 3 x19 w fun x20=>
 rN 23 3 (u1 6) w fun x23=>
 rB .sub 3 T0 U0 x23 (iV 1) w fun x24=>
 rD (Instr.sliceAt 23 (u1 6) none (some x24) none) w fun x25=>
 cL 87 [a0,x20] w fun x28 w=>
 rN 23 3 x28 w fun x29=>
 LOOPI [6,30] [x25,(iV 0)] w fun u5 w next5=>
 rC (u5 30) x29 w fun x31=>
 BR x31
 (rX 23 x28 (u5 30) w fun x32=>
 rL 3 x32 w fun x33=>
 rX 82 a1 x33 w fun x36=>
 rL 4 x36 w fun x37=>
 rD (Op.unary .not x37) w fun x38=>
 BR x38
 (rX 82 a1 x33 w fun x41=>
 oS 4 x41 (Value.bool true) w fun w=>
 oP (Instr.buildSlice 23 1 #[(0,x33)]) w fun x44 w=>
 oP (Builtin.append_ #[23,23] 23 [(u5 6),x44].toArray) w fun x45 w=>
 rA (u5 30) (iV 1) w fun x46=>
 next5 [x45,x46] w)
 (rA (u5 30) (iV 1) w fun x46=>
 next5 [(u5 6),x46] w))
 (next1 [(u5 6)] w))
 (R (Value.tuple #[]) w)
def cfg45:Cfg:=⟨extL,[],[(1,140737488351936,[6]),(5,140736414614080,[6,30])],[],[],[],[]⟩
theorem F45_call {a0 a1 a2:Value} {w:World} {R:VW} (h:F45 a0 a1 a2 w R):cL 45 [a0,a1,a2] w R:=co (g:=cfg45) Tryz.func45 (by kernel_rfl) (by kernel_rfl) (by kernel_rfl) h
section
variable {P:Program} {w w':World}
theorem zdT {α:Type} [Rep α] [Flat α] {F:List Nat} {v:Value} {l:List α} (hm:Mine F w v l) (hl:l≠[]):∃ b o cap,v=.slice (some ⟨b,o,none⟩) l.length cap∧F=[b]:=by
 obtain ⟨⟨cs,⟨a,cap,Fi,xs,rfl,h1,h2,hc,h4⟩,rfl⟩,hn,hw⟩:=hm
 rcases h4 with ⟨h4,_⟩ | ⟨b,o,rfl,rfl,hr,hb⟩
 · exact absurd h4 hl
 have hFi:=Cells.flat (xs:=xs) hc
 subst hFi
 exact ⟨b,o,cap,rfl,rfl⟩
theorem za2 {α:Type} [Rep α] [Flat α] (h1:Rep.size α=1) {t by_ m n i:Nat} {l:List α} {y:α} {u:Value} {K:World→Prop} (ht:tyI P t=some (1,by_,Rep.agg α)) (hm:Mine [m] w (.slice (some ⟨m,0,none⟩) n n) l) (hl:l.length=n) (hi:i<n) (hu:Mine [] w u y)
   (k:∀ w',Chg [m] w w'→Mine [m] w' (.slice (some ⟨m,0,none⟩) n n) (l.set i y)→K w'):OPU P (Instr.storeAt t (.pointer (some ⟨m,i*1,none⟩)) u) w K:=by
 obtain ⟨b,a,cap,G,hv,hL⟩:=zuM hm (k:=i) (by omega)
 simp only [Value.slice.injEq,Option.some.injEq,Addr.mk.injEq,and_true] at hv
 obtain ⟨⟨rfl,rfl⟩,_⟩:=hv
 rw [h1,Nat.zero_add] at hL
 refine zdz (y':=y) (by rw [h1];exact ht) hL hu fun w8 F' hc8 hm8 hF8=>?_
 have hF9:F'=[m]:=by
   obtain ⟨b,o,cap,hv,hF2⟩:=zdT hm8 (by intro e;have h:=congrArg List.length e;rw [List.length_set,hl] at h;simp only [List.length_nil] at h;omega)
   subst hF2
   have:=hF8 b (by simp)
   simpa using this
 subst hF9
 exact k w8 hc8 hm8
theorem zbs {α:Type} [Rep α] {t e by_ m n i:Nat} {K:Value→Prop} (h1:Rep.size α=1) (ht:P.underlying t=some (.slice e)) (he:tyI P e=some (1,by_,Rep.agg α)) (hi:i<n) (kk:K (.pointer (some ⟨m,i*1,none⟩))) :
   RD P (Instr.indexAt t (.slice (some ⟨m,0,none⟩) n n) (.int .i64 (i:Int))) w K:=zdy ht he hi kk
end
structure WI (w1 w:World) (m n lo hi:Nat) (tv:Value) (L:List Nat) (ms:List Bool):Prop where
 chg:ChgI m (m+1) w1 w
 row:RowI lo hi 3 w tv (zaA L)
 mks:Mine [m] w (.slice (some ⟨m,0,none⟩) n n) ms
 l0:w1.heap.size≤lo
 m1:m<lo
 h2:lo≤hi
 h3:hi≤w.heap.size
section
variable {w1 w w':World} {m n lo hi:Nat} {tv:Value} {L:List Nat} {ms:List Bool}
theorem WI.step (h:WI w1 w m n lo hi tv L ms) (hx:Ext w w'):WI w1 w' m n lo hi tv L ms:=
 ⟨h.chg.trans hx.toI,h.row.ext hx,h.mks.ext hx,h.l0,h.m1,h.h2,Nat.le_trans h.h3 hx.size⟩
theorem WI.push {tv':Value} {x:Nat} {lo' hi':Nat} (h:WI w1 w m n lo hi tv L ms) (hc:ChgI lo hi w w') (hr:RowI lo' hi' 3 w' tv' (zaA L++[(x:Int)])) (hd:lo'=lo∧hi'=hi∨lo'=w.heap.size∧hi'=w'.heap.size) :
   WI w1 w' m n lo' hi' tv' (L++[x]) ms:=by
 have hs:=hc.size
 have h1:=h.l0
 have h2:=h.h2
 have h3:=h.h3
 have h4:=h.chg.size
 have h5:=h.m1
 have hml:=h.mks.lt m (by simp)
 refine ⟨⟨hc.os.trans h.chg.os,hc.tape.trans h.chg.tape,hc.output.trans h.chg.output,Nat.le_trans h4 hs,fun b hb ho=>(hc.block b (Nat.lt_of_lt_of_le hb h4) (by omega)).trans (h.chg.block b hb ho)⟩,by rw [zbM];exact hr,h.mks.keep fun b hb=>?_,by omega,by omega,by omega,by omega⟩
 simp only [List.mem_cons,List.not_mem_nil,or_false] at hb
 subst hb
 exact hc.block b hml (by omega)
theorem WI.mark {ms':List Bool} (h:WI w1 w m n lo hi tv L ms) (hc:Chg [m] w w') (hm:Mine [m] w' (.slice (some ⟨m,0,none⟩) n n) ms'):WI w1 w' m n lo hi tv L ms':=by
 have hc':ChgI m (m+1) w w':=hc.toI fun b hb=>by simp only [List.mem_cons,List.not_mem_nil,or_false] at hb;omega
 have h5:=h.m1
 exact ⟨h.chg.trans hc',h.row.chg hc' (by omega),hm,h.l0,h5,h.h2,Nat.le_trans h.h3 hc'.size⟩
end
theorem zuB:zcm Tryz.prog 4=some [.bool false]:=by kernel_rfl
theorem zb4 {w:World} {x:Int} (lo hi:Nat) (h:I64 x):OwnI lo hi w (.int .i64 x) x:=⟨[],zcq h,by simp⟩
theorem zbh {w:World} {b:Bool}:Mine [] w (.bool b) b:=⟨⟨[.bool b],⟨rfl,rfl⟩,rfl⟩,List.nodup_nil,Wr.nil w⟩
theorem zhl {w W0:World} {v0:Value} {c:DCode} {a:Nat} (h0:Is W0 v0 c) (e0:Ext W0 w) (hc:CodeR c) (ha:a<c.ins.length) :
   CALL Tryz.prog 133 [v0,.int .i64 (a:Int)] w fun r w'=>Ext w w'∧∃ m,r=.slice (some ⟨m,0,none⟩) c.ins.length c.ins.length∧w.heap.size≤m∧Mine [m] w' (.slice (some ⟨m,0,none⟩) c.ins.length c.ins.length) (zbl c.ins.length (RP (zax c) a)):=by
 refine F133_call ?_
 unfold F133
 have hil:=hc.f.ins
 have hnl:=fun {i j:Nat}=>zcj hc (i:=i) (j:=j)
 refine zbr h0 e0 fun w1 hx1 hA=>?_
 refine zaa zaJ ?_
 refine zac zct (zai hA) (Ext.refl _) fun v11 h11=>?_
 refine zag u29 h11 ?_
 generalize hn:c.ins.length=n at *
 refine zfj (α:=Bool) u82 ty4 rfl rfl zuB (by omega) (by omega) fun w2 hx2 hr2=>?_
 have hs1:=hx1.size
 have hs2:=hx2.size
 have hM2:Mine [w1.heap.size] w2 (.slice (some ⟨w1.heap.size,0,none⟩) n n) (List.replicate n (RepZ.zv:Bool)):=by
   obtain ⟨F,hM,hF⟩:=hr2.own
   obtain ⟨b,o,cap,hv,hF2⟩:=zdT hM (by intro e;have:=congrArg List.length e;simp at this;omega)
   simp only [Value.slice.injEq,Option.some.injEq,Addr.mk.injEq,List.cons.injEq,and_true] at hv
   obtain ⟨⟨hb,ho⟩,_⟩:=hv
   rw [←hb] at hF2
   rwa [hF2] at hM
 have hzz:(List.replicate n (RepZ.zv:Bool))=List.replicate n false:=rfl
 rw [hzz] at hM2
 refine zb5 (x:=(a:Int)) u23 ty3 z3 (by decide) (zcq (by unfold I64;omega)) fun v15 w3 hx3 hr3=>?_
 have hs3:=hx3.size
 generalize hm:w1.heap.size=m at *
 have hW3:WI w1 w3 m n w2.heap.size w3.heap.size v15 [a] (List.replicate n false):=⟨(hx2.trans hx3).toI,hr3,hM2.ext hx3,by omega,by have:=hM2.lt m (by simp);omega,hs3,Nat.le_refl _⟩
 refine zaq (1+n) (fun h us w'=>∃ (tv:Value) (lo hi:Nat) (L:List Nat) (ms:List Bool),us=[tv,.int .i64 (h:Int)]∧h≤L.length∧WI w1 w' m n lo hi tv L ms∧SInv (zax c) n a (List.replicate n false) ms (L.drop h) h) 0 (Nat.zero_le _) ⟨v15,_,_,[a],_,rfl,by simp,hW3,SInv.start (by simp) ha⟩ ?_
 rintro h mk u w4 hkm ⟨tv,lo,hi,L,ms,hu,hhL,hW4,hS4⟩
 obtain ⟨hu1,hu2⟩:=zb1 hu
 rw [hu1,hu2]
 have hb4:=hS4.bound
 rw [List.length_drop] at hb4
 refine zag u23 hW4.row.is ?_
 rw [zae]
 refine zah ?_
 refine br (fun hlt=>?_) (fun hge=>?_)
 case refine_2=>
   have hhe:h=L.length:=by omega
   rw [hhe,List.drop_length] at hS4
   have hfin:=hS4.fin fun i hi=>absurd hi zbj
   have hms:ms=zbl n (RP (zax c) a):=zbH hS4.len fun i hi=>by
     rw [hfin i]
     exact ⟨fun h=>h.resolve_left zbj,.inr⟩
   rw [←hms]
   have hx4:Ext w1 w4:=(Ext.refl w1).chgI hW4.chg (by omega)
   exact ⟨hx1.trans hx4,m,rfl,by omega,hW4.mks⟩
 have hh:h<L.length:=by omega
 have hx5:=zak w4
 have hW5:=hW4.step hx5
 generalize World.drew1 w4=w5 at *
 have hxa:∀ {w:World} {lo hi tv L ms},WI w1 w m n lo hi tv L ms→Ext w1 w:=fun h=>(Ext.refl w1).chgI h.chg (by omega)
 refine zac zbt hA (hxa hW5) fun v22 h22=>?_
 refine zad u23 ty3 (i:=h) hW5.row.is (by rw [zae];exact hh) fun b1 o1 hA1=>?_
 rw [zaL] at hA1
 refine zab ty3 hA1 (Ext.refl _) fun _=>?_
 generalize hx:L[h]=x at *
 have hdr:L.drop h=x :: L.drop (h+1):=by rw [List.drop_eq_getElem_cons hh,hx]
 have hxn:x<n:=(hS4.tdo x (by rw [hdr];simp)).2
 refine (zgW h22 (hxa hW5) hc (by rw [hn];exact hxn)).mono ?_
 rintro v27 w6 ⟨hx6,ho6⟩
 have hW6:=hW5.step hx6
 have hI6:=hW5.h3
 have hm6:=hW5.mks.lt m (by simp)
 have hS6:SIn2 (zax c) n a (List.replicate n false) ms (L.drop (h+1)) h x 0:=hS4.pop (fun i=>by rw [hdr];simp [or_comm]) (by rw [hdr];simp)
 have hl2:=zdG c x
 refine zaq (zax c x).length (fun q us w'=>∃ (tv:Value) (lo hi:Nat) (L:List Nat) (ms:List Bool),us=[tv,.int .i64 (q:Int)]∧q≤(zax c x).length∧h<L.length∧WI w1 w' m n lo hi tv L ms∧SIn2 (zax c) n a (List.replicate n false) ms (L.drop (h+1)) h x q∧OwnI w5.heap.size w6.heap.size w' v27 (zaA (zax c x))∧(hi≤w5.heap.size∨w6.heap.size≤lo)∧w6.heap.size≤w'.heap.size) 0 (Nat.zero_le _) ⟨tv,lo,hi,L,ms,rfl,Nat.zero_le _,hh,hW6,hS6,ho6.toI,.inl hI6,Nat.le_refl _⟩ ?_
 rintro q mk8 u8 w7 hkm8 ⟨tv7,lo7,hi7,L7,ms7,hu8,hql,hh7,hW7,hS7,ho7,hd7,hz7⟩
 obtain ⟨hu81,hu82⟩:=zb1 hu8
 rw [hu81,hu82]
 refine zag u23 ho7.is ?_
 rw [zae]
 refine zah ?_
 refine br (fun hlt8=>?_) (fun hge8=>?_)
 case refine_2=>
   refine zaf (by omega) ?_
   exact ⟨mk-1,by omega,h+1,by omega,tv7,lo7,hi7,L7,ms7,rfl,by omega,hW7,hS7.done (by omega)⟩
 have hq:q<(zax c x).length:=by omega
 have hrd:∀ {w:World} {K:Value→Prop} (ho:OwnI w5.heap.size w6.heap.size w v27 (zaA (zax c x))) (k:K (.int .i64 (((zax c x)[q]:Nat):Int))),RD Tryz.prog (Instr.indexAt 23 v27 (.int .i64 (q:Int))) w fun x37=>RD Tryz.prog (Instr.loadAt 3 x37) w K:=fun ho k=>by
   refine zad u23 ty3 (i:=q) ho.is (by rw [zae];exact hq) fun b1 o1 hA1=>?_
   rw [zaL] at hA1
   exact zab ty3 hA1 (Ext.refl _) fun _=>k
 have hy:=hnl hxn (List.getElem_mem hq)
 refine hrd ho7 ?_
 have hlen7:=hS7.len
 refine zad u82 ty4 hW7.mks.is (by rw [hlen7];exact hy.1) fun b2 o2 hA2=>?_
 refine zaw ty4 hA2 (Ext.refl _) ?_
 refine zaV ?_
 have hmk7:=zaM (ms:=ms7) (i:=(zax c x)[q]) (by rw [hlen7];exact hy.1)
 refine zbw (fun hf=>?_) (fun hf=>?_)
 · have hnm:¬mkd ms7 (zax c x)[q]:=by rw [hmk7];simpa using hf
   refine hrd ho7 ?_
   refine zbs (α:=Bool) rfl u82 ty4 hy.1 ?_
   refine za2 (α:=Bool) rfl ty4 hW7.mks hlen7 hy.1 zbh fun w8 hc8 hm8=>?_
   have hW8:=hW7.mark hc8 hm8
   have hc8':ChgI m (m+1) w7 w8:=hc8.toI fun b hb=>by simp only [List.mem_cons,List.not_mem_nil,or_false] at hb;omega
   have ho8:=ho7.chg hc8' (by omega)
   refine hrd ho8 ?_
   have hS8:=hS7.push hq hy.1 hnm
   generalize (zax c x)[q]=y at *
   have hLb:L7.length≤2+n:=by
     have h1:=hS7.cnt
     have h2:=ze6 ms7
     rw [List.length_drop] at h1
     omega
   refine zcI (x:=(y:Int)) u23 ty3 z3 zc3 (by decide) hW8.row (zb4 0 0 (by unfold I64;omega)) (by rw [zan,zae];omega) (by rw [zae];omega) fun v54 w9 lo9 hi9 hc9 hr9 hd9=>?_
   have hW9:=hW8.push hc9 hr9 hd9
   have hsz8:=hc8'.size
   have hsz7:=ho7.is
   refine zaf (by omega) ?_
   refine ⟨mk8-1,by omega,q+1,by omega,v54,lo9,hi9,L7++[y],_,rfl,by omega,by simp;omega,hW9,?_,ho8.chg hc9 (by omega),by omega,by have:=hc9.size;omega⟩
   rw [List.drop_append_of_le_length (by omega)]
   exact hS8
 have hnm:mkd ms7 (zax c x)[q]:=by rw [hmk7];simpa using hf
 refine zaf (by omega) ?_
 exact ⟨mk8-1,by omega,q+1,by omega,tv7,lo7,hi7,L7,ms7,rfl,by omega,hh7,hW7,hS7.skip hq hnm,ho7,hd7,hz7⟩
section
variable {P:Program} {w:World} {α:Type} [Rep α] [Flat α] {lo hi e:Nat} {v:Value} {l:List α}
theorem ztY {t e b o n cap k by_:Nat} {K:Value→Prop} (ht:P.underlying t=some (.slice e)) (he:tyI P e=some (Rep.size α,by_,Rep.agg α)) (hk:k≤n) (hn:n≤cap) (kk:K (.slice (some ⟨b,o,none⟩) k cap)) :
   RD P (Instr.sliceAt t (.slice (some ⟨b,o,none⟩) n cap) none (some (.int .i64 (k:Int))) none) w K:=by
 refine za0 (fun w' _=>?_) kk
 have hbd:(Instr.sliceBounds true n cap none (some (.int .i64 (k:Int))) none).run P w'=.ok (0,k,cap) w':=by
   have h5:(k:Int)≤(cap:Int):=by omega
   simp [Instr.sliceBounds,Instr.sliceBound,asIntOf,h5]
   intro h6
   omega
 simp only [Instr.sliceAt,Instr.slice,Sem.run_bind,run_underlying ht,Result.andThen_ok,hbd,zaW he]
 simp [Addr.add_mid]
theorem zr5 (h:RowI lo hi e w v l) (hl:l≠[]) {k:Nat} (hk:k≤l.length):∃ g cap,v=.slice (some ⟨g,0,none⟩) l.length cap∧l.length≤cap∧RowI lo hi e w (.slice (some ⟨g,0,none⟩) k cap) (l.take k):=by
 rcases h with ⟨a,_,h⟩ | ⟨F,⟨xs,Fi,⟨hlen,ho⟩,hc,hF,hw⟩,hn,hb⟩
 · exact absurd h hl
 rcases ho with ⟨_,h0⟩ | ⟨g,cap,cur,rfl,_,hg,h1,h2,h3,h4⟩
 · exact absurd (List.eq_nil_of_length_eq_zero h0) hl
 refine ⟨g,cap,rfl,h1,.inr ⟨F,⟨xs.take (k*Rep.size α),[],⟨?_,.inr ⟨g,cap,cur,?_,Nat.zero_le _,hg,by rw [List.length_take];omega,h2,h3,?_⟩⟩,?_,?_,Wr.nil w⟩,hn,hb⟩⟩
 · rw [List.length_take,List.length_take,hlen,Nat.min_eq_left hk]
   exact Nat.min_eq_left (Nat.mul_le_mul_right _ hk)
 · rw [List.length_take,Nat.min_eq_left hk]
 · rw [List.length_take,Nat.min_eq_left hk,←h4,List.take_take,Nat.min_eq_left (Nat.mul_le_mul_right _ hk)]
 · have e1:l=l.take k++l.drop k:=by simp
   have hFi:=Cells.flat (xs:=xs) hc
   subst hFi
   rw [e1] at hc
   obtain ⟨F1,F2,x1,x2,hF12,hx12,c1,c2⟩:=Cells.split hc
   have hF1:=Cells.flat (xs:=x1) c1
   subst hF1
   have hl1:=Cells.len c1
   rw [List.length_take,Nat.min_eq_left hk] at hl1
   rw [hx12,List.take_left' hl1]
   exact c1
 have hFi:=Cells.flat (xs:=xs) hc
 subst hFi
 rw [hF];rfl
end
theorem zmN {w W0:World} {v0:Value} {c:DCode} {a:Nat} (h0:Is W0 v0 c) (e0:Ext W0 w) (hc:CodeR c) (ha:a<c.ins.length) :
   CALL Tryz.prog 133 [v0,.int .i64 (a:Int)] w fun r w'=>Ext w w'∧Own w.heap.size w' r (zbl c.ins.length (RP (zax c) a)):=
 (zhl h0 e0 hc ha).mono fun r w' ⟨hx,m,hr,hm,hM⟩=>⟨hx,[m],by rw [hr];exact hM,fun b hb=>by simp only [List.mem_cons,List.not_mem_nil,or_false] at hb;omega⟩
def KAt (W0 w:World) (b:Nat) (c:DCode):Prop:=∃ F cs,Rep.rep F W0 cs c∧w.rangeAt b 0 cs∧b<w.heap.size
theorem KAt.at {W0 w:World} {b:Nat} {c:DCode} (h:KAt W0 w b c) (hx:Ext W0 w):At w b 0 c:=by
 obtain ⟨F,cs,hr,hc,_⟩:=h
 exact ⟨F,cs,zbZ hr hx,hc⟩
theorem KAt.keep {W0 w w':World} {b:Nat} {c:DCode} (h:KAt W0 w b c) (hb:w'.heap[b]?=w.heap[b]?) (hs:w.heap.size≤w'.heap.size):KAt W0 w' b c:=by
 obtain ⟨F,cs,hr,hc,hl⟩:=h
 exact ⟨F,cs,hr,zcv hc hb,by omega⟩
theorem KAt.lt {W0 w:World} {b:Nat} {c:DCode} (h:KAt W0 w b c):b<w.heap.size:=by obtain ⟨_,_,_,_,h⟩:=h;exact h
theorem zlA {w W0:World} {b m n a:Nat} {c:DCode} {ms0:List Bool} (hk:KAt W0 w b c) (e0:Ext W0 w) (hc:CodeR c) (hn:c.ins.length=n) (ha:a<n) (hM:Mine [m] w (.slice (some ⟨m,0,none⟩) n n) ms0) (hl:ms0.length=n) (h0:W0.heap.size≤m) (hb:b≠m)
   (hclo:∀ i,mkd ms0 i→i≠a→∀ j∈zax c i,mkd ms0 j) :
   CALL Tryz.prog 45 [.pointer (some ⟨b,0,none⟩),.slice (some ⟨m,0,none⟩) n n,.int .i64 (a:Int)] w fun r w'=>r=.tuple #[]∧ChgI m (m+1) w w'∧Mine [m] w' (.slice (some ⟨m,0,none⟩) n n) (zbl n fun i=>mkd ms0 i∨RP (zax c) a i):=by
 refine F45_call ?_
 unfold F45
 have hil:=hc.f.ins
 have hnl:=fun {i j:Nat}=>zcj hc (i:=i) (j:=j)
 rw [hn] at hnl hil
 refine zb5 (x:=(a:Int)) u23 ty3 z3 (by decide) (zcq (by unfold I64;omega)) fun v11 w1 hx1 hr1=>?_
 have hW1:WI w w1 m n w.heap.size w1.heap.size v11 [a] ms0:=⟨hx1.toI,hr1,hM.ext hx1,Nat.le_refl _,hM.lt m (by simp),hx1.size,Nat.le_refl _⟩
 have hKA:∀ {w':World} {lo hi tv L ms},WI w w' m n lo hi tv L ms→At w' b 0 c:=fun h=>(hk.keep (h.chg.block b hk.lt (by omega)) h.chg.size).at (e0.chgI h.chg h0)
 refine zaq (1+n) (fun h us w'=>∃ (tv:Value) (lo hi:Nat) (L:List Nat) (ms:List Bool),us=[tv]∧WI w w' m n lo hi tv L ms∧SInv (zax c) n a ms0 ms L h) 0 (Nat.zero_le _) ⟨v11,_,_,[a],_,rfl,hW1,SInv.start hl ha⟩ ?_
 rintro h mk u w4 hkm ⟨tv,lo,hi,L,ms,hu,hW4,hS4⟩
 simp only [List.map_cons,List.map_nil,List.cons.injEq,and_true] at hu
 rw [hu]
 have hb4:=hS4.bound
 refine zag u23 hW4.row.is ?_
 rw [zae]
 refine zcQ ?_
 refine br (fun hlt=>?_) (fun hge=>?_)
 case refine_2=>
   have hL0:L=[]:=List.eq_nil_of_length_eq_zero (by omega)
   rw [hL0] at hS4
   have hfin:=hS4.fin hclo
   have hms:ms=zbl n (fun i=>mkd ms0 i∨RP (zax c) a i):=zbH hS4.len fun i hi=>hfin i
   rw [←hms]
   exact ⟨rfl,hW4.chg,hW4.mks⟩
 obtain ⟨z,hz⟩:∃ z,L.length=z+1:=⟨L.length-1,by omega⟩
 have hzl:z<L.length:=by omega
 have hne:zaA L≠[]:=fun e=>by have:=congrArg List.length e;rw [zae,hz] at this;cases this
 refine zag u23 hW4.row.is ?_
 rw [zae]
 refine zbf (by unfold I64;omega) ?_
 have ez:(L.length:Int)-1=(z:Int):=by omega
 rw [ez]
 refine zad u23 ty3 (i:=z) hW4.row.is (by rw [zae];exact hzl) fun b1 o1 hA1=>?_
 rw [zaL] at hA1
 refine zab ty3 hA1 (Ext.refl _) fun _=>?_
 generalize hx:L[z]=x at *
 refine zag u23 hW4.row.is ?_
 rw [zae]
 refine zbf (by unfold I64;omega) ?_
 rw [ez]
 obtain ⟨g,cap,hv4,hcap,hr4⟩:=zr5 hW4.row hne (k:=z) (by rw [zae];omega)
 rw [zae] at hv4 hcap
 rw [hv4]
 refine ztY (α:=Int) u23 ty3 (by omega) hcap ?_
 have hLz:L=L.take z++[x]:=by
   have:=List.take_succ_eq_append_getElem hzl
   rw [←hz,List.take_length,hx] at this
   exact this
 rw [←zqj] at hr4
 have hW5:WI w w4 m n lo hi (.slice (some ⟨g,0,none⟩) z cap) (L.take z) ms:=⟨hW4.chg,hr4,hW4.mks,hW4.l0,hW4.m1,hW4.h2,hW4.h3⟩
 have hxn:x<n:=(hS4.tdo x (by rw [hLz];simp)).2
 refine (zgv (hKA hW5) (Ext.refl _) hc (by rw [hn];exact hxn)).mono ?_
 rintro v27 w6 ⟨hx6,ho6⟩
 have hW6:=hW5.step hx6
 have hI6:=hW5.h3
 have hm6:=hW5.mks.lt m (by simp)
 have hLm:∀ i,i∈L↔i∈L.take z∨i=x:=fun i=>by
   have:i∈L↔i∈L.take z++[x]:=by rw [←hLz]
   rw [this];simp
 have hS6:SIn2 (zax c) n a ms0 ms (L.take z) h x 0:=hS4.pop hLm (by rw [List.length_take];omega)
 have hl2:=zdG c x
 refine zag u23 ho6.is ?_
 rw [zae]
 refine zaq (zax c x).length (fun q us w'=>∃ (tv:Value) (lo hi:Nat) (L:List Nat) (ms:List Bool),us=[tv,.int .i64 (q:Int)]∧q≤(zax c x).length∧WI w w' m n lo hi tv L ms∧SIn2 (zax c) n a ms0 ms L h x q∧OwnI w4.heap.size w6.heap.size w' v27 (zaA (zax c x))∧(hi≤w4.heap.size∨w6.heap.size≤lo)∧w6.heap.size≤w'.heap.size) 0 (Nat.zero_le _) ⟨_,lo,hi,_,ms,rfl,Nat.zero_le _,hW6,hS6,ho6.toI,.inl hI6,Nat.le_refl _⟩ ?_
 rintro q mk8 u8 w7 hkm8 ⟨tv7,lo7,hi7,L7,ms7,hu8,hql,hW7,hS7,ho7,hd7,hz7⟩
 obtain ⟨hu81,hu82⟩:=zb1 hu8
 rw [hu81,hu82]
 refine zah ?_
 refine br (fun hlt8=>?_) (fun hge8=>?_)
 case refine_2=>
   exact ⟨mk-1,by omega,h+1,by omega,tv7,lo7,hi7,L7,ms7,rfl,hW7,hS7.done (by omega)⟩
 have hq:q<(zax c x).length:=by omega
 have hy:=hnl hxn (List.getElem_mem hq)
 refine zad u23 ty3 (i:=q) ho7.is (by rw [zae];exact hq) fun b3 o3 hA3=>?_
 rw [zaL] at hA3
 refine zab ty3 hA3 (Ext.refl _) fun _=>?_
 have hlen7:=hS7.len
 refine zad u82 ty4 hW7.mks.is (by rw [hlen7];exact hy.1) fun b2 o2 hA2=>?_
 refine zaw ty4 hA2 (Ext.refl _) ?_
 refine zaV ?_
 have hmk7:=zaM (ms:=ms7) (i:=(zax c x)[q]) (by rw [hlen7];exact hy.1)
 refine zbw (fun hf=>?_) (fun hf=>?_)
 · have hnm:¬mkd ms7 (zax c x)[q]:=by rw [hmk7];simpa using hf
   refine zbs (α:=Bool) rfl u82 ty4 hy.1 ?_
   refine za2 (α:=Bool) rfl ty4 hW7.mks hlen7 hy.1 zbh fun w8 hc8 hm8=>?_
   have hW8:=hW7.mark hc8 hm8
   have hc8':ChgI m (m+1) w7 w8:=hc8.toI fun b hb=>by simp only [List.mem_cons,List.not_mem_nil,or_false] at hb;omega
   have ho8:=ho7.chg hc8' (by omega)
   have hS8:=hS7.push hq hy.1 hnm
   generalize (zax c x)[q]=y at *
   have hLb:L7.length≤2+n:=by
     have h1:=hS7.cnt
     have h2:=ze6 ms7
     omega
   refine zcI (x:=(y:Int)) u23 ty3 z3 zc3 (by decide) hW8.row (zb4 0 0 (by unfold I64;omega)) (by rw [zan,zae];omega) (by rw [zae];omega) fun v54 w9 lo9 hi9 hc9 hr9 hd9=>?_
   have hW9:=hW8.push hc9 hr9 hd9
   have hsz8:=hc8'.size
   refine zaf (by omega) ?_
   exact ⟨mk8-1,by omega,q+1,by omega,v54,lo9,hi9,L7++[y],_,rfl,by omega,hW9,hS8,ho8.chg hc9 (by omega),by omega,by have:=hc9.size;omega⟩
 have hnm:mkd ms7 (zax c x)[q]:=by rw [hmk7];simpa using hf
 refine zaf (by omega) ?_
 exact ⟨mk8-1,by omega,q+1,by omega,tv7,lo7,hi7,L7,ms7,rfl,by omega,hW7,hS7.skip hq hnm,ho7,hd7,hz7⟩
def F125 (a0:Value) (w:World) (R:VW):Prop:=
 oP (Instr.buildSlice 23 0 #[]) w fun x5 w=>
 LOOPI [3,4] [x5,(iV 0)] w fun u3 w next3=>
 rN 82 3 a0 w fun x8=>
 rC (u3 4) x8 w fun x9=>
 BR x9
 (rX 82 a0 (u3 4) w fun x14=>
 rL 4 x14 w fun x15=>
 BR x15
 (oP (Instr.buildSlice 23 1 #[(0,(u3 4))]) w fun x18 w=>
 oP (Builtin.append_ #[23,23] 23 [(u3 3),x18].toArray) w fun x19 w=>
 rA (u3 4) (iV 1) w fun x11=>
 next3 [x19,x11] w)
 (rA (u3 4) (iV 1) w fun x11=>
 next3 [(u3 3),x11] w))
 (R (u3 3) w)
def cfg125:Cfg:=⟨extL,[],[(3,1048536,[3,4])],[],[],[],[]⟩
theorem F125_call {a0:Value} {w:World} {R:VW} (h:F125 a0 w R):cL 125 [a0] w R:=co (g:=cfg125) Tryz.func125 (by kernel_rfl) (by kernel_rfl) (by kernel_rfl) h
def F173 (a0 a1:Value) (w:World) (R:VW):Prop:=
 oP (Instr.box 31 a0) w fun x2 w=>
 (fun w=>rL 31 x2 w fun x6=>
 rF 31 x2 3 w fun x7=>
 rL 23 x7 w fun x8=>
 rX 23 x8 a1 w fun x10=>
 rL 3 x10 w fun x11=>
 cL 133 [x6,x11] w fun x12 w=>
 rF 31 x2 3 w fun x14=>
 rL 23 x14 w fun x15=>
 rX 23 x15 a1 w fun x17=>
 rL 3 x17 w fun x18=>
 rX 82 x12 x18 w fun x19=>
 oS 4 x19 (Value.bool true) w fun w=>
 R x12 w) (World.drew1 w)
def cfg173:Cfg:=⟨extL,[],[],[(1,[0,1,2,3,4,5,6,7],0)],[],[],[]⟩
theorem F173_call {a0 a1:Value} {w:World} {R:VW} (h:F173 a0 a1 w R):cL 173 [a0,a1] w R:=co (g:=cfg173) Tryz.func173 (by kernel_rfl) (by kernel_rfl) (by kernel_rfl) h
def F131 (a0 a1 a2:Value) (w:World) (R:VW):Prop:=
 oP (Instr.box 31 a0) w fun x3 w=>
 rL 31 x3 w fun x10=>
 cL 173 [x10,a1] w fun x12 w=>
 rF 31 x3 2 w fun x13=>
 rL 22 x13 w fun x14=>
 rN 22 3 x14 w fun x15=>
 oP (Instr.makeSlice 82 x15 x15) w fun x16 w=>
 LOOPI [9] [(iV 0)] w fun u4 w next4=>
 rF 31 x3 4 w fun x18=>
 rL 29 x18 w fun x19=>
 rN 29 3 x19 w fun x20=>
 rC (u4 9) x20 w fun x21=>
 BR x21
 (rX 82 x12 (u4 9) w fun x26=>
 rL 4 x26 w fun x27=>
 BR x27
 (rF 31 x3 4 w fun x29=>
 rL 29 x29 w fun x30=>
 rX 29 x30 (u4 9) w fun x32=>
 rF 94 x32 0 w fun x33=>
 rL 3 x33 w fun x34=>
 rB .eql 3 T0 T0 x34 a2 w fun x36=>
 BR x36
 (rF 31 x3 4 w fun x39=>
 rL 29 x39 w fun x40=>
 rX 29 x40 (u4 9) w fun x42=>
 rF 94 x42 1 w fun x43=>
 rL 3 x43 w fun x44=>
 rX 82 x16 x44 w fun x45=>
 oS 4 x45 (Value.bool true) w fun w=>
 rA (u4 9) (iV 1) w fun x23=>
 next4 [x23] w)
 (rA (u4 9) (iV 1) w fun x23=>
 next4 [x23] w))
 (rA (u4 9) (iV 1) w fun x23=>
 next4 [x23] w))
 (cL 125 [x16] w fun x47 w=>
 R x47 w)
def cfg131:Cfg:=⟨extL,[],[(4,70368744047104,[9])],[],[],[],[]⟩
theorem F131_call {a0 a1 a2:Value} {w:World} {R:VW} (h:F131 a0 a1 a2 w R):cL 131 [a0,a1,a2] w R:=co (g:=cfg131) Tryz.func131 (by kernel_rfl) (by kernel_rfl) (by kernel_rfl) h
def zr6 (ms:List Bool) (n:Nat):List Nat:=(List.range n).filter fun i=>ms.getD i false
theorem zgw (ms:List Bool) (n:Nat):zr6 ms (n+1)=zr6 ms n++(if ms.getD n false then [n] else []):=by
 simp only [zr6,List.range_succ,List.filter_append,List.filter_cons,List.filter_nil]
theorem znM (ms:List Bool) (n:Nat):(zr6 ms n).length≤n:=Nat.le_trans (List.length_filter_le _ _) (by simp)
theorem ze7 (n:Nat) (p:Nat→Prop):zr6 (zbl n p) n=zaS n p:=by
 refine List.filter_congr fun i hi=>?_
 have hi':=List.mem_range.1 hi
 have:=zaB (n:=n) (p:=p) (i:=i)
 unfold mkd at this
 by_cases h:p i
 · rw [this.2 ⟨hi',h⟩];simp [h]
 have h2:(zbl n p).getD i false≠true:=fun e=>h (this.1 e).2
 simp only [h,decide_false]
 cases hh:(zbl n p).getD i false
 · rfl
 exact absurd hh h2
theorem zdU {w W0:World} {v0:Value} {ms:List Bool} (h0:Is W0 v0 ms) (e0:Ext W0 w) (hn:ms.length≤1000000) :
   CALL Tryz.prog 125 [v0] w fun r w'=>Ext w w'∧Own w.heap.size w' r (zaA (zr6 ms ms.length)):=by
 refine F125_call ?_
 unfold F125
 refine zaY (α:=Int) u23 ty3 fun a w1 hx1 hr1=>?_
 have hs1:=hx1.size
 refine zaq ms.length (fun k us w'=>∃ (v:Value),us=[v,.int .i64 (k:Int)]∧k≤ms.length∧Ext w w'∧RowI w.heap.size w'.heap.size 3 w' v (zaA (zr6 ms k))) 0 (Nat.zero_le _) ⟨_,rfl,Nat.zero_le _,hx1,hr1.mono hs1 (Nat.le_refl _)⟩ ?_
 rintro k mk u w2 hkm ⟨v,hu,hkl,hx2,hr2⟩
 obtain ⟨hu1,hu2⟩:=zb1 hu
 rw [hu1,hu2]
 refine zag u82 h0 ?_
 refine zah ?_
 refine br (fun hlt=>?_) (fun hge=>?_)
 case refine_2=>
   have:k=ms.length:=by omega
   rw [this] at hr2
   exact ⟨hx2,hr2.own.own⟩
 have hk:k<ms.length:=by omega
 have hs2:=hx2.size
 have hg:ms.getD k false=ms[k]:=by rw [List.getD_eq_getElem?_getD,List.getElem?_eq_getElem hk];rfl
 have hil:=znM ms k
 refine zad u82 ty4 h0 hk fun b2 o2 hA2=>?_
 refine zaw ty4 hA2 (e0.trans hx2) ?_
 refine zbw (fun hf=>?_) (fun hf=>?_)
 · refine zbK (lo2:=w2.heap.size) (hi2:=w2.heap.size) (x:=(k:Int)) u23 ty3 z3 zc3 (by decide) hr2 hs2 (zb4 _ _ (by unfold I64;omega)) (Nat.le_refl _) hs2 (by rw [zan,zae];omega) (by rw [zae];omega) fun v54 w9 hc9 hr9=>?_
   refine zaf (by omega) ?_
   refine ⟨mk-1,by omega,k+1,by omega,v54,rfl,by omega,hx2.chgI hc9 (Nat.le_refl _),?_⟩
   rw [zgw,hg,hf,if_pos rfl,zbM]
   exact hr9
 refine zaf (by omega) ?_
 refine ⟨mk-1,by omega,k+1,by omega,v,rfl,by omega,hx2,?_⟩
 rw [zgw,hg,hf]
 simpa using hr2
def zaC (c:DCode) (p:Nat) (i:Nat):Prop:=i=(en c p).toNat∨RP (zax c) (en c p).toNat i
theorem zec {w W0:World} {v0:Value} {c:DCode} {p:Nat} (h0:Is W0 v0 c) (e0:Ext W0 w) (hc:CodeR c) (hp:p<c.entry.length) :
   CALL Tryz.prog 173 [v0,.int .i64 (p:Int)] w fun r w'=>Ext w w'∧Own w.heap.size w' r (zbl c.ins.length (zaC c p)):=by
 refine F173_call ?_
 unfold F173
 have hen:=zqi hc hp
 refine zbr h0 e0 fun w1 hx1 hA=>?_
 have hx2:=zak w1
 generalize World.drew1 w1=w2 at *
 have hs1:=hx1.size
 have hs2:=hx2.size
 obtain ⟨a,hae⟩:∃ a:Nat,en c p=(a:Int):=⟨(en c p).toNat,by omega⟩
 have hla:zaC c p=fun i=>i=a∨RP (zax c) a i:=by
   funext i;unfold zaC;rw [hae];rfl
 have ha:a<c.ins.length:=by omega
 rw [hla]
 refine zac zbt hA hx2 fun v6 h6=>?_
 refine zaa za1 ?_
 refine zac zbE (zap hA) hx2 fun v8 h8=>?_
 refine zad u23 ty3 h8 hp fun b1 o1 hA1=>?_
 rw [zbe hp,hae] at hA1
 refine zab ty3 hA1 hx2 fun _=>?_
 refine (zhl h6 hx2 hc ha).mono ?_
 rintro _ w3 ⟨hx3,m,rfl,hm,hM⟩
 have hs3:=hx3.size
 refine zaa za1 ?_
 refine zac zbE (zap hA) (hx2.trans hx3) fun v15 h15=>?_
 refine zad u23 ty3 h15 hp fun b2 o2 hA2=>?_
 rw [zbe hp,hae] at hA2
 refine zab ty3 hA2 (hx2.trans hx3) fun _=>?_
 refine zbs (α:=Bool) rfl u82 ty4 ha ?_
 refine za2 (α:=Bool) rfl ty4 hM zaj ha zbh fun w4 hc4 hm4=>?_
 have hset:(zbl c.ins.length (RP (zax c) a)).set a true=zbl c.ins.length (fun i=>i=a∨RP (zax c) a i):=zbH (by rw [List.length_set,zaj]) fun i hi=>by
   rw [zb8 (by rw [zaj];exact ha),zaB]
   constructor
   · rintro (⟨_,h⟩ | h)
     · exact .inr h
     exact .inl h
   rintro (h | h)
   · exact .inr h
   exact .inl ⟨hi,h⟩
 rw [hset] at hm4
 have hc4':ChgI m (m+1) w3 w4:=hc4.toI fun b hb=>by simp only [List.mem_cons,List.not_mem_nil,or_false] at hb;omega
 exact ⟨((hx1.trans hx2).trans hx3).chgI hc4' (by omega),[m],hm4,fun b hb=>by simp only [List.mem_cons,List.not_mem_nil,or_false] at hb;omega⟩
theorem zdm {w:World} {n:Nat} {K:Value→World→Prop} (h0:0<n) (hn:n≤1000000)
   (k:∀ w',Ext w w'→Mine [w.heap.size] w' (.slice (some ⟨w.heap.size,0,none⟩) n n) (List.replicate n false)→K (.slice (some ⟨w.heap.size,0,none⟩) n n) w'):OP Tryz.prog (Instr.makeSlice 82 (.int .i64 (n:Int)) (.int .i64 (n:Int))) w K:=
 zfj (α:=Bool) u82 ty4 rfl rfl zuB (by omega) (by omega) fun w2 hx2 hr2=>by
   refine k w2 hx2 ?_
   obtain ⟨F,hM,hF⟩:=hr2.own
   obtain ⟨b,o,cap,hv,hF2⟩:=zdT hM (by intro e;have:=congrArg List.length e;simp at this;omega)
   simp only [Value.slice.injEq,Option.some.injEq,Addr.mk.injEq,List.cons.injEq,and_true] at hv
   obtain ⟨⟨hb,ho⟩,_⟩:=hv
   rw [←hb] at hF2
   rw [hF2] at hM
   exact hM
theorem zco (n:Nat) {p:Nat→Prop} (h:∀ i,¬p i):List.replicate n false=zbl n p:=
 zbH (by simp) fun i _=>⟨fun h=>absurd h zbj,fun hp=>absurd hp (h i)⟩
theorem znN {n q:Nat} {p p':Nat→Prop} (hq:q<n) (h:∀ i,p' i↔p i∨i=q):(zbl n p).set q true=zbl n p':=
 zbH (by rw [List.length_set,zaj]) fun i hi=>by
   rw [zb8 (by rw [zaj];exact hq),zaB,h]
   exact ⟨fun h=>h.imp (·.2) id,fun h=>h.imp (fun h=>⟨hi,h⟩) id⟩
def zip (c:DCode) (p:Nat) (op:Int) (q:Nat):Prop:=∃ i,i<c.ins.length∧zaC c p i∧(zal c i).op=op∧(zal c i).arg=(q:Int)
theorem ziq {w W0:World} {v0:Value} {c:DCode} {p:Nat} {op:Int} (h0:Is W0 v0 c) (e0:Ext W0 w) (hc:CodeR c) (hp:p<c.entry.length) (hop:op=4∨op=5) :
   CALL Tryz.prog 131 [v0,.int .i64 (p:Int),.int .i64 op] w fun r w'=>Ext w w'∧Own w.heap.size w' r (zaA (zaS c.procs.length (zip c p op))):=by
 refine F131_call ?_
 unfold F131
 have hil:=hc.f.ins
 have h8:=hc.1.procs8
 refine zbr h0 e0 fun w1 hx1 hA=>?_
 refine zac zbt hA (Ext.refl _) fun v10 h10=>?_
 refine (zec h10 (Ext.refl _) hc hp).mono ?_
 rintro v12 w2 ⟨hx2,ho2⟩
 refine zaa zba ?_
 refine zac zbP (zar hA) hx2 fun v14 h14=>?_
 refine zag u22 h14 ?_
 have hs1:=hx1.size
 have hs2:=hx2.size
 refine zdm h8.2 (by omega) fun w3 hx3 hM3=>?_
 have hs3:=hx3.size
 have ho3:=ho2.toI.ext hx3
 have hm3:=hM3.lt _ (List.mem_singleton.2 rfl)
 have hx13:=hx2.trans hx3
 generalize hm:w2.heap.size=m at *
 rw [zco c.procs.length (p:=fun q=>∃ i,i<0∧zaC c p i∧(zal c i).op=op∧(zal c i).arg=(q:Int)) (fun i ⟨j,h,_⟩=>by omega)] at hM3
 refine zaq c.ins.length (fun k us w'=>us=[.int .i64 (k:Int)]∧k≤c.ins.length∧ChgI m (m+1) w3 w'∧Mine [m] w' (.slice (some ⟨m,0,none⟩) c.procs.length c.procs.length) (zbl c.procs.length fun q=>∃ i,i<k∧zaC c p i∧(zal c i).op=op∧(zal c i).arg=(q:Int))) 0 (Nat.zero_le _) ⟨rfl,Nat.zero_le _,ChgI.refl _,hM3⟩ ?_
 rintro k mk u w4 hkm ⟨hu,hkl,hc4,hM4⟩
 simp only [List.map_cons,List.map_nil,List.cons.injEq,and_true] at hu
 rw [hu]
 have hx4:Ext w1 w4:=hx13.chgI hc4 (by omega)
 have ho4:=ho3.chg hc4 (by omega)
 refine zaa zaJ ?_
 refine zac zct (zai hA) hx4 fun v19 h19=>?_
 refine zag u29 h19 ?_
 refine zah ?_
 refine br (fun hlt=>?_) (fun hge=>?_)
 case refine_2=>
   have hke:k=c.ins.length:=by omega
   rw [hke] at hM4
   refine (zdU hM4.is (Ext.refl _) (by rw [zaj];omega)).mono ?_
   rintro r w5 ⟨hx5,ho5⟩
   rw [zaj,ze7] at ho5
   have hsz:=hx4.size
   exact ⟨(hx1.trans hx4).trans hx5,ho5.mono (by omega)⟩
 have hk:k<c.ins.length:=by omega
 have hno:¬(zaC c p k∧(zal c k).op=op)→(zbl c.procs.length fun q=>∃ i,i<k∧zaC c p i∧(zal c i).op=op∧(zal c i).arg=(q:Int))=zbl c.procs.length fun q=>∃ i,i<k+1∧zaC c p i∧(zal c i).op=op∧(zal c i).arg=(q:Int):=fun hn=>zaK fun q _=>by
   constructor
   · rintro ⟨i,h1,h2⟩
     exact ⟨i,by omega,h2⟩
   rintro ⟨i,h1,h2,h3,h4⟩
   by_cases h:i=k
   · subst h;exact absurd ⟨h2,h3⟩ hn
   exact ⟨i,by omega,h2,h3,h4⟩
 refine zad u82 ty4 (i:=k) ho4.is (by rw [zaj];exact hk) fun b2 o2 hA2=>?_
 refine zaw ty4 hA2 (Ext.refl _) ?_
 have hmk:=zaB (n:=c.ins.length) (p:=zaC c p) (i:=k)
 rw [zaM (by rw [zaj];exact hk)] at hmk
 refine zbw (fun hf=>?_) (fun hf=>?_)
 case refine_2=>
   refine zaf (by omega) ?_
   refine ⟨mk-1,by omega,k+1,by omega,rfl,by omega,hc4,?_⟩
   rw [←hno fun h=>by rw [hmk.2 ⟨hk,h.1⟩] at hf;cases hf]
   exact hM4
 have hlive:=(hmk.1 hf).2
 refine zaa zaJ ?_
 refine zac zct (zai hA) hx4 fun v30 h30=>?_
 refine zad u29 zcb h30 hk fun b3 o3 hA3=>?_
 rw [zaF] at hA3
 refine zaa za6 ?_
 refine zab ty3 (zas hA3) hx4 fun _=>?_
 refine zao ?_
 refine br (fun ho=>?_) (fun ho=>?_)
 case refine_2=>
   refine zaf (by omega) ?_
   refine ⟨mk-1,by omega,k+1,by omega,rfl,by omega,hc4,?_⟩
   rw [←hno fun h=>ho h.2]
   exact hM4
 have harg:=(zgt hc hk).2.1
 unfold zb7 at harg
 rw [if_neg (by omega),if_pos (by omega)] at harg
 obtain ⟨q,hq⟩:∃ q:Nat,(zal c k).arg=(q:Int):=⟨(zal c k).arg.toNat,by omega⟩
 have hql:q<c.procs.length:=by omega
 refine zaa zaJ ?_
 refine zac zct (zai hA) hx4 fun v40 h40=>?_
 refine zad u29 zcb h40 hk fun b5 o5 hA5=>?_
 rw [zaF] at hA5
 refine zaa za7 ?_
 refine zab ty3 (zav hA5) hx4 fun _=>?_
 rw [hq]
 refine zbs (α:=Bool) rfl u82 ty4 hql ?_
 refine za2 (α:=Bool) rfl ty4 hM4 zaj hql zbh fun w5 hc5 hm5=>?_
 have hc5':ChgI m (m+1) w4 w5:=hc5.toI fun b hb=>by simp only [List.mem_cons,List.not_mem_nil,or_false] at hb;omega
 refine zaf (by omega) ?_
 refine ⟨mk-1,by omega,k+1,by omega,rfl,by omega,hc4.trans hc5',?_⟩
 rw [←znN (p:=fun q=>∃ i,i<k∧zaC c p i∧(zal c i).op=op∧(zal c i).arg=(q:Int)) hql fun r=>?_]
 · exact hm5
 constructor
 · rintro ⟨i,h1,h2,h3,h4⟩
   by_cases h:i=k
   · subst h;right;omega
   exact .inl ⟨i,by omega,h2,h3,h4⟩
 rintro (⟨i,h1,h2⟩ | rfl)
 · exact ⟨i,by omega,h2⟩
 exact ⟨k,by omega,hlive,ho,hq⟩
end Go.Proofs.YtbnjpfjjmhodnaaGreatDoor
namespace Go.Sh
def zhE (m n:Nat):Nat:=Nat.bitwise (fun a b=>a&&!b) m n
theorem zcd (m n i:Nat):(zhE m n).testBit i=(m.testBit i&&!n.testBit i):=Nat.testBit_bitwise rfl m n i
theorem zf0 (m n:Nat):zhE m n≤m:=Nat.le_of_testBit fun i h=>by rw [zcd] at h;simp at h;exact h.1
section
variable {P:Program} {w:World} {K:Value→Prop} {t:TypeId} {x y:Operand}
theorem zdi {m n:Nat} (hm:m<4611686018427387904) (hn:n<4611686018427387904) (k:K (.int .i64 ((m &&& n:Nat):Int))):RD P (bin .and t x y (.int .i64 (m:Int)) (.int .i64 (n:Int))) w K:=by
 have hlt:m &&& n≤m:=Nat.and_le_left
 refine za0 (fun w' _=>?_) k
 have e1:IntKind.i64.wrap ((m &&& n:Nat):Int)=((m &&& n:Nat):Int):=IntWalk.i64_in _ (by omega)
 have e2:((BitVec.ofInt 64 (m:Int)) &&& (BitVec.ofInt 64 (n:Int))).toNat=m &&& n:=by
   simp only [BitVec.toNat_and,BitVec.ofInt_natCast,BitVec.toNat_ofNat]
   rw [Nat.mod_eq_of_lt (by omega),Nat.mod_eq_of_lt (by omega)]
 show (do eqGuard .and t x y (.int .i64 (m:Int)) (.int .i64 (n:Int));binOp .and t (.int .i64 (m:Int)) (.int .i64 (n:Int)):Sem Value).run P w'=_
 simp only [eqGuard,binOp,Op.intBits]
 show Result.ok (Value.int .i64 (IntKind.i64.wrap (((BitVec.ofInt 64 (m:Int)) &&& (BitVec.ofInt 64 (n:Int))).toNat:Nat))) w'=_
 rw [e2,e1]
theorem ze8 {m n:Nat} (hm:m<4611686018427387904) (hn:n<4611686018427387904) (k:K (.int .i64 ((zhE m n:Nat):Int))):RD P (bin .andNot t x y (.int .i64 (m:Int)) (.int .i64 (n:Int))) w K:=by
 have hlt:zhE m n≤m:=zf0 m n
 refine za0 (fun w' _=>?_) k
 have e1:IntKind.i64.wrap ((zhE m n:Nat):Int)=((zhE m n:Nat):Int):=IntWalk.i64_in _ (by omega)
 have e2:((BitVec.ofInt 64 (m:Int)) &&& ~~~(BitVec.ofInt 64 (n:Int))).toNat=zhE m n:=by
   apply Nat.eq_of_testBit_eq
   intro i
   have hm64:m<2^64:=by omega
   have hn64:n<2^64:=by omega
   simp only [BitVec.testBit_toNat,BitVec.getLsbD_and,BitVec.getLsbD_not,BitVec.ofInt_natCast,BitVec.getLsbD_ofNat,zcd]
   by_cases hi:i<64
   · simp [hi]
   have:m.testBit i=false:=Nat.testBit_lt_two_pow (Nat.lt_of_lt_of_le hm64 (Nat.pow_le_pow_right (by omega) (by omega)))
   simp [hi,this]
 show (do eqGuard .andNot t x y (.int .i64 (m:Int)) (.int .i64 (n:Int));binOp .andNot t (.int .i64 (m:Int)) (.int .i64 (n:Int)):Sem Value).run P w'=_
 simp only [eqGuard,binOp,Op.intBits]
 show Result.ok (Value.int .i64 (IntKind.i64.wrap (((BitVec.ofInt 64 (m:Int)) &&& ~~~(BitVec.ofInt 64 (n:Int))).toNat:Nat))) w'=_
 rw [e2,e1]
theorem zti {m n:Nat} {ku:IntKind} (hm:m<4611686018427387904) (k:K (.int .i64 ((m >>> n:Nat):Int))):RD P (bin .shr t x y (.int .i64 (m:Int)) (.int ku (n:Int))) w K:=by
 refine za0 (fun w' _=>?_) k
 have e0:¬((n:Int)<0):=by omega
 have e1:(m:Int).fdiv (2^(min n 64))=((m >>> n:Nat):Int):=by
   rw [Nat.shiftRight_eq_div_pow]
   have h2:((2:Int)^(min n 64))=((2^(min n 64):Nat):Int):=by simp
   rw [h2,Int.fdiv_eq_ediv_of_nonneg _ (Int.natCast_nonneg _),←Int.natCast_ediv]
   by_cases h:n≤64
   · rw [Nat.min_eq_left h]
   rw [Nat.min_eq_right (by omega),Nat.div_eq_of_lt (by omega),Nat.div_eq_of_lt (Nat.lt_of_lt_of_le (by omega:m<2^64) (Nat.pow_le_pow_right (by omega) (by omega)))]
 show (do eqGuard .shr t x y (.int .i64 (m:Int)) (.int ku (n:Int));binOp .shr t (.int .i64 (m:Int)) (.int ku (n:Int)):Sem Value).run P w'=_
 simp only [eqGuard,binOp,Op.shift,e0,if_false,Int.toNat_natCast]
 show Result.ok (Value.int .i64 ((m:Int).fdiv (2^(min n 64)))) w'=_
 rw [e1]
end
def zcA (m:Nat):Nat→List Int
 | 0=>[]
 | k+1=>if m.testBit k then zcA m k++[(k:Int)] else zcA m k
theorem zed (m:Nat):∀ k,(zcA m k).length≤k
 | 0=>Nat.le_refl _
 | k+1=>by
   have:=zed m k
   rw [zcA]
   split
   · simp;omega
   omega
theorem zir {m k:Nat} (h:m<2^k):∀ {j:Nat},k≤j→zcA m j=zcA m k
 | 0,hj=>by rw [Nat.le_zero.1 hj]
 | j+1,hj=>by
   by_cases e:k=j+1
   · rw [e]
   rw [zcA,if_neg,zir h (by omega)]
   rw [Nat.testBit_lt_two_pow (Nat.lt_of_lt_of_le h (Nat.pow_le_pow_right (by omega) (by omega)))]
   simp
def zbn (m:Nat):List Int:=zcA m 64
theorem zkk {m k:Nat} (h:m<2^k) (hk:k≤64):zbn m=zcA m k:=zir h hk
theorem zcB {m:Nat} {x:Int}:∀ {k:Nat},x∈zcA m k↔∃ i,i<k∧x=(i:Int)∧m.testBit i=true
 | 0=>by simp [zcA]
 | k+1=>by
   rw [zcA]
   constructor
   · intro h
     split at h
     · rename_i hb
       rcases List.mem_append.1 h with h | h
       · obtain ⟨i,h1,h2,h3⟩:=zcB.1 h;exact ⟨i,by omega,h2,h3⟩
       simp at h;exact ⟨k,by omega,h,hb⟩
     obtain ⟨i,h1,h2,h3⟩:=zcB.1 h;exact ⟨i,by omega,h2,h3⟩
   rintro ⟨i,h1,h2,h3⟩
   by_cases e:i=k
   · subst e;rw [if_pos h3];simp [h2]
   have:=(zcB (m:=m) (x:=x) (k:=k)).2 ⟨i,by omega,h2,h3⟩
   split
   · simp [this]
   exact this
theorem zql (m i:Nat):decide (((m >>> i &&& 1:Nat):Int)=1)=m.testBit i:=by
 have h:m >>> i &&& 1=(m.testBit i).toNat:=by
   rw [Nat.and_one_is_mod,Nat.testBit_eq_decide_div_mod_eq,Nat.shiftRight_eq_div_pow]
   rcases Nat.mod_two_eq_zero_or_one (m / 2^i) with h | h<;>simp [h]
 rw [h]
 cases m.testBit i<;>rfl
theorem zr7 (m i:Nat):decide (((m &&& 2^i:Nat):Int)≠0)=m.testBit i:=by
 have hp:0<2^i:=Nat.pow_pos (by omega)
 cases hb:m.testBit i with
 | false=>
   have:m &&& 2^i=0:=by
     apply Nat.eq_of_testBit_eq
     intro j
     rw [Nat.testBit_and,Nat.testBit_two_pow]
     by_cases e:i=j
     · subst e;simp [hb]
     simp [e]
   simp [this]
 | true=>
   have:m &&& 2^i≠0:=fun e=>by
     have:=congrArg (·.testBit i) e
     simp [Nat.testBit_and,Nat.testBit_two_pow,hb] at this
   simp only [ne_eq,decide_eq_true_eq]
   omega
theorem znO {m i:Nat}:m >>> i=0↔m<2^i:=by
 rw [Nat.shiftRight_eq_div_pow,Nat.div_eq_zero_iff]
 have:¬(2^i=0):=by have:0<2^i:=Nat.pow_pos (by omega);omega
 simp [this]
end Go.Sh
namespace Go.Proofs.YtbnjpfjjmhodnaaGreatDoor
open Go Go.Sh Go.Proofs
open Rep (rep)
def F150 (a0 a1:Value) (w:World) (R:VW):Prop:=
 rD (convert 3 139 a1) w fun x7=>
 rB .shr 3 T0 T0 a0 x7 w fun x8=>
 rB .and 3 T0 U0 x8 (iV 1) w fun x9=>
 rB .eql 3 T0 U0 x9 (iV 1) w fun x10=>
 R x10 w
def cfg150:Cfg:=⟨extL,[],[],[],[],[],[]⟩
theorem F150_call {a0 a1:Value} {w:World} {R:VW} (h:F150 a0 a1 w R):cL 150 [a0,a1] w R:=co (g:=cfg150) Tryz.func150 (by kernel_rfl) (by kernel_rfl) (by kernel_rfl) h
theorem zee {w:World} {m:Nat} {i:Nat}   (hm:m<4611686018427387904) (hi:i<4611686018427387904) :
   CALL Tryz.prog 150 [.int .i64 (m:Int),.int .i64 (i:Int)] w fun r w'=>Ext w w'∧(r=.bool (m.testBit i)):=by
 refine F150_call ?_
 unfold F150
 refine zbA (by kernel_rfl) zh4 (by omega) ?_
 refine zti (by omega) ?_
 refine zdi (n:=1) (Nat.lt_of_le_of_lt (Nat.shiftRight_le m i) hm) (by omega) ?_
 refine zao ?_
 refine ⟨Ext.refl w,?_⟩
 rw [zql]
def F107 (a0:Value) (w:World) (R:VW):Prop:=
 LOOPI [3,4] [(Value.slice none 0 0),(iV 0)] w fun u3 w next3=>
 rD (convert 3 139 (u3 4)) w fun x7=>
 rB .shr 3 T0 T0 a0 x7 w fun x8=>
 rB .neq 3 T0 U0 x8 (iV 0) w fun x9=>
 BR x9
 (cL 150 [a0,(u3 4)] w fun x14 w=>
 BR x14
 (oP (Instr.buildSlice 23 1 #[(0,(u3 4))]) w fun x17 w=>
 oP (Builtin.append_ #[23,23] 23 [(u3 3),x17].toArray) w fun x18 w=>
 rA (u3 4) (iV 1) w fun x11=>
 next3 [x18,x11] w)
 (rA (u3 4) (iV 1) w fun x11=>
 next3 [(u3 3),x11] w))
 (R (u3 3) w)
def cfg107:Cfg:=⟨extL,[],[(3,524280,[3,4])],[],[],[],[]⟩
theorem F107_call {a0:Value} {w:World} {R:VW} (h:F107 a0 w R):cL 107 [a0] w R:=co (g:=cfg107) Tryz.func107 (by kernel_rfl) (by kernel_rfl) (by kernel_rfl) h
theorem zcJ {w:World} {m:Nat}   (hm:m<4611686018427387904) :
   CALL Tryz.prog 107 [.int .i64 (m:Int)] w fun r w'=>Ext w w'∧(Own w.heap.size w' r (zbn m)):=by
 refine F107_call ?_
 unfold F107
 refine zaq (62) (fun k us w'=>∃ v:Value,us=[v,.int .i64 (k:Int)]∧Ext w w'∧(RowI w.heap.size w'.heap.size 3 w' v (zcA m k))) (0) (by omega) ⟨_,rfl,Ext.refl w,zcp _ _ _ _⟩ ?_
 rintro k m3 uu3 w1_ hk3 ⟨v3,hu,hx1_,hrow⟩
 have hs_hx1_:=hx1_.size
 obtain ⟨hu0,hu1⟩:=zb1 hu
 try rw [hu0]
 try rw [hu1]
 try clear hu0 hu1
 have hrl:=zed m k
 refine zbA (by kernel_rfl) zh4 (by omega) ?_
 refine zti (by omega) ?_
 refine zaI ?_
 refine br (fun c1=>?_) (fun c1=>?_)
 · have hk62:k<62:=by
     rcases Nat.lt_or_ge k 62 with h | h
     · exact h
     have h1:m<2^k:=Nat.lt_of_lt_of_le (show m<2^62 by omega) (Nat.pow_le_pow_right (by omega) h)
     exact absurd (by rw [znO.2 h1];rfl) c1
   refine (zee (by omega) (by omega)).mono ?_
   rintro _ w2_ ⟨hx2_,rfl⟩
   have hs_hx2_:=hx2_.size
   refine zbw (fun c2=>?_) (fun c2=>?_)
   · refine zbK (α:=Int) u23 ty3 z3 zc3 (by decide) (hrow.ext hx2_) (by omega) (zew (lo:=w2_.heap.size) (hi:=w2_.heap.size) (by first | assumption | (unfold I64 at *;omega))) (by omega) (by omega) (by rw [zan];omega) (by omega) fun v18 w3_ hc3_ o18=>?_
     have hs_hc3_:=hc3_.size
     refine zaf (by omega) ?_
     refine ⟨m3-1,by omega,k+1,by omega,_,rfl,(Ext.chgI (hx1_.trans hx2_) hc3_ (by omega)),?_⟩
     rw [zcA,if_pos c2];exact o18
   refine zaf (by omega) ?_
   refine ⟨m3-1,by omega,k+1,by omega,_,rfl,(hx1_.trans hx2_),?_⟩
   rw [zcA,if_neg (by simp [c2])];exact (hrow.ext hx2_).mono (by omega) (by omega)
 refine ⟨hx1_,?_⟩
 have h1:m >>> k=0:=by have:=Decidable.not_not.1 c1;omega
 rw [zkk (znO.1 h1) (by omega)]
 exact hrow.own.own
def F127 (a0:Value) (w:World) (R:VW):Prop:=
 rD (convert 3 139 a0) w fun x4=>
 rB .shl 3 U0 T0 (iV 1) x4 w fun x5=>
 R x5 w
def cfg127:Cfg:=⟨extL,[],[],[],[],[],[]⟩
theorem F127_call {a0:Value} {w:World} {R:VW} (h:F127 a0 w R):cL 127 [a0] w R:=co (g:=cfg127) Tryz.func127 (by kernel_rfl) (by kernel_rfl) (by kernel_rfl) h
theorem zef {w:World} {i:Nat}   (hi:i<62) :
   CALL Tryz.prog 127 [.int .i64 (i:Int)] w fun r w'=>Ext w w'∧(r=.int .i64 ((2^i:Nat):Int)):=by
 refine F127_call ?_
 unfold F127
 refine zbA (by kernel_rfl) zh4 (by omega) ?_
 refine zda (by omega) ?_
 refine ⟨Ext.refl w,?_⟩
 rfl
def F135 (a0 a1:Value) (w:World) (R:VW):Prop:=
 cL 127 [a1] w fun x7 w=>
 rB .and 3 T0 T0 a0 x7 w fun x8=>
 rB .neq 3 T0 U0 x8 (iV 0) w fun x9=>
 R x9 w
def cfg135:Cfg:=⟨extL,[],[],[],[],[],[]⟩
theorem F135_call {a0 a1:Value} {w:World} {R:VW} (h:F135 a0 a1 w R):cL 135 [a0,a1] w R:=co (g:=cfg135) Tryz.func135 (by kernel_rfl) (by kernel_rfl) (by kernel_rfl) h
theorem zr8 {w:World} {m:Nat} {i:Nat}   (hm:m<4611686018427387904) (hi:i<62) :
   CALL Tryz.prog 135 [.int .i64 (m:Int),.int .i64 (i:Int)] w fun r w'=>Ext w w'∧(r=.bool (m.testBit i)):=by
 refine F135_call ?_
 unfold F135
 refine (zef (by omega)).mono ?_
 rintro _ w1_ ⟨hx1_,rfl⟩
 have hp:2^i<4611686018427387904:=Nat.lt_of_lt_of_le (Nat.pow_lt_pow_right (by omega) hi) (by omega:2^62≤4611686018427387904)
 refine zdi (by omega) (by omega) ?_
 refine zaI ?_
 refine ⟨hx1_,?_⟩
 rw [zr7]
def F175 (a0:Value) (w:World) (R:VW):Prop:=
 cL 38 [a0,(iV 0),(iV 63)] w fun x4 w=>
 R x4 w
def cfg175:Cfg:=⟨extL,[],[],[],[],[],[]⟩
theorem F175_call {a0:Value} {w:World} {R:VW} (h:F175 a0 w R):cL 175 [a0] w R:=co (g:=cfg175) Tryz.func175 (by kernel_rfl) (by kernel_rfl) (by kernel_rfl) h
theorem znP {w:World} {a:Int}    :
   CALL Tryz.prog 175 [.int .i64 a] w fun r w'=>Ext w w'∧(r=.bool (decide (0≤a∧a≤63))):=by
 refine F175_call ?_
 unfold F175
 refine (l01In_ok ).mono ?_
 rintro _ w1_ ⟨hx1_,rfl⟩
 refine ⟨hx1_,?_⟩
 rfl
def zu9 (c:DCode) (s:DState) (t:Int):Nat→Nat→Int→Nat
 | 0,_,_=>0
 | n+1,m,u=>if zgU c s u<0 then 0 else if ow s (zgU c s u)=t then m ||| 2^(zgU c s u).toNat else zu9 c s t n (m ||| 2^(zgU c s u).toNat) (ow s (zgU c s u))
def zva (c:DCode) (s:DState) (t:Int):Nat:=zu9 c s t s.stacks.length 0 t
theorem zqm {m i:Nat} (hm:m<64) (hi:i<6):m ||| 2^i<64:=Nat.or_lt_two_pow (n:=6) hm (Nat.pow_lt_pow_right (by omega) hi)
def zmO (c:DCode) (s:DState):Nat→Nat
 | 0=>0
 | k+1=>if zva c s k≠0 then zmO c s k ||| 2^(zgU c s k).toNat else zmO c s k
def F89 (a0 a1:Value) (w:World) (R:VW):Prop:=
 cL 107 [a1] w fun x9 w=>
 rN 23 3 x9 w fun x10=>
 LOOPI [5,11] [(iV 0),(iV 0)] w fun u3 w next3=>
 rC (u3 11) x10 w fun x12=>
 BR x12
 (rX 23 x9 (u3 11) w fun x13=>
 rL 3 x13 w fun x14=>
 rX 23 a0 x14 w fun x18=>
 rL 3 x18 w fun x19=>
 rB .or 3 T0 T0 (u3 5) x19 w fun x20=>
 rA (u3 11) (iV 1) w fun x21=>
 next3 [x20,x21] w)
 (R (u3 5) w)
def cfg89:Cfg:=⟨extL,[],[(3,4192416,[5,11])],[],[],[],[]⟩
theorem F89_call {a0 a1:Value} {w:World} {R:VW} (h:F89 a0 a1 w R):cL 89 [a0,a1] w R:=co (g:=cfg89) Tryz.func89 (by kernel_rfl) (by kernel_rfl) (by kernel_rfl) h
def orL (sets:List Nat) (l:List Int):Nat:=l.foldl (fun a i=>a ||| sets.getD i.toNat 0) 0
theorem zr9 (sets:List Nat) (l:List Int) (i:Int):orL sets (l++[i])=orL sets l ||| sets.getD i.toNat 0:=by simp [orL]
theorem znQ {sets:List Nat} (hs:∀ x∈sets,x<256) (l:List Int):orL sets l<256:=by
 have key:∀ (l:List Int) (a:Nat),a<256→l.foldl (fun a i=>a ||| sets.getD i.toNat 0) a<256:=fun l=>by
   induction l with
   | nil=>exact fun a h=>h
   | cons i l ih=>
     intro a ha
     rw [List.foldl_cons]
     refine ih _ (Nat.or_lt_two_pow (n:=8) ha ?_)
     rw [List.getD_eq_getElem?_getD]
     cases h:sets[i.toNat]? with
     | none=>simp
     | some x=>exact hs x (List.mem_of_getElem? h)
 exact key l 0 (by omega)
theorem zfs {w W0:World} {v0:Value} {sets:List Nat} {m:Nat} (h0:Is W0 v0 (zaA sets)) (e0:Ext W0 w) (hs:∀ x∈sets,x<256) (hl:sets.length≤8) (hm:m<2^sets.length) :
   CALL Tryz.prog 89 [v0,.int .i64 (m:Int)] w fun r w'=>Ext w w'∧r=.int .i64 (orL sets (zbn m):Nat):=by
 refine F89_call ?_
 unfold F89
 have h256:2^sets.length≤2^8:=Nat.pow_le_pow_right (by omega) hl
 refine (zcJ (m:=m) (by omega)).mono ?_
 rintro v9 w1 ⟨hx1,ho1⟩
 have hbl:(zbn m).length≤64:=zed m 64
 refine zag u23 ho1.is ?_
 refine zaq (zbn m).length (fun k us w'=>us=[.int .i64 ((orL sets ((zbn m).take k):Nat):Int),.int .i64 (k:Int)]∧k≤(zbn m).length∧Ext w1 w') 0 (Nat.zero_le _) ⟨rfl,Nat.zero_le _,Ext.refl _⟩ ?_
 rintro k mk u w2 hkm ⟨hu,hkl,hx2⟩
 obtain ⟨hu1,hu2⟩:=zb1 hu
 rw [hu1,hu2]
 refine zah ?_
 refine br (fun hlt=>?_) (fun hge=>?_)
 case refine_2=>
   have:k=(zbn m).length:=by omega
   rw [this,List.take_length]
   exact ⟨hx1.trans hx2,rfl⟩
 have hk:k<(zbn m).length:=by omega
 have hmem:(zbn m)[k]∈zbn m:=List.getElem_mem hk
 obtain ⟨i,hi1,hi2,hi3⟩:=zcB.1 hmem
 have hil:i<sets.length:=Decidable.byContradiction fun hc=>by
   have:=Nat.testBit_lt_two_pow (Nat.lt_of_lt_of_le hm (Nat.pow_le_pow_right (by omega) (by omega:sets.length≤i)))
   rw [this] at hi3;cases hi3
 refine zad u23 ty3 (i:=k) ho1.is hk fun b1 o1 hA1=>?_
 refine zab ty3 hA1 hx2 fun _=>?_
 rw [hi2]
 refine zad u23 ty3 (i:=i) h0 (by rw [zae];exact hil) fun b2 o2 hA2=>?_
 rw [zaL] at hA2
 refine zab ty3 hA2 ((e0.trans hx1).trans hx2) fun _=>?_
 have h1:=znQ hs ((zbn m).take k)
 have h2:=hs sets[i] (List.getElem_mem hil)
 refine zeZ (by omega) (by omega) ?_
 refine zaf (by omega) ?_
 refine ⟨mk-1,by omega,k+1,by omega,?_,by omega,hx2⟩
 rw [List.take_succ_eq_append_getElem hk,zr9,hi2,Int.toNat_natCast,List.getD_eq_getElem?_getD,List.getElem?_eq_getElem hil]
 rfl
def F75 (a0 a1:Value) (w:World) (R:VW):Prop:=
 oP (Instr.box 31 a0) w fun x2 w=>
 rF 31 x2 2 w fun x10=>
 rL 22 x10 w fun x11=>
 rN 22 3 x11 w fun x12=>
 oP (Instr.makeSlice 82 x12 x12) w fun x13 w=>
 rX 82 x13 a1 w fun x16=>
 oS 4 x16 (Value.bool true) w fun w=>
 oP (Instr.buildSlice 23 1 #[(0,a1)]) w fun x18 w=>
 LOOPI [6,7] [x18,(iV 0)] w fun u5 w next5=>
 rN 23 3 (u5 6) w fun x21=>
 rC (u5 7) x21 w fun x22=>
 BR x22
 ((fun w=>rL 31 x2 w fun x25=>
 rX 23 (u5 6) (u5 7) w fun x28=>
 rL 3 x28 w fun x29=>
 cL 131 [x25,x29,(iV 4)] w fun x30 w=>
 LOOPI [6,9] [(u5 6),(iV 0)] w fun u9 w next9=>
 rN 23 3 x30 w fun x33=>
 rC (u9 9) x33 w fun x34=>
 BR x34
 (rX 23 x30 (u9 9) w fun x40=>
 rL 3 x40 w fun x41=>
 rX 82 x13 x41 w fun x42=>
 rL 4 x42 w fun x43=>
 rD (Op.unary .not x43) w fun x44=>
 BR x44
 (rX 23 x30 (u9 9) w fun x48=>
 rL 3 x48 w fun x49=>
 rX 82 x13 x49 w fun x50=>
 oS 4 x50 (Value.bool true) w fun w=>
 rX 23 x30 (u9 9) w fun x54=>
 rL 3 x54 w fun x55=>
 oP (Instr.buildSlice 23 1 #[(0,x55)]) w fun x56 w=>
 oP (Builtin.append_ #[23,23] 23 [(u9 6),x56].toArray) w fun x57 w=>
 rA (u9 9) (iV 1) w fun x36=>
 next9 [x57,x36] w)
 (rA (u9 9) (iV 1) w fun x36=>
 next9 [(u9 6),x36] w))
 (rA (u5 7) (iV 1) w fun x24=>
 next5 [(u9 6),x24] w)) (World.drew1 w))
 (R x13 w)
def cfg75:Cfg:=⟨extL,[],[(5,288230376151188416,[6,7]),(9,288230374004228672,[6,9])],[(7,[0,1,2,3,4,5,6],0)],[],[],[]⟩
theorem F75_call {a0 a1:Value} {w:World} {R:VW} (h:F75 a0 a1 w R):cL 75 [a0,a1] w R:=co (g:=cfg75) Tryz.func75 (by kernel_rfl) (by kernel_rfl) (by kernel_rfl) h
noncomputable def zis (c:DCode) (p:Nat):List Nat:=zaS c.procs.length (zip c p 4)
theorem zeD {w W0:World} {v0:Value} {c:DCode} {a:Nat} (h0:Is W0 v0 c) (e0:Ext W0 w) (hc:CodeR c) (ha:a<c.procs.length) :
   CALL Tryz.prog 75 [v0,.int .i64 (a:Int)] w fun r w'=>Ext w w'∧∃ m,r=.slice (some ⟨m,0,none⟩) c.procs.length c.procs.length∧w.heap.size≤m∧Mine [m] w' (.slice (some ⟨m,0,none⟩) c.procs.length c.procs.length) (zbl c.procs.length fun i=>i=a∨RP (zis c) a i):=by
 refine F75_call ?_
 unfold F75
 have h8:=hc.1.procs8
 have hep:=hc.2.1.1
 have hcn:∀ x,zis c x=zaS c.procs.length (zip c x 4):=fun _=>rfl
 refine zbr h0 e0 fun w1 hx1 hA=>?_
 refine zaa zba ?_
 refine zac zbP (zar hA) (Ext.refl _) fun v11 h11=>?_
 refine zag u22 h11 ?_
 generalize hn:c.procs.length=n at *
 have hnl:∀ {i j:Nat},i<n→j∈zis c i→j<n∧True:=fun {i j} _ hj=>by rw [hcn] at hj;exact ⟨(zaE.1 hj).1,trivial⟩
 have hnxl:∀ x,(zis c x).length≤n:=fun x=>by rw [hcn];exact zaT
 refine zdm h8.2 (by omega) fun w2 hx2 hM2=>?_
 have hs1:=hx1.size
 have hs2:=hx2.size
 refine zbs (α:=Bool) rfl u82 ty4 ha ?_
 refine za2 (α:=Bool) rfl ty4 hM2 (by simp) ha zbh fun w2b hc2 hM2b=>?_
 have hc2':ChgI w1.heap.size (w1.heap.size+1) w2 w2b:=hc2.toI fun b hb=>by simp only [List.mem_cons,List.not_mem_nil,or_false] at hb;omega
 have hs2b:=hc2'.size
 have hM0l:((List.replicate n false).set a true).length=n:=by simp
 have hM0:∀ i,mkd ((List.replicate n false).set a true) i↔i=a:=fun i=>by
   rw [zb8 (by simp;exact ha)]
   exact ⟨fun h=>h.resolve_left zbj,.inr⟩
 generalize (List.replicate n false).set a true=M0 at *
 refine zb5 (x:=(a:Int)) u23 ty3 z3 (by decide) (zcq (by unfold I64;omega)) fun v15 w3 hx3 hr3=>?_
 have hs3:=hx3.size
 generalize hm:w1.heap.size=m at *
 have hW3:WI w1 w3 m n w2b.heap.size w3.heap.size v15 [a] M0:=⟨(hx2.toI.trans hc2').trans hx3.toI,hr3,hM2b.ext hx3,by omega,by have:=hM2b.lt m (by simp);omega,hs3,Nat.le_refl _⟩
 generalize zis c=nx at *
 refine zaq (1+n) (fun h us w'=>∃ (tv:Value) (lo hi:Nat) (L:List Nat) (ms:List Bool),us=[tv,.int .i64 (h:Int)]∧h≤L.length∧WI w1 w' m n lo hi tv L ms∧SInv nx n a M0 ms (L.drop h) h) 0 (Nat.zero_le _) ⟨v15,_,_,[a],_,rfl,by simp,hW3,SInv.start hM0l ha⟩ ?_
 rintro h mk u w4 hkm ⟨tv,lo,hi,L,ms,hu,hhL,hW4,hS4⟩
 obtain ⟨hu1,hu2⟩:=zb1 hu
 rw [hu1,hu2]
 have hb4:=hS4.bound
 rw [List.length_drop] at hb4
 refine zag u23 hW4.row.is ?_
 rw [zae]
 refine zah ?_
 refine br (fun hlt=>?_) (fun hge=>?_)
 case refine_2=>
   have hhe:h=L.length:=by omega
   rw [hhe,List.drop_length] at hS4
   have hfin:=hS4.fin fun i hi hne=>absurd ((hM0 i).1 hi) hne
   have hms:ms=zbl n (fun i=>i=a∨RP nx a i):=zbH hS4.len fun i hi=>by rw [hfin i,hM0]
   rw [←hms]
   have hx4:Ext w1 w4:=(Ext.refl w1).chgI hW4.chg (by omega)
   exact ⟨hx1.trans hx4,m,rfl,by omega,hW4.mks⟩
 have hh:h<L.length:=by omega
 have hx5:=zak w4
 have hW5:=hW4.step hx5
 generalize World.drew1 w4=w5 at *
 have hxa:∀ {w:World} {lo hi tv L ms},WI w1 w m n lo hi tv L ms→Ext w1 w:=fun h=>(Ext.refl w1).chgI h.chg (by omega)
 refine zac zbt hA (hxa hW5) fun v22 h22=>?_
 refine zad u23 ty3 (i:=h) hW5.row.is (by rw [zae];exact hh) fun b1 o1 hA1=>?_
 rw [zaL] at hA1
 refine zab ty3 hA1 (Ext.refl _) fun _=>?_
 generalize hx:L[h]=x at *
 have hdr:L.drop h=x :: L.drop (h+1):=by rw [List.drop_eq_getElem_cons hh,hx]
 have hxn:x<n:=(hS4.tdo x (by rw [hdr];simp)).2
 refine (ziq h22 (hxa hW5) hc (by omega) (.inl rfl)).mono ?_
 rintro v27 w6 ⟨hx6,ho6⟩
 rw [hn,←hcn] at ho6
 have hW6:=hW5.step hx6
 have hI6:=hW5.h3
 have hm6:=hW5.mks.lt m (by simp)
 have hS6:SIn2 nx n a M0 ms (L.drop (h+1)) h x 0:=hS4.pop (fun i=>by rw [hdr];simp [or_comm]) (by rw [hdr];simp)
 have hl2:=hnxl x
 refine zaq (nx x).length (fun q us w'=>∃ (tv:Value) (lo hi:Nat) (L:List Nat) (ms:List Bool),us=[tv,.int .i64 (q:Int)]∧q≤(nx x).length∧h<L.length∧WI w1 w' m n lo hi tv L ms∧SIn2 nx n a M0 ms (L.drop (h+1)) h x q∧OwnI w5.heap.size w6.heap.size w' v27 (zaA (nx x))∧(hi≤w5.heap.size∨w6.heap.size≤lo)∧w6.heap.size≤w'.heap.size) 0 (Nat.zero_le _) ⟨tv,lo,hi,L,ms,rfl,Nat.zero_le _,hh,hW6,hS6,ho6.toI,.inl hI6,Nat.le_refl _⟩ ?_
 rintro q mk8 u8 w7 hkm8 ⟨tv7,lo7,hi7,L7,ms7,hu8,hql,hh7,hW7,hS7,ho7,hd7,hz7⟩
 obtain ⟨hu81,hu82⟩:=zb1 hu8
 rw [hu81,hu82]
 refine zag u23 ho7.is ?_
 rw [zae]
 refine zah ?_
 refine br (fun hlt8=>?_) (fun hge8=>?_)
 case refine_2=>
   refine zaf (by omega) ?_
   exact ⟨mk-1,by omega,h+1,by omega,tv7,lo7,hi7,L7,ms7,rfl,by omega,hW7,hS7.done (by omega)⟩
 have hq:q<(nx x).length:=by omega
 have hrd:∀ {w:World} {K:Value→Prop} (ho:OwnI w5.heap.size w6.heap.size w v27 (zaA (nx x))) (k:K (.int .i64 (((nx x)[q]:Nat):Int))),RD Tryz.prog (Instr.indexAt 23 v27 (.int .i64 (q:Int))) w fun x37=>RD Tryz.prog (Instr.loadAt 3 x37) w K:=fun ho k=>by
   refine zad u23 ty3 (i:=q) ho.is (by rw [zae];exact hq) fun b1 o1 hA1=>?_
   rw [zaL] at hA1
   exact zab ty3 hA1 (Ext.refl _) fun _=>k
 have hy:=hnl hxn (List.getElem_mem hq)
 refine hrd ho7 ?_
 have hlen7:=hS7.len
 refine zad u82 ty4 hW7.mks.is (by rw [hlen7];exact hy.1) fun b2 o2 hA2=>?_
 refine zaw ty4 hA2 (Ext.refl _) ?_
 refine zaV ?_
 have hmk7:=zaM (ms:=ms7) (i:=(nx x)[q]) (by rw [hlen7];exact hy.1)
 refine zbw (fun hf=>?_) (fun hf=>?_)
 · have hnm:¬mkd ms7 (nx x)[q]:=by rw [hmk7];simpa using hf
   refine hrd ho7 ?_
   refine zbs (α:=Bool) rfl u82 ty4 hy.1 ?_
   refine za2 (α:=Bool) rfl ty4 hW7.mks hlen7 hy.1 zbh fun w8 hc8 hm8=>?_
   have hW8:=hW7.mark hc8 hm8
   have hc8':ChgI m (m+1) w7 w8:=hc8.toI fun b hb=>by simp only [List.mem_cons,List.not_mem_nil,or_false] at hb;omega
   have ho8:=ho7.chg hc8' (by omega)
   refine hrd ho8 ?_
   have hS8:=hS7.push hq hy.1 hnm
   generalize (nx x)[q]=y at *
   have hLb:L7.length≤2+n:=by
     have h1:=hS7.cnt
     have h2:=ze6 ms7
     rw [List.length_drop] at h1
     omega
   refine zcI (x:=(y:Int)) u23 ty3 z3 zc3 (by decide) hW8.row (zb4 0 0 (by unfold I64;omega)) (by rw [zan,zae];omega) (by rw [zae];omega) fun v54 w9 lo9 hi9 hc9 hr9 hd9=>?_
   have hW9:=hW8.push hc9 hr9 hd9
   have hsz8:=hc8'.size
   have hsz7:=ho7.is
   refine zaf (by omega) ?_
   refine ⟨mk8-1,by omega,q+1,by omega,v54,lo9,hi9,L7++[y],_,rfl,by omega,by simp;omega,hW9,?_,ho8.chg hc9 (by omega),by omega,by have:=hc9.size;omega⟩
   rw [List.drop_append_of_le_length (by omega)]
   exact hS8
 have hnm:mkd ms7 (nx x)[q]:=by rw [hmk7];simpa using hf
 refine zaf (by omega) ?_
 exact ⟨mk8-1,by omega,q+1,by omega,tv7,lo7,hi7,L7,ms7,rfl,by omega,hh7,hW7,hS7.skip hq hnm,ho7,hd7,hz7⟩
noncomputable def m6 (p:Nat→Prop):Nat:=zbY p 6
theorem zjw {p:Nat→Prop} {l:Nat}:(m6 p).testBit l=true↔l<6∧p l:=zaO
theorem zit {p:Nat→Prop}:m6 p<64:=zgV (n:=6)
theorem zeE {m l:Nat} (h:m<64) (hb:m.testBit l=true):l<6:=Decidable.byContradiction fun hc=>by
 have:=Nat.testBit_lt_two_pow (Nat.lt_of_lt_of_le (show m<2^6 from h) (Nat.pow_le_pow_right (by omega) (by omega:6≤l)))
 rw [this] at hb;cases hb
theorem zqn {m:Nat} {p:Nat→Prop} (h:m<64) (hb:∀ l,l<6→(m.testBit l=true↔p l)):m=m6 p:=
 zcV fun l=>⟨fun e=>⟨zeE h e,(hb l (zeE h e)).1 e⟩,fun e=>(hb l e.1).2 e.2⟩
theorem znR {p q:Nat→Prop} (h:∀ l,l<6→(p l↔q l)):m6 p=m6 q:=za8 h
theorem zeg {m l:Nat} (h:¬m.testBit l=false):m.testBit l=true:=by simpa using h
def zau (l:List Nat) (i:Nat):Nat:=l.getD i 0
theorem zaX {l:List Nat} {i:Nat} (h:i<l.length):l[i]=zau l i:=by unfold zau;rw [List.getD_eq_getElem?_getD,List.getElem?_eq_getElem h];rfl
theorem zbQ {l:List Nat} {i j v:Nat} (hi:i<l.length):zau (l.set i v) j=if i=j then v else zau l j:=by
 unfold zau
 rw [List.getD_eq_getElem?_getD,List.getD_eq_getElem?_getD,List.getElem?_set]
 by_cases h:i=j
 · subst h;simp [hi]
 simp [h]
theorem zgX:∀ {l:List Nat} {i v:Nat},i<l.length→(l.set i v).sum+zau l i=l.sum+v
 | x :: l,0,v,_=>by simp [zau];omega
 | x :: l,i+1,v,h=>by
   have:=zgX (l:=l) (i:=i) (v:=v) (by simpa using h)
   simp only [zau,List.set_cons_succ,List.sum_cons,List.getD_cons_succ] at this ⊢
   omega
theorem zeF (l:List Nat) (i v:Nat):zaA (l.set i v)=(zaA l).set i (v:Int):=by simp [zaA,List.map_set]
theorem sum_le {l:List Nat} {b:Nat} (h:∀ x∈l,x≤b):l.sum≤l.length*b:=by
 induction l with
 | nil=>simp
 | cons x l ih=>
   have h1:=ih fun y hy=>h y (by simp [hy])
   have h2:=h x (by simp)
   rw [List.sum_cons,List.length_cons,Nat.add_mul];omega
theorem zkl {l:List Nat} {i:Nat} (h:i<l.length):zau l i∈l:=by rw [←zaX h];exact List.getElem_mem h
theorem zaG {l:List Nat} {i:Nat} (h:i<(zaA l).length):(zaA l)[i]=(zau l i:Int):=by rw [zaL,zaX]
def eN (c:DCode) (p:Nat):Nat:=(en c p).toNat
def zN (c:DCode) (p:Nat):Nat:=(zdh c p-1).toNat
def agN (c:DCode) (i:Nat):Nat:=(zal c i).arg.toNat
theorem zeG {c:DCode} (hc:CodeR c) {p:Nat} (hp:p<c.entry.length):en c p=(eN c p:Int)∧eN c p<c.ins.length∧zat c (eN c p)=p:=by
 have h:=zqi hc hp
 unfold eN
 rw [Int.toNat_of_nonneg h.1]
 exact ⟨rfl,by omega,h.2.2⟩
theorem zjb {c:DCode} (hc:CodeR c) {p:Nat} (hp:p<c.entry.length):zdh c p=(zN c p:Int)+1∧eN c p≤zN c p∧zN c p<c.ins.length:=by
 have h1:=hc.f.lt p hp
 have h2:=hc.f.nonneg hp
 have h4:=hc.f.lt p hp
 have h5:zdh c p≤c.ins.length:=h4.2
 unfold zN eN
 omega
theorem zby {c:DCode} (hc:CodeR c) {p i:Nat} (hp:p<c.entry.length) (h:zaC c p i):i<c.ins.length∧zat c i=p:=by
 have he:=zeG hc hp
 rcases h with rfl | h
 · exact ⟨he.2.1,he.2.2⟩
 refine h.keeps (p:=fun i=>i<c.ins.length∧zat c i=p) ⟨he.2.1,he.2.2⟩ fun i j hi hj=>?_
 have:=zcj hc hi.1 hj
 exact ⟨this.1,this.2.trans hi.2⟩
theorem zqo {c:DCode} {p i j:Nat} (h:zaC c p i) (hj:j∈zax c i):zaC c p j:=by
 rcases h with rfl | h
 · exact .inr (.one hj)
 exact .inr (.more h hj)
theorem zmP {c:DCode} (hc:CodeR c) {p i:Nat} (hi:i<c.ins.length) (hp:p<c.entry.length) (h:zat c i=p):eN c p≤i∧i≤zN c p:=by
 obtain ⟨q,hq,h1,h2,h3⟩:=hc.f.find hc.1.procs8.2 (a:=(i:Int)) (by omega) (by omega)
 have:q=p:=by omega
 subst this
 have h4:=zjb hc hp
 have h5:=zeG hc hp
 omega
theorem zkm {c:DCode} (hc:CodeR c) {p i:Nat} (hp:p<c.entry.length) (h1:eN c p≤i) (h2:i≤zN c p):zat c i=p:=by
 have h4:=zjb hc hp
 have h5:=zeG hc hp
 exact hc.f.proc hp (by omega) (by omega)
theorem zbN {c:DCode} (hc:CodeR c) {i:Nat} (hi:i<c.ins.length) (ho:(zal c i).op=4∨(zal c i).op=5):(zal c i).arg=(agN c i:Int)∧agN c i<c.procs.length:=by
 have harg:=(zgt hc hi).2.1
 unfold zb7 at harg
 rw [if_neg (by omega),if_pos (by omega)] at harg
 unfold agN
 omega
theorem zcl {c:DCode} (hc:CodeR c) {i:Nat} (hi:i<c.ins.length) (ho:(zal c i).op=6∨(zal c i).op=7):(zal c i).arg=(agN c i:Int)∧agN c i<c.locks.length∧agN c i<6:=by
 have h:=zr4 hc hi ho
 have h6:=hc.1.locks6
 unfold agN
 omega
def zvb (c:DCode) (K G:Nat→Nat→Prop) (i l:Nat):Prop:=((zal c i).op=7∧agN c i=l)∨((zal c i).op=4∧¬K (agN c i) l∧¬G (agN c i) l)
def zqp (c:DCode) (G:Nat→Nat→Prop) (i l:Nat):Prop:=¬((zal c i).op=6∧agN c i=l)∧¬((zal c i).op=4∧G (agN c i) l)
inductive LostP (c:DCode) (K G:Nat→Nat→Prop) (p:Nat) (h:Nat→Prop):Nat→Nat→Prop
 | ent {l:Nat} (h0:¬h l):LostP c K G p h (eN c p) l
 | gen {i j l:Nat} (h0:zaC c p i) (hj:j∈zax c i) (h1:zvb c K G i l):LostP c K G p h j l
 | pass {i j l:Nat} (h0:zaC c p i) (hj:j∈zax c i) (h1:LostP c K G p h i l) (h2:zqp c G i l):LostP c K G p h j l
theorem LostP.mono {c:DCode} {K K' G G':Nat→Nat→Prop} {p:Nat} {h h':Nat→Prop} (hK:∀ q l,K' q l→K q l) (hG:∀ q l,G' q l→G q l) (hh:∀ l,h' l→h l) {i l:Nat} (hl:LostP c K G p h i l):LostP c K' G' p h' i l:=by
 induction hl with
 | ent h0=>exact .ent fun e=>h0 (hh _ e)
 | gen h0 hj h1=>exact .gen h0 hj (h1.imp id fun ⟨a,b,d⟩=>⟨a,fun e=>b (hK _ _ e),fun e=>d (hG _ _ e)⟩)
 | pass h0 hj _ h2 ih=>exact .pass h0 hj ih ⟨h2.1,fun ⟨a,b⟩=>h2.2 ⟨a,hG _ _ b⟩⟩
abbrev Tab:=List (Nat×Nat)
def tbl (T:Tab) (q:Nat):Nat×Nat:=T.getD q (0,0)
def tK (T:Tab) (q l:Nat):Prop:=(tbl T q).1.testBit l=true
def tG (T:Tab) (q l:Nat):Prop:=(tbl T q).2.testBit l=true
theorem zgY {T:Tab} {q:Nat} (h:q<T.length):T[q]=tbl T q:=by unfold tbl;rw [List.getD_eq_getElem?_getD,List.getElem?_eq_getElem h];rfl
theorem ztZ {T:Tab} {q r:Nat} {v:Nat×Nat} (h:q<T.length):tbl (T.set q v) r=if q=r then v else tbl T r:=by
 unfold tbl
 rw [List.getD_eq_getElem?_getD,List.getD_eq_getElem?_getD,List.getElem?_set]
 by_cases e:q=r
 · subst e;simp [h]
 simp [e]
def zrC (c:DCode) (T:Tab):Prop:=T.length=c.procs.length∧∀ q,(tbl T q).1<64∧(tbl T q).2<64
def aft (c:DCode) (T:Tab) (i m:Nat):Nat:=
 if (zal c i).op=6 then m ||| 2^agN c i else if (zal c i).op=7 then zhE m (2^agN c i) else if (zal c i).op=4 then (m &&& (tbl T (agN c i)).1) ||| (tbl T (agN c i)).2 else m
theorem ztj {c:DCode} {T:Tab} (hc:CodeR c) (hT:zrC c T) {i m:Nat} (hi:i<c.ins.length) (hm:m<64):aft c T i m<64:=by
 unfold aft
 split
 · rename_i h
   exact zqm hm (zcl hc hi (.inl h)).2.2
 split
 · exact Nat.lt_of_le_of_lt (zf0 _ _) hm
 split
 · exact Nat.or_lt_two_pow (n:=6) (Nat.lt_of_le_of_lt Nat.and_le_left hm) (hT.2 _).2
 exact hm
theorem zkn {c:DCode} {T:Tab} {i m l:Nat}:(aft c T i m).testBit l=false↔zvb c (tK T) (tG T) i l∨(zqp c (tG T) i l∧m.testBit l=false):=by
 unfold aft zvb zqp tK tG
 split
 · rename_i h
   rw [Nat.testBit_or,Nat.testBit_two_pow]
   have e6:((zal c i).op=6)=True:=eq_true h
   have e4:((zal c i).op=4)=False:=eq_false (by omega)
   have e7:((zal c i).op=7)=False:=eq_false (by omega)
   simp only [e6,e4,e7,true_and,false_and,false_or,or_false,not_false_eq_true,and_true,Bool.or_eq_false_iff,decide_eq_false_iff_not]
   exact ⟨fun ⟨a,b⟩=>⟨b,a⟩,fun ⟨a,b⟩=>⟨b,a⟩⟩
 rename_i h6
 have e6:((zal c i).op=6)=False:=eq_false h6
 split
 · rename_i h
   have e7:((zal c i).op=7)=True:=eq_true h
   have e4:((zal c i).op=4)=False:=eq_false (by omega)
   rw [zcd,Nat.testBit_two_pow]
   simp only [e6,e4,e7,true_and,false_and,false_or,or_false,not_false_eq_true,and_true,Bool.and_eq_false_iff,Bool.not_eq_false',decide_eq_true_eq]
   exact ⟨fun h=>h.elim .inr .inl,fun h=>h.elim .inr .inl⟩
 rename_i h7
 have e7:((zal c i).op=7)=False:=eq_false h7
 split
 · rename_i h
   have e4:((zal c i).op=4)=True:=eq_true h
   rw [Nat.testBit_or,Nat.testBit_and]
   simp only [e6,e4,e7,true_and,false_and,false_or,not_false_eq_true]
   cases (tbl T (agN c i)).1.testBit l<;>cases (tbl T (agN c i)).2.testBit l<;>cases m.testBit l<;>simp
 rename_i h4
 simp [h6,h7,h4]
noncomputable def zbU (c:DCode) (T:Tab) (p h:Nat):List Nat:=(List.range c.ins.length).map fun i=>m6 fun l=>¬LostP c (tK T) (tG T) p (fun l=>h.testBit l=true) i l
theorem zc5 (c:DCode) (T:Tab) (p h:Nat):(zbU c T p h).length=c.ins.length:=by simp [zbU]
theorem zhF {c:DCode} {T:Tab} {p h i:Nat} (hi:i<c.ins.length):zau (zbU c T p h) i=m6 fun l=>¬LostP c (tK T) (tG T) p (fun l=>h.testBit l=true) i l:=by
 rw [←zaX (by rw [zc5];exact hi)];simp [zbU]
theorem zgx {c:DCode} {T:Tab} {p h:Nat}:∀ x∈zbU c T p h,x<64:=fun x hx=>by
 unfold zbU at hx
 obtain ⟨i,_,rfl⟩:=List.mem_map.1 hx
 exact zit
structure FL (c:DCode) (T:Tab) (p h:Nat) (out:List Nat):Prop where
 len:out.length=c.ins.length
 lt:∀ x∈out,x<64
 snd:∀ i l,i<c.ins.length→l<6→(zau out i).testBit l=false→LostP c (tK T) (tG T) p (fun l=>h.testBit l=true) i l
 ent:∀ l,l<6→h.testBit l=false→(zau out (eN c p)).testBit l=false
theorem FL.lt0 {c:DCode} {T:Tab} {p h:Nat} {out:List Nat} (h:FL c T p h out) (i:Nat):zau out i<64:=by
 rcases Nat.lt_or_ge i out.length with hi | hi
 · exact h.lt _ (zkl hi)
 unfold zau;rw [List.getD_eq_getElem?_getD,List.getElem?_eq_none hi];simp
theorem zgy {l:Nat} (h:l<6):(63:Nat).testBit l=true:=by
 have:l=0∨l=1∨l=2∨l=3∨l=4∨l=5:=by omega
 rcases this with rfl | rfl | rfl | rfl | rfl | rfl<;>rfl
theorem FL.start {c:DCode} {T:Tab} {p h:Nat} (hc:CodeR c) (hp:p<c.entry.length) (hh:h<64):FL c T p h ((List.replicate c.ins.length 63).set (eN c p) h):=by
 have he:=(zeG hc hp).2.1
 have hr:(List.replicate c.ins.length 63).length=c.ins.length:=by simp
 have hg:∀ i,i<c.ins.length→zau (List.replicate c.ins.length 63) i=63:=fun i hi=>by rw [←zaX (by rw [hr];exact hi)];simp
 refine ⟨by simp,fun x hx=>?_,fun i l hi hl hb=>?_,fun l hl hb=>?_⟩
 · rcases zio hx with rfl | hx
   · exact hh
   rw [(List.mem_replicate.1 hx).2];omega
 · rw [zbQ (by rw [hr];exact he)] at hb
   split at hb
   · rename_i e
     subst e
     exact .ent (by rw [hb];simp)
   rw [hg i hi,zgy hl] at hb;cases hb
 rw [zbQ (by rw [hr];exact he),if_pos rfl];exact hb
theorem ztk {a b:Nat} (h:a &&& b≠a):a &&& b<a:=by
 have:a &&& b≤a:=Nat.and_le_left
 omega
def zvc (c:DCode) (T:Tab) (out:List Nat) (i:Nat):Prop:=∀ j∈zax c i,zau out j &&& aft c T i (zau out i)=zau out j
theorem FL.fin {c:DCode} {T:Tab} {p h:Nat} {out:List Nat} (hF:FL c T p h out) (hc:CodeR c) (hp:p<c.entry.length) (hs:∀ i,zaC c p i→zvc c T out i):out=zbU c T p h:=by
 refine List.ext_getElem (by rw [hF.len,zc5]) fun i h1 h2=>?_
 rw [zaX h1,zaX h2,zhF (by rw [←hF.len];exact h1)]
 refine zqn (hF.lt0 i) fun l hl=>⟨fun hb hn=>?_,fun hn=>zeg fun hb=>hn (hF.snd i l (by rw [←hF.len];exact h1) hl hb)⟩
 have key:∀ {i l:Nat},LostP c (tK T) (tG T) p (fun l=>h.testBit l=true) i l→l<6→(zau out i).testBit l=false:=fun {i l} hn=>by
   induction hn with
   | ent h0=>exact fun hl=>hF.ent _ hl (by simpa using h0)
   | gen h0 hj h1=>
     intro hl
     rw [←hs _ h0 _ hj,Nat.testBit_and,zkn.2 (.inl h1),Bool.and_false]
   | pass h0 hj _ h2 ih=>
     intro hl
     rw [←hs _ h0 _ hj,Nat.testBit_and,zkn.2 (.inr ⟨h2,ih hl⟩),Bool.and_false]
 rw [key hn hl] at hb;cases hb
def FromP (c:DCode) (p q:Nat):Prop:=q=p∨RP (zis c) p q
theorem FromP.lt {c:DCode} {p q:Nat} (hp:p<c.procs.length) (h:FromP c p q):q<c.procs.length:=by
 rcases h with rfl | h
 · exact hp
 exact h.keeps (p:=fun i=>i<c.procs.length) hp fun i j _ hj=>(zaE.1 hj).1
theorem FromP.trans {c:DCode} {p q r:Nat} (h:FromP c p q) (k:FromP c q r):FromP c p r:=by
 rcases h with rfl | h
 · exact k
 rcases k with rfl | k
 · exact .inr h
 exact .inr (h.trans k)
theorem FromP.call {c:DCode} {p q r:Nat} (h:FromP c p q) (hr:r<c.procs.length) (k:zip c q 4 r):FromP c p r:=h.trans (.inr (.one (zaE.2 ⟨hr,k⟩)))
noncomputable def zeh (c:DCode) (p:Nat):Nat:=m6 fun l=>¬ ∃ q i,q<c.procs.length∧FromP c p q∧zaC c q i∧(zal c i).op=7∧agN c i=l
inductive LostE (c:DCode):Nat→Nat→Nat→Prop
 | ent {p l:Nat}:LostE c p (eN c p) l
 | unl {p i j l:Nat} (h0:zaC c p i) (hj:j∈zax c i) (ho:(zal c i).op=7) (ha:agN c i=l):LostE c p j l
 | cal {p i j l:Nat} (h0:zaC c p i) (hj:j∈zax c i) (ho:(zal c i).op=4) (hk:(zeh c (agN c i)).testBit l=false) (h1:LostE c (agN c i) (zN c (agN c i)) l):LostE c p j l
 | bck {p i j l:Nat} (h0:zaC c p i) (hj:j∈zax c i) (ho:(zal c i).op=4) (h2:LostE c p i l) (h1:LostE c (agN c i) (zN c (agN c i)) l):LostE c p j l
 | pass {p i j l:Nat} (h0:zaC c p i) (hj:j∈zax c i) (h6:¬((zal c i).op=6∧agN c i=l)) (h4:¬(zal c i).op=4) (h1:LostE c p i l):LostE c p j l
noncomputable def zcr (c:DCode):Tab:=(List.range c.procs.length).map fun p=>(zeh c p,m6 fun l=>¬LostE c p (zN c p) l)
theorem zko (c:DCode):(zcr c).length=c.procs.length:=by simp [zcr]
theorem zqq {c:DCode} {p:Nat} (hp:p<c.procs.length):tbl (zcr c) p=(zeh c p,m6 fun l=>¬LostE c p (zN c p) l):=by
 rw [←zgY (by rw [zko];exact hp)];simp [zcr]
theorem zqr {c:DCode} {T:Tab} (hl:T.length=c.procs.length) (h:∀ q,q<c.procs.length→(tbl T q).1<64∧(tbl T q).2<64):zrC c T:=⟨hl,fun q=>by
 rcases Nat.lt_or_ge q c.procs.length with hq | hq
 · exact h q hq
 unfold tbl;rw [List.getD_eq_getElem?_getD,List.getElem?_eq_none (by omega)];simp⟩
theorem zft (c:DCode):zrC c (zcr c):=zqr (zko c) fun q hq=>by rw [zqq hq];exact ⟨zit,zit⟩
noncomputable def zc6 (c:DCode) (T:Tab) (p:Nat):Nat:=zau (zbU c T p 0) (zN c p)
theorem zgz {c:DCode} (hc:CodeR c) {T:Tab} {p l:Nat} (hp:p<c.procs.length) (hl:l<6):(zc6 c T p).testBit l=false↔LostP c (tK T) (tG T) p (fun l=>(0:Nat).testBit l=true) (zN c p) l:=by
 have hz:=(zjb hc (p:=p) (by rw [hc.2.1.1];exact hp)).2.2
 unfold zc6
 rw [zhF hz]
 constructor
 · intro h
   refine Classical.byContradiction fun hn=>?_
   rw [zjw.2 ⟨hl,hn⟩] at h;cases h
 intro h
 cases e:(m6 fun l=>¬LostP c (tK T) (tG T) p (fun l=>(0:Nat).testBit l=true) (zN c p) l).testBit l
 · rfl
 exact absurd h (zjw.1 e).2
theorem zhG {c:DCode} (hc:CodeR c) {T:Tab} {p:Nat} (hp:p<c.procs.length):zc6 c T p<64:=by
 have hz:=(zjb hc (p:=p) (by rw [hc.2.1.1];exact hp)).2.2
 unfold zc6
 rw [zhF hz];exact zit
structure EI (c:DCode) (T:Tab):Prop where
 tab:zrC c T
 keep:∀ p,p<c.procs.length→(tbl T p).1=zeh c p
 snd:∀ p l,p<c.procs.length→l<6→(tbl T p).2.testBit l=false→LostE c p (zN c p) l
 desc:∀ p l,p<c.procs.length→l<6→(tbl T p).2.testBit l=false→(zc6 c T p).testBit l=false
theorem EI.lost {c:DCode} (hc:CodeR c) {T:Tab} (h:EI c T) {p i l:Nat} (hp:p<c.procs.length) (hl:l<6) (k:LostP c (tK T) (tG T) p (fun l=>(0:Nat).testBit l=true) i l):LostE c p i l:=by
 have he:=hc.2.1.1
 induction k with
 | ent _=>exact .ent
 | gen h0 hj h1=>
   have hi:=(zby hc (by rw [he];exact hp) h0).1
   rcases h1 with ⟨h1,h2⟩ | ⟨h1,h2,h3⟩
   · exact .unl h0 hj h1 h2
   have hq:=(zbN hc hi (.inl h1)).2
   refine .cal h0 hj h1 ?_ (h.snd _ _ hq hl (by unfold tG at h3;simpa using h3))
   unfold tK at h2
   rw [h.keep _ hq] at h2
   simpa using h2
 | @pass i j l h0 hj _ h2 ih=>
   have hi:=(zby hc (by rw [he];exact hp) h0).1
   by_cases h4:(zal c i).op=4
   · have hq:=(zbN hc hi (.inl h4)).2
     refine .bck h0 hj h4 (ih hl) (h.snd _ _ hq hl ?_)
     have:=h2.2
     unfold tG at this
     simpa [h4] using this
   exact .pass h0 hj h2.1 h4 (ih hl)
theorem EI.start (c:DCode) (hc:CodeR c):EI c ((List.range c.procs.length).map fun p=>(zeh c p,63)):=by
 have hl:((List.range c.procs.length).map fun p=>(zeh c p,63)).length=c.procs.length:=by simp
 have hat:∀ p,p<c.procs.length→tbl ((List.range c.procs.length).map fun p=>(zeh c p,63)) p=(zeh c p,63):=fun p hp=>by
   rw [←zgY (by rw [hl];exact hp)];simp
 refine ⟨zqr hl fun q hq=>by rw [hat q hq];exact ⟨zit,by omega⟩,fun p hp=>by rw [hat p hp],fun p l hp h6 hb=>?_,fun p l hp h6 hb=>?_⟩
 · rw [hat p hp,zgy h6] at hb;cases hb
 rw [hat p hp,zgy h6] at hb;cases hb
theorem EI.upd {c:DCode} (hc:CodeR c) {T:Tab} (h:EI c T) {p:Nat} (hp:p<c.procs.length):EI c (T.set p ((tbl T p).1,zc6 c T p)):=by
 have hpl:p<T.length:=by rw [h.tab.1];exact hp
 have hat:=fun r=>ztZ (T:=T) (q:=p) (r:=r) (v:=((tbl T p).1,zc6 c T p)) hpl
 have hle:∀ q l,l<6→(tbl T q).2.testBit l=false→(tbl (T.set p ((tbl T p).1,zc6 c T p)) q).2.testBit l=false:=fun q l hl hb=>by
   rw [hat]
   split
   · rename_i e;subst e;exact h.desc p l hp hl hb
   exact hb
 have hmono:∀ {q l:Nat},q<c.procs.length→l<6→(zc6 c T q).testBit l=false→(zc6 c (T.set p ((tbl T p).1,zc6 c T p)) q).testBit l=false:=fun {q l} hq hl hb=>by
   rw [zgz hc hq hl] at hb ⊢
   have key:∀ {i l:Nat},l<6→LostP c (tK T) (tG T) q (fun l=>(0:Nat).testBit l=true) i l→LostP c (tK (T.set p ((tbl T p).1,zc6 c T p))) (tG (T.set p ((tbl T p).1,zc6 c T p))) q (fun l=>(0:Nat).testBit l=true) i l:=fun {i l} hl k=>by
     have hK:∀ r l,tK (T.set p ((tbl T p).1,zc6 c T p)) r l↔tK T r l:=fun r l=>by
       unfold tK
       rw [hat]
       split
       · rename_i e;rw [←e]
       exact Iff.rfl
     have hG:∀ r,tG (T.set p ((tbl T p).1,zc6 c T p)) r l→tG T r l:=fun r e=>by
       unfold tG at e ⊢
       refine zeg fun hf=>?_
       rw [hle r l hl hf] at e;cases e
     clear hb
     induction k with
     | ent h0=>exact .ent h0
     | gen h0 hj h1=>exact .gen h0 hj (h1.imp id fun ⟨a,b,d⟩=>⟨a,fun e=>b ((hK _ _).1 e),fun e=>d (hG _ e)⟩)
     | pass h0 hj _ h2 ih=>exact .pass h0 hj (ih hl hG) ⟨h2.1,fun ⟨a,b⟩=>h2.2 ⟨a,hG _ b⟩⟩
   exact key hl hb
 refine ⟨⟨by simp [h.tab.1],fun q=>?_⟩,fun q hq=>?_,fun q l hq hl hb=>?_,fun q l hq hl hb=>?_⟩
 · rw [hat]
   split
   · exact ⟨(h.tab.2 p).1,zhG hc hp⟩
   exact h.tab.2 q
 · rw [hat]
   split
   · rename_i e;subst e;exact h.keep p hp
   exact h.keep q hq
 · rw [hat] at hb
   split at hb
   · rename_i e;subst e
     exact h.lost hc hp hl ((zgz hc hp hl).1 hb)
   exact h.snd q l hq hl hb
 rw [hat] at hb
 split at hb
 · rename_i e;subst e
   exact hmono hp hl hb
 exact hmono hq hl (h.desc q l hq hl hb)
theorem EI.le {c:DCode} (hc:CodeR c) {T:Tab} (h:EI c T) {p:Nat} (hp:p<c.procs.length):zc6 c T p≤(tbl T p).2:=by
 refine Nat.le_of_testBit fun l hb=>?_
 have hl:=zeE (zhG hc hp) hb
 refine zeg fun hf=>?_
 rw [h.desc p l hp hl hf] at hb;cases hb
theorem EI.fin {c:DCode} (hc:CodeR c) {T:Tab} (h:EI c T) (hs:∀ p,p<c.procs.length→zc6 c T p=(tbl T p).2):T=zcr c:=by
 refine List.ext_getElem (by rw [h.tab.1,zko]) fun p h1 h2=>?_
 have hp:p<c.procs.length:=by rw [←h.tab.1];exact h1
 rw [zgY h1,zgY h2,zqq hp]
 have key:∀ {p i l:Nat},LostE c p i l→p<c.procs.length→l<6→LostP c (tK T) (tG T) p (fun l=>(0:Nat).testBit l=true) i l:=fun {p i l} k=>by
   have hz:∀ {i l:Nat},(zal c i).op=4→i<c.ins.length→l<6→(agN c i<c.procs.length→l<6→LostP c (tK T) (tG T) (agN c i) (fun l=>(0:Nat).testBit l=true) (zN c (agN c i)) l)→¬tG T (agN c i) l:=fun {i l} ho hi hl k1=>by
     have hq:=(zbN hc hi (.inl ho)).2
     have:=(zgz hc hq hl).2 (k1 hq hl)
     rw [hs _ hq] at this
     unfold tG
     rw [this];simp
   induction k with
   | ent=>exact fun _ _=>.ent (by simp)
   | unl h0 hj ho ha=>exact fun _ _=>.gen h0 hj (.inl ⟨ho,ha⟩)
   | cal h0 hj ho hk _ ih=>
     intro hp hl
     have hi:=(zby hc (by rw [hc.2.1.1];exact hp) h0).1
     have hq:=(zbN hc hi (.inl ho)).2
     refine .gen h0 hj (.inr ⟨ho,?_,hz ho hi hl ih⟩)
     unfold tK
     rw [h.keep _ hq,hk];simp
   | bck h0 hj ho _ _ ih2 ih1=>
     intro hp hl
     have hi:=(zby hc (by rw [hc.2.1.1];exact hp) h0).1
     exact .pass h0 hj (ih2 hp hl) ⟨fun h=>by omega,fun h=>hz ho hi hl ih1 h.2⟩
   | pass h0 hj h6 h4 _ ih=>exact fun hp hl=>.pass h0 hj (ih hp hl) ⟨h6,fun h=>h4 h.1⟩
 refine Prod.ext (h.keep p hp) (zqn (h.tab.2 p).2 fun l hl=>⟨fun hb hn=>?_,fun hn=>zeg fun hb=>hn (h.snd p l hp hl hb)⟩)
 have:=(zgz hc hp hl).2 (key hn hp hl)
 rw [hs p hp] at this
 rw [this] at hb;cases hb
def zqs (T:Tab):Nat:=(T.map (·.2)).sum
theorem zsa {T:Tab} {p:Nat} {v:Nat×Nat} (hp:p<T.length):zqs (T.set p v)+(tbl T p).2=zqs T+v.2:=by
 unfold zqs
 rw [List.map_set]
 have:=zgX (l:=T.map (·.2)) (i:=p) (v:=v.2) (by simpa using hp)
 rw [←zaX (by simpa using hp)] at this
 rw [←zgY hp]
 simpa using this
def zb0 (c:DCode):Nat:=(plc zja c.procs).toNat
inductive RootP (c:DCode):Nat→Prop
 | main:RootP c (zb0 c)
 | spawn {r p q:Nat} (h0:RootP c r) (h1:FromP c r p) (h2:zip c p 5 q) (hq:q<c.procs.length):RootP c q
def UsedP (c:DCode) (p:Nat):Prop:=∃ r,RootP c r∧FromP c r p
theorem zdn {c:DCode} (hc:CodeR c):plc zja c.procs=(zb0 c:Int)∧zb0 c<c.procs.length:=by
 have h:=ztW hc
 have h2:=hc.2.1.1
 unfold zb0
 omega
theorem RootP.lt {c:DCode} (hc:CodeR c) {r:Nat} (h:RootP c r):r<c.procs.length:=by
 cases h with
 | main=>exact (zdn hc).2
 | spawn _ _ _ hq=>exact hq
theorem UsedP.lt {c:DCode} (hc:CodeR c) {p:Nat} (h:UsedP c p):p<c.procs.length:=by
 obtain ⟨r,h1,h2⟩:=h
 exact h2.lt (h1.lt hc)
inductive LostM (c:DCode) (K G:Nat→Nat→Prop):Nat→Option Nat→Nat→Prop
 | root {p l:Nat} (h:RootP c p):LostM c K G p none l
 | call {p i l:Nat} (hu:UsedP c p) (h0:zaC c p i) (ho:(zal c i).op=4) (h:LostM c K G p (some i) l):LostM c K G (agN c i) none l
 | ent {p l:Nat} (h:LostM c K G p none l):LostM c K G p (some (eN c p)) l
 | gen {p i j l:Nat} (h0:zaC c p i) (hj:j∈zax c i) (h1:zvb c K G i l):LostM c K G p (some j) l
 | pass {p i j l:Nat} (h0:zaC c p i) (hj:j∈zax c i) (h1:LostM c K G p (some i) l) (h2:zqp c G i l):LostM c K G p (some j) l
noncomputable def znS (c:DCode) (p:Nat):Nat:=m6 fun l=>¬LostM c (tK (zcr c)) (tG (zcr c)) p none l
noncomputable def zt0 (c:DCode):List Nat:=(List.range c.procs.length).map (znS c)
theorem zhH (c:DCode):(zt0 c).length=c.procs.length:=by simp [zt0]
theorem zmQ {c:DCode} {p:Nat} (hp:p<c.procs.length):zau (zt0 c) p=znS c p:=by rw [←zaX (by rw [zhH];exact hp)];simp [zt0]
structure BI (c:DCode) (out:List Nat):Prop where
 len:out.length=c.procs.length
 lt:∀ x∈out,x<64
 snd:∀ p l,p<c.procs.length→l<6→(zau out p).testBit l=false→LostM c (tK (zcr c)) (tG (zcr c)) p none l
 root:∀ p l,RootP c p→l<6→(zau out p).testBit l=false
theorem BI.lt0 {c:DCode} {out:List Nat} (h:BI c out) (i:Nat):zau out i<64:=by
 rcases Nat.lt_or_ge i out.length with hi | hi
 · exact h.lt _ (zkl hi)
 unfold zau;rw [List.getD_eq_getElem?_getD,List.getElem?_eq_none hi];simp
theorem znT {c:DCode} {T:Tab} {p h i l:Nat} (hi:i<c.ins.length) (hl:l<6):(zau (zbU c T p h) i).testBit l=false↔LostP c (tK T) (tG T) p (fun l=>h.testBit l=true) i l:=by
 rw [zhF hi]
 constructor
 · intro h
   refine Classical.byContradiction fun hn=>?_
   rw [zjw.2 ⟨hl,hn⟩] at h;cases h
 intro k
 cases e:(m6 fun l=>¬LostP c (tK T) (tG T) p (fun l=>h.testBit l=true) i l).testBit l
 · rfl
 exact absurd k (zjw.1 e).2
theorem BI.start {c:DCode} (hc:CodeR c) (out:List Nat) (hl:out.length=c.procs.length) (h:∀ p,p<c.procs.length→(RootP c p→zau out p=0)∧(¬RootP c p→zau out p=63)):BI c out:=by
 refine ⟨hl,fun x hx=>?_,fun p l hp h6 hb=>?_,fun p l hr h6=>?_⟩
 · obtain ⟨i,hi,rfl⟩:=List.getElem_of_mem hx
   rw [zaX hi]
   have:=h i (by omega)
   by_cases hr:RootP c i
   · rw [this.1 hr];omega
   rw [this.2 hr];omega
 · by_cases hr:RootP c p
   · exact .root hr
   rw [(h p hp).2 hr,zgy h6] at hb;cases hb
 rw [(h p (hr.lt hc)).1 hr];simp
theorem BI.fin {c:DCode} (hc:CodeR c) {out:List Nat} (h:BI c out) (hs:∀ p i,UsedP c p→zaC c p i→(zal c i).op=4→zau out (agN c i) &&& zau (zbU c (zcr c) p (zau out p)) i=zau out (agN c i)):out=zt0 c:=by
 refine List.ext_getElem (by rw [h.len,zhH]) fun p h1 h2=>?_
 have hp:p<c.procs.length:=by rw [←h.len];exact h1
 rw [zaX h1,zaX h2,zmQ hp]
 have key:∀ {p:Nat} {o:Option Nat} {l:Nat},LostM c (tK (zcr c)) (tG (zcr c)) p o l→l<6→match o with
     | none=>(zau out p).testBit l=false
     | some i=>LostP c (tK (zcr c)) (tG (zcr c)) p (fun l=>(zau out p).testBit l=true) i l:=fun {p o l} k=>by
   induction k with
   | root hr=>exact fun hl=>h.root _ _ hr hl
   | @call p i l hu h0 ho _ ih=>
     intro hl
     have hil:=(zby hc (by rw [hc.2.1.1];exact hu.lt hc) h0).1
     simp only
     rw [←hs p i hu h0 ho,Nat.testBit_and,(znT hil hl).2 (ih hl),Bool.and_false]
   | ent _ ih=>exact fun hl=>.ent (by have:=ih hl;simp only at this;rw [this];simp)
   | gen h0 hj h1=>exact fun hl=>.gen h0 hj h1
   | pass h0 hj _ h2 ih=>exact fun hl=>.pass h0 hj (ih hl) h2
 refine zqn (h.lt0 p) fun l hl=>⟨fun hb hn=>?_,fun hn=>zeg fun hb=>hn (h.snd p l hp hl hb)⟩
 have:=key hn hl
 simp only at this
 rw [this] at hb;cases hb
noncomputable def zei (c:DCode) (i:Nat):Nat:=@ite _ (UsedP c (zat c i).toNat) (Classical.propDecidable _) (zau (zbU c (zcr c) (zat c i).toNat (znS c (zat c i).toNat)) i) 63
noncomputable def zgZ (c:DCode):List Nat:=(List.range c.ins.length).map (zei c)
theorem zgA (c:DCode):(zgZ c).length=c.ins.length:=by simp [zgZ]
theorem zsb {c:DCode} {i:Nat} (hi:i<c.ins.length):zau (zgZ c) i=zei c i:=by rw [←zaX (by rw [zgA];exact hi)];simp [zgZ]
theorem zcu {l:List Nat} (h:∀ x∈l,x<64) (i:Nat):zau l i<64:=by
 rcases Nat.lt_or_ge i l.length with hi | hi
 · exact h _ (zkl hi)
 unfold zau;rw [List.getD_eq_getElem?_getD,List.getElem?_eq_none hi];simp
theorem zqt (c:DCode) (i:Nat):zei c i<64:=by
 unfold zei
 split
 · exact zcu zgx i
 omega
theorem zkp (c:DCode):∀ x∈zgZ c,x<64:=fun x hx=>by
 obtain ⟨i,_,rfl⟩:=List.mem_map.1 hx
 exact zqt c i
theorem ziu {c:DCode} {i p:Nat} (hp:zat c i=p) (hu:UsedP c p):zei c i=zau (zbU c (zcr c) p (znS c p)) i:=by
 unfold zei
 rw [hp,Int.toNat_natCast,if_pos hu]
theorem zjx {c:DCode} {i p:Nat} (hp:zat c i=p) (hu:¬UsedP c p):zei c i=63:=by
 unfold zei
 rw [hp,Int.toNat_natCast,if_neg hu]
inductive MetP (c:DCode):Nat→Prop
 | root {p:Nat} (h:RootP c p):MetP c (eN c p)
 | call {i:Nat} (h:MetP c i) (ho:(zal c i).op=4):MetP c (eN c (agN c i))
 | next {i j:Nat} (h:MetP c i) (ho:¬(zal c i).op=4) (hj:j∈zax c i):MetP c j
 | back {i j:Nat} (h:MetP c i) (ho:(zal c i).op=4) (hz:MetP c (zN c (agN c i))) (hj:j∈zax c i):MetP c j
theorem MetP.lt {c:DCode} (hc:CodeR c) {i:Nat} (h:MetP c i):i<c.ins.length:=by
 induction h with
 | root h=>exact (zeG hc (by rw [hc.2.1.1];exact h.lt hc)).2.1
 | call _ ho ih=>exact (zeG hc (by rw [hc.2.1.1];exact (zbN hc ih (.inl ho)).2)).2.1
 | next _ _ hj ih=>exact (zcj hc ih hj).1
 | back _ _ _ hj ih _=>exact (zcj hc ih hj).1
inductive MayP (c:DCode):Nat→Nat→Prop
 | lock {i j l:Nat} (h:MetP c i) (ho:(zal c i).op=6) (ha:agN c i=l) (hj:j∈zax c i):MayP c j l
 | pass {i j l:Nat} (h:MetP c i) (ho:¬(zal c i).op=4) (ha:¬((zal c i).op=7∧agN c i=l)) (hm:MayP c i l) (hj:j∈zax c i):MayP c j l
 | call {i l:Nat} (h:MetP c i) (ho:(zal c i).op=4) (hm:MayP c i l):MayP c (eN c (agN c i)) l
 | back {i j l:Nat} (h:MetP c i) (ho:(zal c i).op=4) (hz:MetP c (zN c (agN c i))) (hm:MayP c (zN c (agN c i)) l) (hj:j∈zax c i):MayP c j l
noncomputable def zeU (c:DCode):List Bool:=zbl c.ins.length (MetP c)
noncomputable def zlB (c:DCode):List Nat:=(List.range c.ins.length).map fun i=>m6 (MayP c i)
theorem zhI (c:DCode):(zlB c).length=c.ins.length:=by simp [zlB]
theorem zmR {c:DCode} {i:Nat} (hi:i<c.ins.length):zau (zlB c) i=m6 (MayP c i):=by rw [←zaX (by rw [zhI];exact hi)];simp [zlB]
theorem zqu (c:DCode):∀ x∈zlB c,x<64:=fun x hx=>by
 obtain ⟨i,_,rfl⟩:=List.mem_map.1 hx
 exact zit
structure MetC (c:DCode) (M:Nat→Prop):Prop where
 root:∀ p,RootP c p→M (eN c p)
 call:∀ i,M i→(zal c i).op=4→M (eN c (agN c i))
 next:∀ i j,M i→¬(zal c i).op=4→j∈zax c i→M j
 back:∀ i j,M i→(zal c i).op=4→M (zN c (agN c i))→j∈zax c i→M j
theorem MetC.all {c:DCode} {M:Nat→Prop} (h:MetC c M) {i:Nat} (k:MetP c i):M i:=by
 induction k with
 | root h1=>exact h.root _ h1
 | call _ ho ih=>exact h.call _ ih ho
 | next _ ho hj ih=>exact h.next _ _ ih ho hj
 | back _ ho _ hj ih1 ih2=>exact h.back _ _ ih1 ho ih2 hj
structure MayC (c:DCode) (H:Nat→Nat→Prop):Prop where
 lock:∀ i j,MetP c i→(zal c i).op=6→j∈zax c i→H j (agN c i)
 pass:∀ i j l,MetP c i→l<6→¬(zal c i).op=4→¬((zal c i).op=7∧agN c i=l)→H i l→j∈zax c i→H j l
 call:∀ i l,MetP c i→l<6→(zal c i).op=4→H i l→H (eN c (agN c i)) l
 back:∀ i j l,MetP c i→l<6→(zal c i).op=4→MetP c (zN c (agN c i))→H (zN c (agN c i)) l→j∈zax c i→H j l
theorem MayC.all {c:DCode} {H:Nat→Nat→Prop} (h:MayC c H) {i l:Nat} (hl:l<6) (k:MayP c i l):H i l:=by
 induction k with
 | lock hm ho ha hj=>exact ha▸h.lock _ _ hm ho hj
 | pass hm ho ha _ hj ih=>exact h.pass _ _ _ hm hl ho ha (ih hl) hj
 | call hm ho _ ih=>exact h.call _ _ hm hl ho (ih hl)
 | back hm ho hz _ hj ih=>exact h.back _ _ _ hm hl ho hz (ih hl) hj
def F181 (a0 a1 a2:Value) (w:World) (R:VW):Prop:=
 oP (Instr.box 94 a0) w fun x3 w=>
 rF 94 x3 0 w fun x7=>
 rL 3 x7 w fun x8=>
 rB .eql 3 T0 U0 x8 (iV 6) w fun x10=>
 BR x10
 (rF 94 x3 1 w fun x12=>
 rL 3 x12 w fun x13=>
 rD (convert 3 139 x13) w fun x14=>
 rB .shl 3 U0 T0 (iV 1) x14 w fun x15=>
 rB .or 3 T0 T0 a2 x15 w fun x16=>
 R x16 w)
 (rB .eql 3 T0 U0 x8 (iV 7) w fun x18=>
 BR x18
 (rF 94 x3 1 w fun x20=>
 rL 3 x20 w fun x21=>
 rD (convert 3 139 x21) w fun x22=>
 rB .shl 3 U0 T0 (iV 1) x22 w fun x23=>
 rB .andNot 3 T0 T0 a2 x23 w fun x24=>
 R x24 w)
 (rB .eql 3 T0 U0 x8 (iV 4) w fun x26=>
 BR x26
 ((fun w=>rF 94 x3 1 w fun x29=>
 rL 3 x29 w fun x30=>
 rX 162 a1 x30 w fun x31=>
 rF 197 x31 0 w fun x32=>
 rL 3 x32 w fun x33=>
 rB .and 3 T0 T0 a2 x33 w fun x34=>
 rF 94 x3 1 w fun x36=>
 rL 3 x36 w fun x37=>
 rX 162 a1 x37 w fun x38=>
 rF 197 x38 1 w fun x39=>
 rL 3 x39 w fun x40=>
 rB .or 3 T0 T0 x34 x40 w fun x41=>
 R x41 w) (World.drew1 w))
 (R a2 w)))
def cfg181:Cfg:=⟨extL,[],[],[(7,[0,1,2,3,4,5,6,7,8,9,10,11,12,13,14,15],0)],[],[],[]⟩
theorem F181_call {a0 a1 a2:Value} {w:World} {R:VW} (h:F181 a0 a1 a2 w R):cL 181 [a0,a1,a2] w R:=co (g:=cfg181) Tryz.func181 (by kernel_rfl) (by kernel_rfl) (by kernel_rfl) h
def F174 (a0 a1 a2:Value) (w:World) (R:VW):Prop:=
 oP (Instr.box 94 a0) w fun x3 w=>
 rF 94 x3 0 w fun x7=>
 rL 3 x7 w fun x8=>
 rB .eql 3 T0 U0 x8 (iV 6) w fun x10=>
 BR x10
 (rF 94 x3 1 w fun x12=>
 rL 3 x12 w fun x13=>
 cL 127 [x13] w fun x14 w=>
 rB .or 3 T0 T0 a2 x14 w fun x15=>
 R x15 w)
 (rB .eql 3 T0 U0 x8 (iV 7) w fun x17=>
 BR x17
 (rF 94 x3 1 w fun x19=>
 rL 3 x19 w fun x20=>
 cL 127 [x20] w fun x21 w=>
 cL 128 [a2,x21] w fun x22 w=>
 R x22 w)
 (rB .eql 3 T0 U0 x8 (iV 4) w fun x24=>
 BR x24
 ((fun w=>rF 94 x3 1 w fun x27=>
 rL 3 x27 w fun x28=>
 rX 162 a1 x28 w fun x29=>
 rF 197 x29 0 w fun x30=>
 rL 3 x30 w fun x31=>
 rB .and 3 T0 T0 a2 x31 w fun x32=>
 rF 94 x3 1 w fun x34=>
 rL 3 x34 w fun x35=>
 rX 162 a1 x35 w fun x36=>
 rF 197 x36 1 w fun x37=>
 rL 3 x37 w fun x38=>
 rB .or 3 T0 T0 x32 x38 w fun x39=>
 R x39 w) (World.drew1 w))
 (R a2 w)))
def cfg174:Cfg:=⟨extL,[],[],[(7,[0,1,2,3,4,5,6,7,8,9,10,11,12,13,14,15],0)],[],[],[]⟩
theorem F174_call {a0 a1 a2:Value} {w:World} {R:VW} (h:F174 a0 a1 a2 w R):cL 174 [a0,a1,a2] w R:=co (g:=cfg174) Tryz.func174 (by kernel_rfl) (by kernel_rfl) (by kernel_rfl) h
open Rep (rep)
structure DEffect where
 keep:Int
 gen:Int
theorem DEffect.ext_iff {x y:DEffect}:x=y↔(x.keep=y.keep∧x.gen=y.gen):=⟨fun h=>by rw [h];exact ⟨rfl,rfl⟩,fun h=>by obtain ⟨h0,h1⟩:=h;cases x;cases y;simp only at h0 h1;simp only [h0,h1]⟩
instance:DecidableEq DEffect:=fun x y=>decidable_of_iff (x.keep=y.keep∧x.gen=y.gen) DEffect.ext_iff.symm
instance:Rep DEffect:=Rep.via fun x=>(x.keep,x.gen)
theorem zhm {w:World} {b o:Nat} {x:DEffect} (h:At w b o x):At w b (o+0) x.keep:=zcF (α:=Int) (β:=Int) (p:=(x.keep,x.gen)) h
theorem zdV {w:World} {b o:Nat} {x:DEffect} (h:At w b o x):At w b (o+1) x.gen:=zbq (α:=Int) (β:=Int) (p:=(x.keep,x.gen)) h
instance:RepZ DEffect:=⟨⟨(RepZ.zv:Int),(RepZ.zv:Int)⟩,RepZ.zc (Int×Int),fun w=>RepZ.zr (α:=Int×Int) w⟩
theorem zjc {γ:Type} {H:List Nat→World→γ→Prop} {F:List Nat} {w:World} {b o:Nat} {G:List Nat} {x:DEffect} {upd:DEffect→γ} (h:Lens H F w b o G x upd) :
   ∃ G1,Lens H F w b (o+1) G1 x.gen (fun y=>upd ⟨x.keep,y⟩):=by
 have h':Lens H F w b o G (x.keep,x.gen) (fun p:Int×Int=>upd ⟨p.1,p.2⟩):=⟨h.here,h.sub,fun w' G' y' hc hO hs=>h.back w' G' _ hc hO hs⟩
 obtain ⟨G0,h'⟩:=h'.snd
 exact ⟨_,h'⟩
theorem zoG {w:World} {x:DEffect} (h_keep:I64 x.keep) (h_gen:I64 x.gen):Mine [] w (.agg #[.int .i64 x.keep,.int .i64 x.gen]) x:=⟨⟨[.int .i64 x.keep,.int .i64 x.gen],⟨[],[],[.int .i64 x.keep],[.int .i64 x.gen],rfl,rfl,⟨rfl,rfl,h_keep⟩,⟨rfl,rfl,h_gen⟩⟩,rfl⟩,List.nodup_nil,Wr.nil w⟩
instance:Flat DEffect:=⟨fun h=>Flat.flat (α:=Int×Int) h⟩
def zrD (x:Nat×Nat):DEffect:=⟨(x.1:Int),(x.2:Int)⟩
def zfL (T:Tab):List DEffect:=T.map zrD
theorem zdW (T:Tab):(zfL T).length=T.length:=by simp [zfL]
theorem zeH {T:Tab} {q:Nat} (h:q<(zfL T).length):(zfL T)[q]=zrD (tbl T q):=by
 have h':q<T.length:=by rw [←zdW];exact h
 rw [←zgY h'];simp [zfL]
theorem zsc (T:Tab) (q:Nat) (v:Nat×Nat):zfL (T.set q v)=(zfL T).set q (zrD v):=by simp [zfL,List.map_set]
theorem zd3 {n:Nat} (h:n<6):2^n<64:=Nat.pow_lt_pow_right (n:=6) (by omega) h
theorem FL.updM {c:DCode} {T:Tab} {p h m:Nat} {out:List Nat} (hF:FL c T p h out) (hc:CodeR c) (hp:p<c.entry.length) {i j:Nat} (hi:zaC c p i) (hj:j∈zax c i)
   (hm:∀ l,l<6→m.testBit l=false→LostP c (tK T) (tG T) p (fun l=>h.testBit l=true) i l):FL c T p h (out.set j (zau out j &&& aft c T i m)):=by
 have hil:=(zby hc hp hi).1
 have hjl:=(zcj hc hil hj).1
 refine ⟨by simp [hF.len],fun x hx=>?_,fun k l hk hl hb=>?_,fun l hl hb=>?_⟩
 · rcases zio hx with rfl | hx
   · exact Nat.lt_of_le_of_lt Nat.and_le_left (hF.lt0 j)
   exact hF.lt x hx
 · rw [zbQ (by rw [hF.len];exact hjl)] at hb
   split at hb
   · rename_i e
     subst e
     rw [Nat.testBit_and,Bool.and_eq_false_iff] at hb
     rcases hb with hb | hb
     · exact hF.snd j l hk hl hb
     rcases zkn.1 hb with h1 | ⟨h1,h2⟩
     · exact .gen hi hj h1
     exact .pass hi hj (hm l hl h2) h1
   exact hF.snd k l hk hl hb
 rw [zbQ (by rw [hF.len];exact hjl)]
 split
 · rename_i e
   rw [Nat.testBit_and,e,hF.ent l hl hb];rfl
 exact hF.ent l hl hb
theorem zqv {w W0 W1:World} {v0 v1:Value} {c:DCode} {T:Tab} {i m:Nat} (h0:Is W0 v0 (zal c i)) (e0:Ext W0 w) (h1:Is W1 v1 (zfL T)) (e1:Ext W1 w) (hc:CodeR c) (hT:zrC c T) (hi:i<c.ins.length) (hm:m<64) :
   CALL Tryz.prog 181 [v0,v1,.int .i64 (m:Int)] w fun r w'=>Ext w w'∧r=.int .i64 (aft c T i m:Nat):=by
 refine F181_call ?_
 unfold F181
 refine zbr h0 e0 fun w1 hx1 hA=>?_
 have hag4:=fun h=>zbN hc hi (.inl h)
 have hag6:=fun h=>zcl hc hi h
 have h8:=hc.1.procs8
 have haft:aft c T i m=if (zal c i).op=6 then m ||| 2^agN c i else if (zal c i).op=7 then zhE m (2^agN c i) else if (zal c i).op=4 then (m &&& (tbl T (agN c i)).1) ||| (tbl T (agN c i)).2 else m:=rfl
 rw [haft]
 clear haft
 generalize agN c i=q at *
 generalize zal c i=I at *
 refine zaa za6 ?_
 refine zab ty3 (zas hA) (Ext.refl _) fun _=>?_
 refine zao ?_
 refine br (fun c6=>?_) (fun c6=>?_)
 · obtain ⟨ha,_,hq⟩:=hag6 (.inl c6)
   have hp:=zd3 hq
   rw [if_pos c6]
   refine zaa za7 ?_
   refine zab ty3 (zav hA) (Ext.refl _) fun _=>?_
   rw [ha]
   refine zbA (by kernel_rfl) zh4 (by omega) ?_
   refine zda (by omega) ?_
   refine zeZ (by omega) (by omega) ?_
   exact ⟨hx1,rfl⟩
 rw [if_neg c6]
 refine zao ?_
 refine br (fun c7=>?_) (fun c7=>?_)
 · obtain ⟨ha,_,hq⟩:=hag6 (.inr c7)
   have hp:=zd3 hq
   rw [if_pos c7]
   refine zaa za7 ?_
   refine zab ty3 (zav hA) (Ext.refl _) fun _=>?_
   rw [ha]
   refine zbA (by kernel_rfl) zh4 (by omega) ?_
   refine zda (by omega) ?_
   refine ze8 (by omega) (by omega) ?_
   exact ⟨hx1,rfl⟩
 rw [if_neg c7]
 refine zao ?_
 refine br (fun c4=>?_) (fun c4=>?_)
 · obtain ⟨ha,hq⟩:=hag4 c4
   rw [if_pos c4]
   have hx2:=zak w1
   generalize World.drew1 w1=w2 at *
   have hql:q<(zfL T).length:=by rw [zdW,hT.1];exact hq
   have hr:=hT.2 q
   have hx12:=hx1.trans hx2
   refine zaa za7 ?_
   refine zab ty3 (zav hA) hx2 fun _=>?_
   rw [ha]
   refine zad zpK zi8 h1 hql fun b1 o1 hE=>?_
   rw [zeH] at hE
   refine zaa zpL ?_
   refine zab ty3 (zhm hE) (e1.trans hx12) fun _=>?_
   refine zdi (n:=(tbl T q).1) (by omega) (by omega) ?_
   refine zaa za7 ?_
   refine zab ty3 (zav hA) hx2 fun _=>?_
   rw [ha]
   refine zad zpK zi8 h1 hql fun b2 o2 hE2=>?_
   rw [zeH] at hE2
   refine zaa zh5 ?_
   refine zab ty3 (zdV hE2) (e1.trans hx12) fun _=>?_
   have:=Nat.and_le_left (n:=m) (m:=(tbl T q).1)
   refine zeZ (n:=(tbl T q).2) (by omega) (by omega) ?_
   exact ⟨hx12,rfl⟩
 rw [if_neg c4]
 exact ⟨hx1,rfl⟩
def F128 (a0 a1:Value) (w:World) (R:VW):Prop:=
 cL 175 [a0] w fun x6 w=>
 rD (Op.unary .not x6) w fun x7=>
 BR x7
 (R (iV 0) w)
 (cL 175 [a1] w fun x10 w=>
 rD (Op.unary .not x10) w fun x11=>
 BR x11
 (R (iV 0) w)
 (rB .sub 3 U0 T0 (iV 63) a1 w fun x15=>
 rB .and 3 T0 T0 a0 x15 w fun x16=>
 R x16 w))
def cfg128:Cfg:=⟨extL,[],[],[],[],[],[]⟩
theorem F128_call {a0 a1:Value} {w:World} {R:VW} (h:F128 a0 a1 w R):cL 128 [a0,a1] w R:=co (g:=cfg128) Tryz.func128 (by kernel_rfl) (by kernel_rfl) (by kernel_rfl) h
theorem zg0 {w:World} {a:Nat} {b:Nat}   (ha:a<64) (hb:b<64) :
   CALL Tryz.prog 128 [.int .i64 (a:Int),.int .i64 (b:Int)] w fun r w'=>Ext w w'∧(r=.int .i64 ((a &&& (63-b):Nat):Int)):=by
 refine F128_call ?_
 unfold F128
 refine (znP ).mono ?_
 rintro _ w1_ ⟨hx1_,rfl⟩
 refine zaz ?_
 refine br (fun c1=>?_) (fun c1=>?_)
 · refine ⟨hx1_,?_⟩
   first | rfl | (exfalso;omega)
 refine (znP ).mono ?_
 rintro _ w2_ ⟨hx2_,rfl⟩
 refine zaz ?_
 refine br (fun c2=>?_) (fun c2=>?_)
 · refine ⟨(hx1_.trans hx2_),?_⟩
   first | rfl | (exfalso;omega)
 have e63:(63:Int)-(b:Int)=((63-b:Nat):Int):=by omega
 refine zbf (by unfold I64;omega) ?_
 rw [e63]
 refine zdi (by omega) (by omega) ?_
 refine ⟨(hx1_.trans hx2_),?_⟩
 first | rfl | (exfalso;omega)
theorem zf1 {a b:Nat} (ha:a<64) (hb:b<64):a &&& (63-b)=zhE a b:=by
 refine Nat.eq_of_testBit_eq fun l=>?_
 rw [Nat.testBit_and,zcd]
 cases h:a.testBit l
 · rfl
 have hl:=zeE ha h
 have:=Nat.testBit_two_pow_sub_succ (n:=6) (x:=b) hb l
 rw [show 2^6-(b+1)=63-b by omega] at this
 rw [this,decide_eq_true hl,Bool.true_and]
theorem zmS {w W0 W1:World} {v0 v1:Value} {c:DCode} {T:Tab} {i m:Nat} (h0:Is W0 v0 (zal c i)) (e0:Ext W0 w) (h1:Is W1 v1 (zfL T)) (e1:Ext W1 w) (hc:CodeR c) (hT:zrC c T) (hi:i<c.ins.length) (hm:m<64) :
   CALL Tryz.prog 174 [v0,v1,.int .i64 (m:Int)] w fun r w'=>Ext w w'∧r=.int .i64 (aft c T i m:Nat):=by
 refine F174_call ?_
 unfold F174
 refine zbr h0 e0 fun w1 hx1 hA=>?_
 have hag4:=fun h=>zbN hc hi (.inl h)
 have hag6:=fun h=>zcl hc hi h
 have h8:=hc.1.procs8
 have haft:aft c T i m=if (zal c i).op=6 then m ||| 2^agN c i else if (zal c i).op=7 then zhE m (2^agN c i) else if (zal c i).op=4 then (m &&& (tbl T (agN c i)).1) ||| (tbl T (agN c i)).2 else m:=rfl
 rw [haft]
 clear haft
 generalize agN c i=q at *
 generalize zal c i=I at *
 refine zaa za6 ?_
 refine zab ty3 (zas hA) (Ext.refl _) fun _=>?_
 refine zao ?_
 refine br (fun c6=>?_) (fun c6=>?_)
 · obtain ⟨ha,_,hq⟩:=hag6 (.inl c6)
   have hp:=zd3 hq
   rw [if_pos c6]
   refine zaa za7 ?_
   refine zab ty3 (zav hA) (Ext.refl _) fun _=>?_
   rw [ha]
   refine (zef (by omega)).mono ?_
   rintro _ w2 ⟨hx2,rfl⟩
   refine zeZ (by omega) (by omega) ?_
   exact ⟨hx1.trans hx2,rfl⟩
 rw [if_neg c6]
 refine zao ?_
 refine br (fun c7=>?_) (fun c7=>?_)
 · obtain ⟨ha,_,hq⟩:=hag6 (.inr c7)
   have hp:=zd3 hq
   rw [if_pos c7]
   refine zaa za7 ?_
   refine zab ty3 (zav hA) (Ext.refl _) fun _=>?_
   rw [ha]
   refine (zef (by omega)).mono ?_
   rintro _ w2 ⟨hx2,rfl⟩
   refine (zg0 hm hp).mono ?_
   rintro _ w3 ⟨hx3,rfl⟩
   exact ⟨(hx1.trans hx2).trans hx3,by rw [zf1 hm hp]⟩
 rw [if_neg c7]
 refine zao ?_
 refine br (fun c4=>?_) (fun c4=>?_)
 · obtain ⟨ha,hq⟩:=hag4 c4
   rw [if_pos c4]
   have hx2:=zak w1
   generalize World.drew1 w1=w2 at *
   have hql:q<(zfL T).length:=by rw [zdW,hT.1];exact hq
   have hr:=hT.2 q
   have hx12:=hx1.trans hx2
   refine zaa za7 ?_
   refine zab ty3 (zav hA) hx2 fun _=>?_
   rw [ha]
   refine zad zpK zi8 h1 hql fun b1 o1 hE=>?_
   rw [zeH] at hE
   refine zaa zpL ?_
   refine zab ty3 (zhm hE) (e1.trans hx12) fun _=>?_
   refine zdi (n:=(tbl T q).1) (by omega) (by omega) ?_
   refine zaa za7 ?_
   refine zab ty3 (zav hA) hx2 fun _=>?_
   rw [ha]
   refine zad zpK zi8 h1 hql fun b2 o2 hE2=>?_
   rw [zeH] at hE2
   refine zaa zh5 ?_
   refine zab ty3 (zdV hE2) (e1.trans hx12) fun _=>?_
   have:=Nat.and_le_left (n:=m) (m:=(tbl T q).1)
   refine zeZ (n:=(tbl T q).2) (by omega) (by omega) ?_
   exact ⟨hx12,rfl⟩
 rw [if_neg c4]
 exact ⟨hx1,rfl⟩
def F88 (a0 a1:Value) (w:World) (R:VW):Prop:=
 NIL a0 <|
 rF 97 a0 0 w fun x9=>
 rF 31 x9 3 w fun x10=>
 rL 23 x10 w fun x11=>
 rX 23 x11 a1 w fun x13=>
 rL 3 x13 w fun x14=>
 LOOPI [5,6] [(Value.slice none 0 0),x14] w fun u3 w next3=>
 NIL a0 <|
 rF 97 a0 0 w fun x18=>
 rL 31 x18 w fun x19=>
 cL 85 [x19,a1] w fun x21 w=>
 rC (u3 6) x21 w fun x22=>
 BR x22
 (NIL a0 <|
 rF 97 a0 1 w fun x27=>
 rL 82 x27 w fun x28=>
 rX 82 x28 (u3 6) w fun x30=>
 rL 4 x30 w fun x31=>
 BR x31
 (oP (Instr.buildSlice 23 1 #[(0,(u3 6))]) w fun x34 w=>
 oP (Builtin.append_ #[23,23] 23 [(u3 5),x34].toArray) w fun x35 w=>
 rA (u3 6) (iV 1) w fun x24=>
 next3 [x35,x24] w)
 (rA (u3 6) (iV 1) w fun x24=>
 next3 [(u3 5),x24] w))
 (R (u3 5) w)
def cfg88:Cfg:=⟨extL,[],[(3,68719444064,[5,6])],[],[],[],[]⟩
theorem F88_call {a0 a1:Value} {w:World} {R:VW} (h:F88 a0 a1 w R):cL 88 [a0,a1] w R:=co (g:=cfg88) Tryz.func88 (by kernel_rfl) (by kernel_rfl) (by kernel_rfl) h
def F147 (a0 a1 a2 a3:Value) (w:World) (R:VW):Prop:=
 NIL a0 <|
 rF 97 a0 0 w fun x20=>
 rF 31 x20 4 w fun x21=>
 rL 29 x21 w fun x22=>
 rN 29 3 x22 w fun x23=>
 oP (Instr.makeSlice 23 x23 x23) w fun x24 w=>
 rN 23 3 x24 w fun x26=>
 LOOPI [27] [(iV 0)] w fun u3 w next3=>
 rC (u3 27) x26 w fun x28=>
 BR x28
 (rX 23 x24 (u3 27) w fun x32=>
 oS 3 x32 (iV 63) w fun w=>
 rA (u3 27) (iV 1) w fun x33=>
 next3 [x33] w)
 (NIL a0 <|
 rF 97 a0 0 w fun x37=>
 rF 31 x37 3 w fun x38=>
 rL 23 x38 w fun x39=>
 rX 23 x39 a2 w fun x41=>
 rL 3 x41 w fun x42=>
 rX 23 x24 x42 w fun x44=>
 oS 3 x44 a3 w fun w=>
 cL 88 [a0,a2] w fun x47 w=>
 LOOPI [12] [(Value.bool true)] w fun u10 w next10=>
 BR (u10 12)
 (rN 23 3 x47 w fun x50=>
 LOOPI [12,51] [(Value.bool false),(iV 0)] w fun u13 w next13=>
 rC (u13 51) x50 w fun x52=>
 BR x52
 (rX 23 x47 (u13 51) w fun x53=>
 rL 3 x53 w fun x54=>
 (fun w=>NIL a0 <|
 rF 97 a0 0 w fun x57=>
 rF 31 x57 4 w fun x58=>
 rL 29 x58 w fun x59=>
 rX 29 x59 x54 w fun x61=>
 rL 94 x61 w fun x62=>
 rX 23 x24 x54 w fun x66=>
 rL 3 x66 w fun x67=>
 cL 181 [x62,a1,x67] w fun x68 w=>
 cL 87 [a0,x54] w fun x71 w=>
 rN 23 3 x71 w fun x72=>
 LOOPI [12,73] [(u13 12),(iV 0)] w fun u17 w next17=>
 rC (u17 73) x72 w fun x74=>
 BR x74
 (rX 23 x71 (u17 73) w fun x75=>
 rL 3 x75 w fun x76=>
 (fun w=>rX 23 x24 x76 w fun x79=>
 rL 3 x79 w fun x80=>
 rB .and 3 T0 T0 x80 x68 w fun x82=>
 rX 23 x24 x76 w fun x85=>
 rL 3 x85 w fun x86=>
 rB .neq 3 T0 T0 x82 x86 w fun x87=>
 BR x87
 (rX 23 x24 x76 w fun x90=>
 rL 3 x90 w fun x91=>
 rB .and 3 T0 T0 x91 x68 w fun x93=>
 rX 23 x24 x76 w fun x94=>
 oS 3 x94 x93 w fun w=>
 rA (u17 73) (iV 1) w fun x95=>
 next17 [(Value.bool true),x95] w)
 (rA (u17 73) (iV 1) w fun x95=>
 next17 [(u17 12),x95] w)) (World.drew1 w))
 (rA (u13 51) (iV 1) w fun x96=>
 next13 [(u17 12),x96] w)) (World.drew1 w))
 (next10 [(u13 12)] w))
 (R x24 w))
def cfg147:Cfg:=⟨extL,[],[(3,17045652480,[27]),(10,158456325028528393712111374336,[12]),(13,158456325028526423387274399744,[12,51]),(17,79228153069531371854253658112,[12,73])],[(15,[0,1,2,3,4,5,6,7,8,9,10,11,12,13,14],0),(19,[0,1,2,3,4,5,6,7,8,9,10],0)],[],[],[]⟩
theorem F147_call {a0 a1 a2 a3:Value} {w:World} {R:VW} (h:F147 a0 a1 a2 a3 w R):cL 147 [a0,a1,a2,a3] w R:=co (g:=cfg147) Tryz.func147 (by kernel_rfl) (by kernel_rfl) (by kernel_rfl) h
open Rep (rep)
def zd4 (c:DCode) (i:Nat):Prop:=∃ p,p<c.procs.length∧zaC c p i
structure WL (W0:World) (b:Nat) (c:DCode):Prop where
 code:At W0 b 0 c
 live:At W0 b (0+5) (zbl c.ins.length (zd4 c))
theorem zgB {n m:Nat} {p:Nat→Prop} (h:n≤m) (hp:∀ i,n≤i→i<m→¬p i):zaS m p=zaS n p:=by
 induction m with
 | zero=>(have:n=0:=by omega);subst this;rfl
 | succ m ih=>
   by_cases e:n=m+1
   · rw [e]
   rw [zck (hp m (by omega) (by omega)),ih (by omega) fun i h1 h2=>hp i h1 (by omega)]
theorem ze9 {w W0:World} {b p:Nat} {c:DCode} (hW:WL W0 b c) (e0:Ext W0 w) (hc:CodeR c) (hp:p<c.procs.length) :
   CALL Tryz.prog 88 [.pointer (some ⟨b,0,none⟩),.int .i64 (p:Int)] w fun r w'=>Ext w w'∧Own w.heap.size w' r (zaA (zaS c.ins.length (zaC c p))):=by
 refine F88_call ?_
 unfold F88
 have hpe:p<c.entry.length:=by rw [hc.2.1.1];exact hp
 have hil:=hc.f.ins
 have h8:=hc.1.procs8
 obtain ⟨he1,he2,he3⟩:=zeG hc hpe
 obtain ⟨hz1,hz2,hz3⟩:=zjb hc hpe
 have hlv:∀ i,zaC c p i→eN c p≤i∧i≤zN c p:=fun i h=>by
   have:=zby hc hpe h
   exact zmP hc this.1 hpe this.2
 refine NIL.mk rfl ?_
 refine zaa zbd ?_
 refine zaa za1 ?_
 refine zac zbE (zap hW.code) e0 fun v11 h11=>?_
 refine zad u23 ty3 h11 hpe fun b1 o1 hA1=>?_
 rw [zbe hpe,he1] at hA1
 refine zab ty3 hA1 e0 fun _=>?_
 generalize hE:eN c p=E at *
 generalize hZ:zN c p=Z at *
 have h0:zaS E (zaC c p)=[]:=by
   rw [zgB (n:=0) (Nat.zero_le _) fun i _ h2 h3=>by have:=hlv i h3;omega];rfl
 refine zaq (Z+1-E) (fun k us w'=>∃ (v:Value),us=[v,.int .i64 ((E+k:Nat):Int)]∧E+k≤Z+1∧Ext w w'∧RowI w.heap.size w'.heap.size 3 w' v (zaA (zaS (E+k) (zaC c p)))) 0 (Nat.zero_le _) ⟨_,rfl,by omega,Ext.refl _,by rw [Nat.add_zero,h0];exact zcp _ _ _ _⟩ ?_
 rintro k mk u w2 hkm ⟨v,hu,hkl,hx2,hr2⟩
 obtain ⟨hu1,hu2⟩:=zb1 hu
 rw [hu1,hu2]
 have hx02:=e0.trans hx2
 have hs2:=hx2.size
 refine NIL.mk rfl ?_
 refine zaa zbd ?_
 refine zac zbt hW.code hx02 fun v19 h19=>?_
 refine (zcz h19 hx02 (by omega)).mono ?_
 rintro _ w3 ⟨hx3,rfl⟩
 rw [hz1]
 have hx03:=hx02.trans hx3
 refine zah ?_
 refine br (fun hlt=>?_) (fun hge=>?_)
 case refine_2=>
   have hk:E+k=Z+1:=by omega
   refine ⟨hx2.trans hx3,?_⟩
   rw [zgB (n:=Z+1) (by omega) fun i h1 _ h3=>by have:=hlv i h3;omega,←hk]
   exact (hr2.ext hx3).own.own
 have hk:E+k<c.ins.length:=by omega
 refine NIL.mk rfl ?_
 refine zaa zny ?_
 refine zac zep hW.live hx03 fun v28 h28=>?_
 refine zad u82 ty4 (i:=E+k) h28 (by rw [zaj];exact hk) fun b2 o2 hA2=>?_
 refine zaw ty4 hA2 hx03 ?_
 have hmk:=zaB (n:=c.ins.length) (p:=zd4 c) (i:=E+k)
 rw [zaM (by rw [zaj];exact hk)] at hmk
 have hiff:zd4 c (E+k)↔zaC c p (E+k):=by
   constructor
   · rintro ⟨q,hq,hl⟩
     have h1:=zby hc (by rw [hc.2.1.1];exact hq) hl
     have h2:=zkm hc (p:=p) (i:=E+k) hpe (by omega) (by omega)
     have:q=p:=by omega
     rwa [this] at hl
   exact fun h=>⟨p,hp,h⟩
 have hsl:=zaT (n:=E+k) (p:=zaC c p)
 refine zbw (fun hf=>?_) (fun hf=>?_)
 · refine zbK (lo2:=w3.heap.size) (hi2:=w3.heap.size) (x:=((E+k:Nat):Int)) u23 ty3 z3 zc3 (by decide) (hr2.ext hx3) (by have:=hx3.size;omega) (zb4 _ _ (by unfold I64;omega)) (by have:=hx3.size;omega) (by have:=hx3.size;omega) (by rw [zan,zae];omega) (by rw [zae];omega) fun v54 w9 hc9 hr9=>?_
   refine zaf (by omega) ?_
   refine ⟨mk-1,by omega,k+1,by omega,v54,rfl,by omega,(hx2.trans hx3).chgI hc9 (by omega),?_⟩
   rw [←Nat.add_assoc,zcc (hiff.1 (hmk.1 hf).2),zbM]
   exact hr9
 refine zaf (by omega) ?_
 refine ⟨mk-1,by omega,k+1,by omega,v,rfl,by omega,hx2.trans hx3,?_⟩
 rw [←Nat.add_assoc,zck fun h=>by rw [hmk.2 ⟨hk,hiff.2 h⟩] at hf;cases hf]
 exact (hr2.ext hx3).mono (Nat.le_refl _) hx3.size
theorem zcK {w:World} {n:Nat} {K:Value→World→Prop} (h0:0<n) (hn:n≤1000000)
   (k:∀ w',Ext w w'→Mine [w.heap.size] w' (.slice (some ⟨w.heap.size,0,none⟩) n n) (zaA (List.replicate n 0))→K (.slice (some ⟨w.heap.size,0,none⟩) n n) w'):OP Tryz.prog (Instr.makeSlice 23 (.int .i64 (n:Int)) (.int .i64 (n:Int))) w K:=
 zfj (α:=Int) u23 ty3 rfl rfl zvI (by omega) (by omega) fun w2 hx2 hr2=>by
   refine k w2 hx2 ?_
   obtain ⟨F,hM,hF⟩:=hr2.own
   obtain ⟨b,o,cap,hv,hF2⟩:=zdT hM (by intro e;have:=congrArg List.length e;simp at this;omega)
   simp only [Value.slice.injEq,Option.some.injEq,Addr.mk.injEq,List.cons.injEq,and_true] at hv
   obtain ⟨⟨hb,ho⟩,_⟩:=hv
   rw [←hb] at hF2
   rw [hF2] at hM
   have e:zaA (List.replicate n 0)=List.replicate n (RepZ.zv:Int):=by simp only [zaA,List.map_replicate];rfl
   rw [e];exact hM
theorem zg1 {P:Program} {w:World} {K:Value→Prop} {t ty e:TypeId} {a:Option Addr} {n c:Nat} (ht:P.underlying t=some (.slice e)) (k:K (.int .i64 (n:Int))) :
   RD P (Builtin.len_ #[t] ty [Value.slice a n c].toArray) w K:=za0 (fun w' _=>by simp [Builtin.len_,run_underlying ht];rfl) k
structure FW (w1 w:World) (g n:Nat) (out:List Nat):Prop where
 ext:Ext w1 w
 mine:Mine [g] w (.slice (some ⟨g,0,none⟩) n n) (zaA out)
 g0:w1.heap.size≤g
section
variable {w1 w w':World} {g n:Nat} {out:List Nat}
theorem FW.step (h:FW w1 w g n out) (hx:Ext w w'):FW w1 w' g n out:=⟨h.ext.trans hx,h.mine.ext hx,h.g0⟩
theorem zdH (hc:Chg [g] w w'):ChgI g (g+1) w w':=hc.toI fun b hb=>by simp only [List.mem_cons,List.not_mem_nil,or_false] at hb;omega
theorem FW.set {i v:Nat} (h:FW w1 w g n out) (hc:Chg [g] w w') (hm:Mine [g] w' (.slice (some ⟨g,0,none⟩) n n) ((zaA out).set i (v:Int))):FW w1 w' g n (out.set i v):=
 ⟨h.ext.chgI (zdH hc) h.g0,by rw [zeF];exact hm,h.g0⟩
theorem FW.lt (h:FW w1 w g n out):g<w.heap.size:=h.mine.lt g (by simp)
theorem FW.own (h:FW w1 w g n out):Own w1.heap.size w (.slice (some ⟨g,0,none⟩) n n) (zaA out):=⟨[g],h.mine,fun b hb=>by simp only [List.mem_cons,List.not_mem_nil,or_false] at hb;have:=h.g0;omega⟩
end
theorem zbk {w:World} {v:Nat} (h:v<9223372036854775808):Mine [] w (.int .i64 (v:Int)) (v:Int):=zcq (by unfold I64;omega)
def fil (n k:Nat):List Nat:=List.replicate k 63++List.replicate (n-k) 0
theorem zmT {n k:Nat} (h:k≤n):(fil n k).length=n:=by simp [fil];omega
theorem zmU {n k:Nat} (h:k<n):(fil n k).set k 63=fil n (k+1):=by
 obtain ⟨m,hm⟩:∃ m,n-k=m+1:=⟨n-k-1,by omega⟩
 unfold fil
 rw [List.set_append_right _ _ (by simp),hm,List.length_replicate,Nat.sub_self,List.replicate_succ,List.set_cons_zero,List.replicate_succ',show n-(k+1)=m by omega]
 simp
theorem zkq (n:Nat):fil n n=List.replicate n 63:=by simp [fil]
structure FP (c:DCode) (T:Tab) (p h:Nat) (out0 L:List Nat) (k:Nat) (ag:Bool) (out:List Nat):Prop where
 fl:FL c T p h out
 yes:ag=true→out.sum<out0.sum
 no:ag=false→out=out0∧∀ i∈L.take k,zvc c T out0 i
structure FQ (c:DCode) (T:Tab) (p h:Nat) (out0 L:List Nat) (k i q:Nat) (ag:Bool) (out:List Nat):Prop where
 fl:FL c T p h out
 yes:ag=true→out.sum<out0.sum
 no:ag=false→out=out0∧(∀ i∈L.take k,zvc c T out0 i)∧∀ j∈(zax c i).take q,zau out0 j &&& aft c T i (zau out0 i)=zau out0 j
section
variable {c:DCode} {T:Tab} {p h k i q m:Nat} {out0 L out:List Nat} {ag:Bool}
theorem FP.enter (H:FP c T p h out0 L k ag out) (i:Nat):FQ c T p h out0 L k i 0 ag out:=⟨H.fl,H.yes,fun e=>⟨(H.no e).1,(H.no e).2,by simp⟩⟩
theorem FQ.set (H:FQ c T p h out0 L k i q ag out) (hc:CodeR c) (hp:p<c.entry.length) (hi:zaC c p i) (hq:q<(zax c i).length) (hm:∀ l,l<6→m.testBit l=false→LostP c (tK T) (tG T) p (fun l=>h.testBit l=true) i l)
   (hne:zau out (zax c i)[q] &&& aft c T i m≠zau out (zax c i)[q]):FQ c T p h out0 L k i (q+1) true (out.set (zax c i)[q] (zau out (zax c i)[q] &&& aft c T i m)):=by
 have hj:=List.getElem_mem hq
 have hjl:=(zcj hc (zby hc hp hi).1 hj).1
 refine ⟨H.fl.updM hc hp hi hj hm,fun _=>?_,fun e=>by cases e⟩
 have h1:=zgX (l:=out) (i:=(zax c i)[q]) (v:=zau out (zax c i)[q] &&& aft c T i m) (by rw [H.fl.len];exact hjl)
 have h2:=ztk hne
 cases ag with
 | true=>have:=H.yes rfl;omega
 | false=>rw [(H.no rfl).1] at h1 h2 ⊢;omega
theorem FQ.skip (H:FQ c T p h out0 L k i q ag out) (hq:q<(zax c i).length) (hz:ag=false→m=zau out0 i) (he:zau out (zax c i)[q] &&& aft c T i m=zau out (zax c i)[q]):FQ c T p h out0 L k i (q+1) ag out:=by
 refine ⟨H.fl,H.yes,fun e=>⟨(H.no e).1,(H.no e).2.1,fun j hj=>?_⟩⟩
 rw [List.take_succ_eq_append_getElem hq] at hj
 rcases List.mem_append.1 hj with hj | hj
 · exact (H.no e).2.2 j hj
 simp only [List.mem_cons,List.not_mem_nil,or_false] at hj
 rw [(H.no e).1,hz e] at he
 rw [hj];exact he
theorem FQ.done (H:FQ c T p h out0 L k i q ag out) (hk:k<L.length) (hi:L[k]=i) (hq:(zax c i).length≤q):FP c T p h out0 L (k+1) ag out:=by
 refine ⟨H.fl,H.yes,fun e=>⟨(H.no e).1,fun i' hi'=>?_⟩⟩
 rw [List.take_succ_eq_append_getElem hk] at hi'
 rcases List.mem_append.1 hi' with h1 | h1
 · exact (H.no e).2.1 i' h1
 simp only [List.mem_cons,List.not_mem_nil,or_false] at h1
 rw [h1,hi]
 have:=(H.no e).2.2
 rw [List.take_of_length_le hq] at this
 exact this
end
theorem zmV {w W0 W1:World} {b p h:Nat} {v1:Value} {c:DCode} {T:Tab} (hW:WL W0 b c) (e0:Ext W0 w) (h1:Is W1 v1 (zfL T)) (e1:Ext W1 w) (hc:CodeR c) (hT:zrC c T) (hp:p<c.procs.length) (hh:h<64) :
   CALL Tryz.prog 147 [.pointer (some ⟨b,0,none⟩),v1,.int .i64 (p:Int),.int .i64 (h:Int)] w fun r w'=>Ext w w'∧Own w.heap.size w' r (zaA (zbU c T p h)):=by
 refine F147_call ?_
 unfold F147
 have hpe:p<c.entry.length:=by rw [hc.2.1.1];exact hp
 have hil:=hc.f.ins
 obtain ⟨he1,he2,he3⟩:=zeG hc hpe
 have hst:=FL.start (T:=T) hc hpe hh
 have hfin:=fun {out}=>FL.fin (c:=c) (T:=T) (p:=p) (h:=h) (out:=out)
 refine NIL.mk rfl ?_
 refine zaa zbd ?_
 refine zaa zaJ ?_
 refine zac zct (zai hW.code) e0 fun v22 h22=>?_
 refine zag u29 h22 ?_
 have hn:c.ins.length=c.ins.length:=rfl
 generalize hnn:c.ins.length=n at hn
 rw [hnn] at he2 hst hil
 refine zcK (by omega) (by omega) fun w2 hx2 hM2=>?_
 have hs2:=hx2.size
 generalize hg:w.heap.size=g at *
 have hF2:FW w w2 g n (fil n 0):=⟨hx2,by simpa [fil] using hM2,by omega⟩
 refine zg1 u23 ?_
 refine zaq n (fun k us w'=>us=[.int .i64 (k:Int)]∧k≤n∧FW w w' g n (fil n k)) 0 (Nat.zero_le _) ⟨rfl,Nat.zero_le _,hF2⟩ ?_
 rintro k mk u w3 hkm ⟨hu,hkl,hF3⟩
 simp only [List.map_cons,List.map_nil,List.cons.injEq,and_true] at hu
 rw [hu]
 refine zah ?_
 refine br (fun hlt=>?_) (fun hge=>?_)
 · have hk:k<n:=by omega
   refine zbs (α:=Int) rfl u23 ty3 hk ?_
   refine za2 (α:=Int) rfl ty3 hF3.mine (by rw [zae,zmT hkl]) hk (zbk (v:=63) (by omega)) fun w4 hc4 hm4=>?_
   have hF4:=hF3.set (v:=63) hc4 hm4
   rw [zmU hk] at hF4
   refine zaf (by omega) ?_
   exact ⟨mk-1,by omega,k+1,by omega,rfl,by omega,hF4⟩
 have hk:k=n:=by omega
 rw [hk,zkq] at hF3
 clear hF2 hM2 hu hkm
 refine NIL.mk rfl ?_
 refine zaa zbd ?_
 refine zaa za1 ?_
 refine zac zbE (zap hW.code) (e0.trans hF3.ext) fun v39 h39=>?_
 refine zad u23 ty3 h39 hpe fun b1 o1 hA1=>?_
 rw [zbe hpe,he1] at hA1
 refine zab ty3 hA1 (e0.trans hF3.ext) fun _=>?_
 refine zbs (α:=Int) rfl u23 ty3 he2 ?_
 refine za2 (α:=Int) rfl ty3 hF3.mine (by rw [zae];simp) he2 (zbk (v:=h) (by omega)) fun w4 hc4 hm4=>?_
 have hF4:=hF3.set (v:=h) hc4 hm4
 refine (ze9 hW (e0.trans hF4.ext) hc hp).mono ?_
 rintro v47 w5 ⟨hx5,ho5⟩
 have hF5:=hF4.step hx5
 have hg4:=hF4.lt
 have hL:∀ i∈zaS c.ins.length (zaC c p),zaC c p i:=fun i hi=>(zaE.1 hi).2
 have hL2:∀ i,zaC c p i→i∈zaS c.ins.length (zaC c p):=fun i hi=>zaE.2 ⟨(zby hc hpe hi).1,hi⟩
 have hLl:(zaS c.ins.length (zaC c p)).length≤1500:=Nat.le_trans zaT (by rw [hnn];omega)
 generalize zaS c.ins.length (zaC c p)=L at *
 generalize (List.replicate n 63).set (eN c p) h=out at hst hF5
 have hO5:=ho5.toI
 generalize hlo:w4.heap.size=lo at *
 generalize hhi:w5.heap.size=hi at *
 refine LOOPI.mk (fun m us w'=>∃ (ag:Bool) (out:List Nat),us=[.bool ag]∧m=out.sum+(if ag then 1 else 0)∧FW w w' g n out∧OwnI lo hi w' v47 (zaA L)∧FL c T p h out∧(ag=false→∀ i,zaC c p i→zvc c T out i)) (out.sum+1) ⟨true,out,rfl,rfl,hF5,hO5,hst,fun e=>by cases e⟩ ?_
 rintro m u w6 ⟨ag,out,hu,hm,hF6,hO6,hfl,hsh⟩
 simp only [List.map_cons,List.map_nil,List.cons.injEq,and_true] at hu
 rw [hu]
 refine zbw (fun hag=>?_) (fun hag=>?_)
 case refine_2=>
   have:=hfin hfl hc hpe (hsh hag)
   rw [←this]
   have hoo:=hF6.own
   rw [hg] at hoo
   exact ⟨hF6.ext,hoo⟩
 rw [hag,if_pos rfl] at hm
 refine zag u23 hO6.is ?_
 rw [zae]
 refine zaq L.length (fun k us w'=>∃ (ag:Bool) (out':List Nat),us=[.bool ag,.int .i64 (k:Int)]∧k≤L.length∧FW w w' g n out'∧OwnI lo hi w' v47 (zaA L)∧FP c T p h out L k ag out') 0 (Nat.zero_le _) ⟨false,out,rfl,Nat.zero_le _,hF6,hO6,hfl,fun e=>(by cases e),fun _=>⟨rfl,by simp⟩⟩ ?_
 rintro k mk u w7 hkm ⟨ag7,out7,hu,hkl,hF7,hO7,hP7⟩
 obtain ⟨hu1,hu2⟩:=zb1 hu;clear hu
 rw [hu1,hu2]
 refine zah ?_
 refine br (fun hlt=>?_) (fun hge=>?_)
 case refine_2=>
   refine ⟨out7.sum+(if ag7 then 1 else 0),?_,ag7,out7,rfl,rfl,hF7,hO7,hP7.fl,fun e i hi=>?_⟩
   · cases ag7 with
     | true=>have:=hP7.yes rfl;simp;omega
     | false=>rw [(hP7.no rfl).1];simp;omega
   have:=hP7.no e
   rw [this.1]
   exact this.2 i (by rw [List.take_of_length_le (by omega)];exact hL2 i hi)
 have hk:k<L.length:=by omega
 refine zad u23 ty3 (i:=k) hO7.is (by rw [zae];exact hk) fun b2 o2 hA2=>?_
 rw [zaL] at hA2
 refine zab ty3 hA2 (Ext.refl _) fun _=>?_
 generalize hix:L[k]=i at *
 have hiv:zaC c p i:=hL i (by rw [←hix];exact List.getElem_mem hk)
 have hin:=(zby hc hpe hiv).1
 have hx8:=zak w7
 have hF8:=hF7.step hx8
 have hO8:=hO7.ext hx8
 generalize World.drew1 w7=w8 at *
 refine NIL.mk rfl ?_
 refine zaa zbd ?_
 refine zaa zaJ ?_
 refine zac zct (zai hW.code) (e0.trans hF8.ext) fun v59 h59=>?_
 refine zad u29 zcb h59 hin fun b3 o3 hA3=>?_
 rw [zaF] at hA3
 refine zac zcb hA3 (e0.trans hF8.ext) fun v62 h62=>?_
 have hl7:=hP7.fl.len
 refine zad u23 ty3 (i:=i) hF8.mine.is (by rw [zae,hl7];exact hin) fun b4 o4 hA4=>?_
 rw [zaG] at hA4
 refine zab ty3 hA4 (Ext.refl _) fun _=>?_
 have hm64:=hP7.fl.lt0 i
 have hmb:∀ l,l<6→(zau out7 i).testBit l=false→LostP c (tK T) (tG T) p (fun l=>h.testBit l=true) i l:=fun l hl hb=>hP7.fl.snd i l hin hl hb
 have hmz:ag7=false→zau out7 i=zau out i:=fun e=>by rw [(hP7.no e).1]
 generalize zau out7 i=mm at *
 refine (zqv h62 (e0.trans hF8.ext) h1 (e1.trans hF8.ext) hc hT hin hm64).mono ?_
 rintro _ w9 ⟨hx9,rfl⟩
 have hF9:=hF8.step hx9
 have hO9:=hO8.ext hx9
 have haf:=ztj hc hT hin hm64
 refine (zgv hW.code (e0.trans hF9.ext) hc hin).mono ?_
 rintro v71 w10 ⟨hx10,ho10⟩
 have hF10:=hF9.step hx10
 have hO10:=hO9.ext hx10
 have hg9:=hF9.lt
 have hN10:=ho10.toI
 have hl2:=zdG c i
 refine zag u23 ho10.is ?_
 rw [zae]
 have hQ10:=hP7.enter i
 refine zaq (zax c i).length (fun q us w'=>∃ (ag:Bool) (out':List Nat),us=[.bool ag,.int .i64 (q:Int)]∧q≤(zax c i).length∧FW w w' g n out'∧OwnI lo hi w' v47 (zaA L)∧OwnI w9.heap.size w10.heap.size w' v71 (zaA (zax c i))∧FQ c T p h out L k i q ag out'∧(ag=false→mm=zau out i)) 0 (Nat.zero_le _) ⟨ag7,out7,rfl,Nat.zero_le _,hF10,hO10,hN10,hQ10,hmz⟩ ?_
 rintro q mq u w11 hqm ⟨ag11,out11,hu,hql,hF11,hO11,hN11,hQ11,hz11⟩
 obtain ⟨hu1,hu2⟩:=zb1 hu
 rw [hu1,hu2]
 refine zah ?_
 refine br (fun hlt=>?_) (fun hge=>?_)
 case refine_2=>
   refine zaf (by omega) ?_
   exact ⟨mk-1,by omega,k+1,by omega,ag11,out11,rfl,by omega,hF11,hO11,hQ11.done hk hix (by omega)⟩
 have hq:q<(zax c i).length:=by omega
 refine zad u23 ty3 (i:=q) hN11.is (by rw [zae];exact hq) fun b5 o5 hA5=>?_
 rw [zaL] at hA5
 refine zab ty3 hA5 (Ext.refl _) fun _=>?_
 have hx12:=zak w11
 have hF12:=hF11.step hx12
 have hO12:=hO11.ext hx12
 have hN12:=hN11.ext hx12
 generalize World.drew1 w11=w12 at *
 have hj:=zcj hc hin (List.getElem_mem hq)
 have hl11:=hQ11.fl.len
 have hset:=hQ11.set (m:=mm) hc hpe hiv hq hmb
 have hskip:=hQ11.skip (m:=mm) hq hz11
 have hj64:=hQ11.fl.lt0 (zax c i)[q]
 have hjn:=hj.1
 rw [hnn] at hjn
 generalize (zax c i)[q]=j at *
 have hrd:∀ {w':World} {K:Value→Prop} (hF:FW w w' g n out11) (k:K (.int .i64 (zau out11 j:Int))),RD Tryz.prog (Instr.indexAt 23 (.slice (some ⟨g,0,none⟩) n n) (.int .i64 (j:Int))) w' fun x37=>RD Tryz.prog (Instr.loadAt 3 x37) w' K:=fun hF k=>by
   refine zad u23 ty3 (i:=j) hF.mine.is (by rw [zae,hl11];exact hj.1) fun b1 o1 hA1=>?_
   rw [zaG] at hA1
   exact zab ty3 hA1 (Ext.refl _) fun _=>k
 refine hrd hF12 ?_
 refine zdi (by omega) (by omega) ?_
 refine hrd hF12 ?_
 refine zaI ?_
 refine br (fun hne=>?_) (fun heq=>?_)
 · have hne':zau out11 j &&& aft c T i mm≠zau out11 j:=fun e=>hne (by rw [e])
   refine hrd hF12 ?_
   refine zdi (by omega) (by omega) ?_
   refine zbs (α:=Int) rfl u23 ty3 hjn ?_
   have hvl:=Nat.and_le_left (n:=zau out11 j) (m:=aft c T i mm)
   refine za2 (α:=Int) rfl ty3 hF12.mine (by rw [zae,hl11,hnn]) hjn (zbk (v:=zau out11 j &&& aft c T i mm) (by omega)) fun w13 hc13 hm13=>?_
   have hF13:=hF12.set (v:=zau out11 j &&& aft c T i mm) hc13 hm13
   have hc13':=zdH hc13
   refine zaf (by omega) ?_
   exact ⟨mq-1,by omega,q+1,by omega,true,_,rfl,by omega,hF13,hO12.chg hc13' (by omega),hN12.chg hc13' (by omega),hset hne',fun e=>by cases e⟩
 refine zaf (by omega) ?_
 exact ⟨mq-1,by omega,q+1,by omega,ag11,out11,rfl,by omega,hF12,hO12,hN12,hskip (Int.ofNat_inj.1 (Decidable.not_not.1 heq)),hz11⟩
def F124 (a0 a1 a2 a3:Value) (w:World) (R:VW):Prop:=
 oP (Instr.box 31 a0) w fun x4 w=>
 rF 31 x4 4 w fun x18=>
 rL 29 x18 w fun x19=>
 rN 29 3 x19 w fun x20=>
 oP (Instr.makeSlice 23 x20 x20) w fun x21 w=>
 LOOPI [10] [(iV 0)] w fun u3 w next3=>
 rN 23 3 x21 w fun x24=>
 rC (u3 10) x24 w fun x25=>
 BR x25
 (rX 23 x21 (u3 10) w fun x30=>
 oS 3 x30 (iV 63) w fun w=>
 rA (u3 10) (iV 1) w fun x27=>
 next3 [x27] w)
 (rF 31 x4 3 w fun x31=>
 rL 23 x31 w fun x32=>
 rX 23 x32 a2 w fun x34=>
 rL 3 x34 w fun x35=>
 rX 23 x21 x35 w fun x39=>
 oS 3 x39 a3 w fun w=>
 rL 31 x4 w fun x40=>
 cL 173 [x40,a2] w fun x42 w=>
 cL 125 [x42] w fun x43 w=>
 LOOPI [13] [(Value.bool true)] w fun u10 w next10=>
 BR (u10 13)
 (LOOPI [13,14] [(Value.bool false),(iV 0)] w fun u13 w next13=>
 rN 23 3 x43 w fun x47=>
 rC (u13 14) x47 w fun x48=>
 BR x48
 ((fun w=>rL 31 x4 w fun x51=>
 rX 23 x43 (u13 14) w fun x54=>
 rL 3 x54 w fun x55=>
 cL 129 [x51,x55] w fun x56 w=>
 LOOPI [13,16] [(u13 13),(iV 0)] w fun u17 w next17=>
 rN 23 3 x56 w fun x59=>
 rC (u17 16) x59 w fun x60=>
 BR x60
 ((fun w=>rX 23 x56 (u17 16) w fun x66=>
 rL 3 x66 w fun x67=>
 rX 23 x21 x67 w fun x68=>
 rL 3 x68 w fun x69=>
 rF 31 x4 4 w fun x70=>
 rL 29 x70 w fun x71=>
 rX 23 x43 (u13 14) w fun x74=>
 rL 3 x74 w fun x75=>
 rX 29 x71 x75 w fun x76=>
 rL 94 x76 w fun x77=>
 rX 23 x43 (u13 14) w fun x82=>
 rL 3 x82 w fun x83=>
 rX 23 x21 x83 w fun x84=>
 rL 3 x84 w fun x85=>
 (fun w_=>cL 174 [x77,a1,x85] w_ fun x86 w=>
 Ext w_ w ∧
 rB .and 3 T0 T0 x69 x86 w fun x87=>
 rX 23 x56 (u17 16) w fun x92=>
 rL 3 x92 w fun x93=>
 rX 23 x21 x93 w fun x94=>
 rL 3 x94 w fun x95=>
 rB .neq 3 T0 T0 x87 x95 w fun x96=>
 BR x96
 (rX 23 x56 (u17 16) w fun x100=>
 rL 3 x100 w fun x101=>
 rX 23 x21 x101 w fun x103=>
 oS 3 x103 x87 w fun w=>
 rA (u17 16) (iV 1) w fun x62=>
 next17 [(Value.bool true),x62] w)
 (rA (u17 16) (iV 1) w fun x62=>
 next17 [(u17 13),x62] w)) w) (World.drew1 w))
 (rA (u13 14) (iV 1) w fun x50=>
 next13 [(u17 13),x50] w)) (World.drew1 w))
 (next10 [(u13 13)] w))
 (R x21 w))
def cfg124:Cfg:=⟨extL,[],[(3,2143290368,[10]),(10,20282409603651670406355065495552,[13]),(13,20282409603651670388762879451136,[13,14]),(17,20282409603651526308759175634944,[13,16])],[(15,[0,1,2,3,4,5,6],0),(19,[0,1,2,3,4,5,6,7,8,9,10,11,12,13,14,15,16,17,18,19,20,21,22,23,24,25],8388608)],[],[],[]⟩
theorem F124_call {a0 a1 a2 a3:Value} {w:World} {R:VW} (h:F124 a0 a1 a2 a3 w R):cL 124 [a0,a1,a2,a3] w R:=co (g:=cfg124) Tryz.func124 (by kernel_rfl) (by kernel_rfl) (by kernel_rfl) h
open Rep (rep)
theorem zg2 {w W0 W1:World} {p h:Nat} {v0 v1:Value} {c:DCode} {T:Tab} (h0:Is W0 v0 c) (e0:Ext W0 w) (h1:Is W1 v1 (zfL T)) (e1:Ext W1 w) (hc:CodeR c) (hT:zrC c T) (hp:p<c.procs.length) (hh:h<64) :
   CALL Tryz.prog 124 [v0,v1,.int .i64 (p:Int),.int .i64 (h:Int)] w fun r w'=>Ext w w'∧Own w.heap.size w' r (zaA (zbU c T p h)):=by
 refine F124_call ?_
 unfold F124
 have hpe:p<c.entry.length:=by rw [hc.2.1.1];exact hp
 have hil:=hc.f.ins
 obtain ⟨he1,he2,he3⟩:=zeG hc hpe
 have hst:=FL.start (T:=T) hc hpe hh
 have hfin:=fun {out}=>FL.fin (c:=c) (T:=T) (p:=p) (h:=h) (out:=out)
 refine zbr h0 e0 fun w1 hx1 hA=>?_
 have hs1:=hx1.size
 refine zaa zaJ ?_
 refine zac zct (zai hA) (Ext.refl _) fun v22 h22=>?_
 refine zag u29 h22 ?_
 have hn:c.ins.length=c.ins.length:=rfl
 generalize hnn:c.ins.length=n at hn
 rw [hnn] at he2 hst hil
 refine zcK (by omega) (by omega) fun w2 hx2 hM2=>?_
 have hs2:=hx2.size
 generalize hg:w1.heap.size=g at *
 have hF2:FW w1 w2 g n (fil n 0):=⟨hx2,by simpa [fil] using hM2,by omega⟩
 refine zaq n (fun k us w'=>us=[.int .i64 (k:Int)]∧k≤n∧FW w1 w' g n (fil n k)) 0 (Nat.zero_le _) ⟨rfl,Nat.zero_le _,hF2⟩ ?_
 rintro k mk u w3 hkm ⟨hu,hkl,hF3⟩
 simp only [List.map_cons,List.map_nil,List.cons.injEq,and_true] at hu
 rw [hu]
 refine zg1 u23 ?_
 refine zah ?_
 refine br (fun hlt=>?_) (fun hge=>?_)
 · have hk:k<n:=by omega
   refine zbs (α:=Int) rfl u23 ty3 hk ?_
   refine za2 (α:=Int) rfl ty3 hF3.mine (by rw [zae,zmT hkl]) hk (zbk (v:=63) (by omega)) fun w4 hc4 hm4=>?_
   have hF4:=hF3.set (v:=63) hc4 hm4
   rw [zmU hk] at hF4
   refine zaf (by omega) ?_
   exact ⟨mk-1,by omega,k+1,by omega,rfl,by omega,hF4⟩
 have hk:k=n:=by omega
 rw [hk,zkq] at hF3
 clear hF2 hM2 hu hkm
 refine zaa za1 ?_
 refine zac zbE (zap hA) hF3.ext fun v39 h39=>?_
 refine zad u23 ty3 h39 hpe fun b1 o1 hA1=>?_
 rw [zbe hpe,he1] at hA1
 refine zab ty3 hA1 hF3.ext fun _=>?_
 refine zbs (α:=Int) rfl u23 ty3 he2 ?_
 refine za2 (α:=Int) rfl ty3 hF3.mine (by rw [zae];simp) he2 (zbk (v:=h) (by omega)) fun w4 hc4 hm4=>?_
 have hF4:=hF3.set (v:=h) hc4 hm4
 refine zac zbt hA hF4.ext fun v40 h40=>?_
 refine (zec h40 hF4.ext hc hpe).mono ?_
 rintro v42 w5 ⟨hx5,ho5⟩
 have hF5:=hF4.step hx5
 refine (zdU ho5.is (Ext.refl _) (by rw [zaj,hnn];omega)).mono ?_
 rintro v43 w5b ⟨hx5b,ho5b⟩
 rw [zaj,ze7] at ho5b
 have hF5:=hF5.step hx5b
 have hg4:=hF4.lt
 have hg5:g<w5.heap.size:=by have:=hx5.size;omega
 have hL:∀ i∈zaS c.ins.length (zaC c p),zaC c p i:=fun i hi=>(zaE.1 hi).2
 have hL2:∀ i,zaC c p i→i∈zaS c.ins.length (zaC c p):=fun i hi=>zaE.2 ⟨(zby hc hpe hi).1,hi⟩
 have hLl:(zaS c.ins.length (zaC c p)).length≤1500:=Nat.le_trans zaT (by rw [hnn];omega)
 generalize zaS c.ins.length (zaC c p)=L at *
 generalize (List.replicate n 63).set (eN c p) h=out at hst hF5
 have hO5:=ho5b.toI
 generalize hlo:w5.heap.size=lo at *
 generalize hhi:w5b.heap.size=hi at *
 refine LOOPI.mk (fun m us w'=>∃ (ag:Bool) (out:List Nat),us=[.bool ag]∧m=out.sum+(if ag then 1 else 0)∧FW w1 w' g n out∧OwnI lo hi w' v43 (zaA L)∧FL c T p h out∧(ag=false→∀ i,zaC c p i→zvc c T out i)) (out.sum+1) ⟨true,out,rfl,rfl,hF5,hO5,hst,fun e=>by cases e⟩ ?_
 rintro m u w6 ⟨ag,out,hu,hm,hF6,hO6,hfl,hsh⟩
 simp only [List.map_cons,List.map_nil,List.cons.injEq,and_true] at hu
 rw [hu]
 refine zbw (fun hag=>?_) (fun hag=>?_)
 case refine_2=>
   have:=hfin hfl hc hpe (hsh hag)
   rw [←this]
   exact ⟨hx1.trans hF6.ext,hF6.own.mono (by omega)⟩
 rw [hag,if_pos rfl] at hm
 refine zaq L.length (fun k us w'=>∃ (ag:Bool) (out':List Nat),us=[.bool ag,.int .i64 (k:Int)]∧k≤L.length∧FW w1 w' g n out'∧OwnI lo hi w' v43 (zaA L)∧FP c T p h out L k ag out') 0 (Nat.zero_le _) ⟨false,out,rfl,Nat.zero_le _,hF6,hO6,hfl,fun e=>(by cases e),fun _=>⟨rfl,by simp⟩⟩ ?_
 rintro k mk u w7 hkm ⟨ag7,out7,hu,hkl,hF7,hO7,hP7⟩
 obtain ⟨hu1,hu2⟩:=zb1 hu;clear hu
 rw [hu1,hu2]
 refine zag u23 hO7.is ?_
 rw [zae]
 refine zah ?_
 refine br (fun hlt=>?_) (fun hge=>?_)
 case refine_2=>
   refine ⟨out7.sum+(if ag7 then 1 else 0),?_,ag7,out7,rfl,rfl,hF7,hO7,hP7.fl,fun e i hi=>?_⟩
   · cases ag7 with
     | true=>have:=hP7.yes rfl;simp;omega
     | false=>rw [(hP7.no rfl).1];simp;omega
   have:=hP7.no e
   rw [this.1]
   exact this.2 i (by rw [List.take_of_length_le (by omega)];exact hL2 i hi)
 have hk:k<L.length:=by omega
 have hx8:=zak w7
 have hF8:=hF7.step hx8
 have hO8:=hO7.ext hx8
 generalize World.drew1 w7=w8 at *
 refine zac zbt hA hF8.ext fun v51 h51=>?_
 refine zad u23 ty3 (i:=k) hO8.is (by rw [zae];exact hk) fun b2 o2 hA2=>?_
 rw [zaL] at hA2
 refine zab ty3 hA2 (Ext.refl _) fun _=>?_
 have hrL:∀ {w':World} {K:Value→Prop} (hO:OwnI lo hi w' v43 (zaA L)) (kk:K (.int .i64 ((L[k]:Nat):Int))),RD Tryz.prog (Instr.indexAt 23 v43 (.int .i64 (k:Int))) w' fun x37=>RD Tryz.prog (Instr.loadAt 3 x37) w' K:=fun hO kk=>by
   refine zad u23 ty3 (i:=k) hO.is (by rw [zae];exact hk) fun b1 o1 hA1=>?_
   rw [zaL] at hA1
   exact zab ty3 hA1 (Ext.refl _) fun _=>kk
 generalize hix:L[k]=i at *
 have hiv:zaC c p i:=hL i (by rw [←hix];exact List.getElem_mem hk)
 have hin:=(zby hc hpe hiv).1
 refine (zgW h51 hF8.ext hc hin).mono ?_
 rintro v56 w10 ⟨hx10,ho10⟩
 have hF10:=hF8.step hx10
 have hO10:=hO8.ext hx10
 have hg8:=hF8.lt
 have hN10:=ho10.toI
 have hl2:=zdG c i
 have hQ10:=hP7.enter i
 refine zaq (zax c i).length (fun q us w'=>∃ (ag:Bool) (out':List Nat),us=[.bool ag,.int .i64 (q:Int)]∧q≤(zax c i).length∧FW w1 w' g n out'∧OwnI lo hi w' v43 (zaA L)∧OwnI w8.heap.size w10.heap.size w' v56 (zaA (zax c i))∧FQ c T p h out L k i q ag out') 0 (Nat.zero_le _) ⟨ag7,out7,rfl,Nat.zero_le _,hF10,hO10,hN10,hQ10⟩ ?_
 rintro q mq u w11 hqm ⟨ag11,out11,hu,hql,hF11,hO11,hN11,hQ11⟩
 obtain ⟨hu1,hu2⟩:=zb1 hu
 rw [hu1,hu2]
 refine zag u23 hN11.is ?_
 rw [zae]
 refine zah ?_
 refine br (fun hlt=>?_) (fun hge=>?_)
 case refine_2=>
   refine zaf (by omega) ?_
   exact ⟨mk-1,by omega,k+1,by omega,ag11,out11,rfl,by omega,hF11,hO11,hQ11.done hk hix (by omega)⟩
 have hq:q<(zax c i).length:=by omega
 have hx12:=zak w11
 have hF12:=hF11.step hx12
 have hO12:=hO11.ext hx12
 have hN12:=hN11.ext hx12
 generalize World.drew1 w11=w12 at *
 have hj:=zcj hc hin (List.getElem_mem hq)
 have hl11:=hQ11.fl.len
 have hm64:=hQ11.fl.lt0 i
 have hmb:∀ l,l<6→(zau out11 i).testBit l=false→LostP c (tK T) (tG T) p (fun l=>h.testBit l=true) i l:=fun l hl hb=>hQ11.fl.snd i l hin hl hb
 have hset:=hQ11.set (m:=zau out11 i) hc hpe hiv hq hmb
 have hskip:=hQ11.skip (m:=zau out11 i) hq (fun e=>by rw [(hQ11.no e).1])
 have hj64:=hQ11.fl.lt0 (zax c i)[q]
 have hjn:=hj.1
 rw [hnn] at hjn
 have hrN:∀ {w':World} {K:Value→Prop} (hO:OwnI w8.heap.size w10.heap.size w' v56 (zaA (zax c i))) (kk:K (.int .i64 (((zax c i)[q]:Nat):Int))),RD Tryz.prog (Instr.indexAt 23 v56 (.int .i64 (q:Int))) w' fun x37=>RD Tryz.prog (Instr.loadAt 3 x37) w' K:=fun hO kk=>by
   refine zad u23 ty3 (i:=q) hO.is (by rw [zae];exact hq) fun b1 o1 hA1=>?_
   rw [zaL] at hA1
   exact zab ty3 hA1 (Ext.refl _) fun _=>kk
 generalize (zax c i)[q]=j at *
 have hrd:∀ {w':World} {K:Value→Prop} {i:Nat} (hF:FW w1 w' g n out11) (hi:i<c.ins.length) (k:K (.int .i64 (zau out11 i:Int))),RD Tryz.prog (Instr.indexAt 23 (.slice (some ⟨g,0,none⟩) n n) (.int .i64 (i:Int))) w' fun x37=>RD Tryz.prog (Instr.loadAt 3 x37) w' K:=fun {w' K i} hF hi k=>by
   refine zad u23 ty3 (i:=i) hF.mine.is (by rw [zae,hl11];exact hi) fun b1 o1 hA1=>?_
   rw [zaG] at hA1
   exact zab ty3 hA1 (Ext.refl _) fun _=>k
 refine hrN hN12 ?_
 refine hrd hF12 hj.1 ?_
 refine zaa zaJ ?_
 refine zac zct (zai hA) hF12.ext fun v71 h71=>?_
 refine hrL hO12 ?_
 refine zad u29 zcb h71 hin fun b3 o3 hA3=>?_
 rw [zaF] at hA3
 refine zac zcb hA3 hF12.ext fun v77 h77=>?_
 refine hrL hO12 ?_
 refine hrd hF12 hin ?_
 refine (zmS h77 hF12.ext h1 (e1.trans (hx1.trans hF12.ext)) hc hT hin hm64).mono ?_
 rintro _ w13 ⟨hx13,rfl⟩
 refine ⟨hx13,?_⟩
 have hF13:=hF12.step hx13
 have hO13:=hO12.ext hx13
 have hN13:=hN12.ext hx13
 have haf:=ztj hc hT hin hm64
 have hvl:=Nat.and_le_left (n:=zau out11 j) (m:=aft c T i (zau out11 i))
 refine zdi (m:=zau out11 j) (n:=aft c T i (zau out11 i)) (by omega) (by omega) ?_
 refine hrN hN13 ?_
 refine hrd hF13 hj.1 ?_
 refine zaI ?_
 refine br (fun hne=>?_) (fun heq=>?_)
 · have hne':zau out11 j &&& aft c T i (zau out11 i)≠zau out11 j:=fun e=>hne (by rw [e])
   refine hrN hN13 ?_
   refine zbs (α:=Int) rfl u23 ty3 hjn ?_
   refine za2 (α:=Int) rfl ty3 hF13.mine (by rw [zae,hl11,hnn]) hjn (zbk (v:=zau out11 j &&& aft c T i (zau out11 i)) (by omega)) fun w14 hc14 hm14=>?_
   have hF14:=hF13.set (v:=zau out11 j &&& aft c T i (zau out11 i)) hc14 hm14
   have hc14':=zdH hc14
   refine zaf (by omega) ?_
   exact ⟨mq-1,by omega,q+1,by omega,true,_,rfl,by omega,hF14,hO13.chg hc14' (by omega),hN13.chg hc14' (by omega),hset hne'⟩
 refine zaf (by omega) ?_
 exact ⟨mq-1,by omega,q+1,by omega,ag11,out11,rfl,by omega,hF13,hO13,hN13,hskip (Int.ofNat_inj.1 (Decidable.not_not.1 heq))⟩
def F217 (a0 a1:Value) (w:World) (R:VW):Prop:=
 NIL a0 <|
 rF 97 a0 4 w fun x12=>
 rL 23 x12 w fun x13=>
 rX 23 x13 a1 w fun x15=>
 rL 3 x15 w fun x16=>
 cL 107 [x16] w fun x17 w=>
 rN 23 3 x17 w fun x18=>
 LOOPI [5,19] [(iV 63),(iV 0)] w fun u3 w next3=>
 rC (u3 19) x18 w fun x20=>
 BR x20
 (rX 23 x17 (u3 19) w fun x21=>
 rL 3 x21 w fun x22=>
 cL 88 [a0,x22] w fun x25 w=>
 rN 23 3 x25 w fun x26=>
 LOOPI [5,27] [(u3 5),(iV 0)] w fun u6 w next6=>
 rC (u6 27) x26 w fun x28=>
 BR x28
 (rX 23 x25 (u6 27) w fun x29=>
 rL 3 x29 w fun x30=>
 NIL a0 <|
 rF 97 a0 0 w fun x33=>
 rF 31 x33 4 w fun x34=>
 rL 29 x34 w fun x35=>
 rX 29 x35 x30 w fun x37=>
 rF 94 x37 0 w fun x38=>
 rL 3 x38 w fun x39=>
 rB .eql 3 T0 U0 x39 (iV 7) w fun x40=>
 BR x40
 (NIL a0 <|
 rF 97 a0 0 w fun x44=>
 rF 31 x44 4 w fun x45=>
 rL 29 x45 w fun x46=>
 rX 29 x46 x30 w fun x48=>
 rF 94 x48 1 w fun x49=>
 rL 3 x49 w fun x50=>
 rD (convert 3 139 x50) w fun x51=>
 rB .shl 3 U0 T0 (iV 1) x51 w fun x52=>
 rB .andNot 3 T0 T0 (u6 5) x52 w fun x53=>
 rA (u6 27) (iV 1) w fun x54=>
 next6 [x53,x54] w)
 (rA (u6 27) (iV 1) w fun x54=>
 next6 [(u6 5),x54] w))
 (rA (u3 19) (iV 1) w fun x55=>
 next3 [(u6 5),x55] w))
 (R (u3 5) w)
def cfg217:Cfg:=⟨extL,[],[(3,72057594037404320,[5,19]),(6,36028796884746784,[5,27])],[],[],[],[]⟩
theorem F217_call {a0 a1:Value} {w:World} {R:VW} (h:F217 a0 a1 w R):cL 217 [a0,a1] w R:=co (g:=cfg217) Tryz.func217 (by kernel_rfl) (by kernel_rfl) (by kernel_rfl) h
def F213 (a0 a1:Value) (w:World) (R:VW):Prop:=
 oP (Instr.box 31 a0) w fun x2 w=>
 rL 31 x2 w fun x10=>
 cL 75 [x10,a1] w fun x12 w=>
 LOOPI [6,7] [(iV 63),(iV 0)] w fun u4 w next4=>
 rF 31 x2 2 w fun x14=>
 rL 22 x14 w fun x15=>
 rN 22 3 x15 w fun x16=>
 rC (u4 7) x16 w fun x17=>
 BR x17
 (rX 82 x12 (u4 7) w fun x22=>
 rL 4 x22 w fun x23=>
 rD (Op.unary .not x23) w fun x24=>
 BR x24
 (rA (u4 7) (iV 1) w fun x19=>
 next4 [(u4 6),x19] w)
 (rL 31 x2 w fun x25=>
 cL 173 [x25,(u4 7)] w fun x27 w=>
 LOOPI [6,9] [(u4 6),(iV 0)] w fun u9 w next9=>
 rF 31 x2 4 w fun x29=>
 rL 29 x29 w fun x30=>
 rN 29 3 x30 w fun x31=>
 rC (u9 9) x31 w fun x32=>
 BR x32
 (rX 82 x27 (u9 9) w fun x37=>
 rL 4 x37 w fun x38=>
 BR x38
 (rF 31 x2 4 w fun x40=>
 rL 29 x40 w fun x41=>
 rX 29 x41 (u9 9) w fun x43=>
 rF 94 x43 0 w fun x44=>
 rL 3 x44 w fun x45=>
 rB .eql 3 T0 U0 x45 (iV 7) w fun x46=>
 BR x46
 (rF 31 x2 4 w fun x49=>
 rL 29 x49 w fun x50=>
 rX 29 x50 (u9 9) w fun x52=>
 rF 94 x52 1 w fun x53=>
 rL 3 x53 w fun x54=>
 cL 127 [x54] w fun x55 w=>
 cL 128 [(u9 6),x55] w fun x56 w=>
 rA (u9 9) (iV 1) w fun x34=>
 next9 [x56,x34] w)
 (rA (u9 9) (iV 1) w fun x34=>
 next9 [(u9 6),x34] w))
 (rA (u9 9) (iV 1) w fun x34=>
 next9 [(u9 6),x34] w))
 (rA (u4 7) (iV 1) w fun x19=>
 next4 [(u9 6),x19] w)))
 (R (u4 6) w)
def cfg213:Cfg:=⟨extL,[],[(4,144115188075848640,[6,7]),(9,144115187807420992,[6,9])],[],[],[],[]⟩
theorem F213_call {a0 a1:Value} {w:World} {R:VW} (h:F213 a0 a1 w R):cL 213 [a0,a1] w R:=co (g:=cfg213) Tryz.func213 (by kernel_rfl) (by kernel_rfl) (by kernel_rfl) h
open Rep (rep)
theorem ziv {p:Nat→Prop} {n:Nat}:∀ {k:Nat},k≤n→zcA (zbY p n) k=zaA (zaS k p)
 | 0,_=>rfl
 | k+1,h=>by
   rw [zcA,ziv (k:=k) (by omega)]
   by_cases hp:p k
   · rw [if_pos (zaO.2 ⟨by omega,hp⟩),zcc hp,zbM];rfl
   rw [if_neg fun e=>hp (zaO.1 e).2,zck hp]
theorem zcW {p:Nat→Prop} {n:Nat} (h:n≤62):zbn (zbY p n)=zaA (zaS n p):=by
 rw [zkk (k:=n) zgV (by omega),ziv (Nat.le_refl _)]
theorem za3 {p:Nat→Prop} {n:Nat} (h:n≤8):zbY p n<256:=Nat.lt_of_lt_of_le zgV (Nat.pow_le_pow_right (n:=2) (by omega) h)
noncomputable def cls (c:DCode) (op:Int):List Nat:=(List.range c.procs.length).map fun p=>zbY (zip c p op) c.procs.length
noncomputable def frs (c:DCode):List Nat:=(List.range c.procs.length).map fun p=>zbY (FromP c p) c.procs.length
theorem zfa (c:DCode) (op:Int):(cls c op).length=c.procs.length:=by simp [cls]
theorem zg3 (c:DCode):(frs c).length=c.procs.length:=by simp [frs]
theorem ztl {c:DCode} {op:Int} {p:Nat} (hp:p<c.procs.length):zau (cls c op) p=zbY (zip c p op) c.procs.length:=by rw [←zaX (by rw [zfa];exact hp)];simp [cls]
theorem znU {c:DCode} {p:Nat} (hp:p<c.procs.length):zau (frs c) p=zbY (FromP c p) c.procs.length:=by rw [←zaX (by rw [zg3];exact hp)];simp [frs]
noncomputable def zce (c:DCode):Nat:=zbY (RootP c) c.procs.length
noncomputable def zdd (c:DCode):Nat:=zbY (UsedP c) c.procs.length
structure WAt (W0:World) (b:Nat) (c:DCode):Prop where
 wl:WL W0 b c
 calls:At W0 b (0+6) (zaA (cls c 4))
 spawns:At W0 b (0+7) (zaA (cls c 5))
 frm:At W0 b (0+8) (zaA (frs c))
 roots:At W0 b (0+9) (zce c:Int)
 used:At W0 b (0+10) (zdd c:Int)
def KI (m:Nat) (P:Nat→Prop):Prop:=m<64∧∀ l,l<6→(m.testBit l=false↔P l)
theorem KI.start {P:Nat→Prop} (h:∀ l,¬P l):KI 63 P:=⟨by omega,fun l hl=>by rw [zgy hl];exact ⟨fun e=>(by cases e),fun e=>absurd e (h l)⟩⟩
theorem KI.drop {m a:Nat} {P P':Nat→Prop} (h:KI m P) (hP:∀ l,P' l↔P l∨a=l):KI (zhE m (2^a)) P':=by
 refine ⟨Nat.lt_of_le_of_lt (zf0 _ _) h.1,fun l hl=>?_⟩
 rw [zcd,Nat.testBit_two_pow,hP,←h.2 l hl]
 simp only [Bool.and_eq_false_iff,Bool.not_eq_false',decide_eq_true_eq]
theorem KI.congr {m:Nat} {P P':Nat→Prop} (h:KI m P) (hP:∀ l,P' l↔P l):KI m P':=⟨h.1,fun l hl=>by rw [h.2 l hl,hP]⟩
theorem KI.eq {m:Nat} {P:Nat→Prop} (h:KI m P):m=m6 fun l=>¬P l:=zqn h.1 fun l hl=>by rw [←h.2 l hl];simp
theorem za9 {α:Type} {l:List α} {k:Nat} (hk:k<l.length) {x:α}:x∈l.take (k+1)↔x∈l.take k∨x=l[k]:=by
 rw [List.take_succ_eq_append_getElem hk,List.mem_append];simp
def zlC (c:DCode) (q l:Nat):Prop:=∃ i,zaC c q i∧(zal c i).op=7∧agN c i=l
theorem zqw {w W0:World} {b p:Nat} {c:DCode} (hW:WAt W0 b c) (e0:Ext W0 w) (hc:CodeR c) (hp:p<c.procs.length) :
   CALL Tryz.prog 217 [.pointer (some ⟨b,0,none⟩),.int .i64 (p:Int)] w fun r w'=>Ext w w'∧r=.int .i64 (zeh c p:Nat):=by
 refine F217_call ?_
 unfold F217
 have h8:=hc.1.procs8
 have hil:=hc.f.ins
 refine NIL.mk rfl ?_
 refine zaa zk2 ?_
 refine zac zbE hW.frm e0 fun v13 h13=>?_
 refine zad u23 ty3 h13 (by rw [zae,zg3];exact hp) fun b1 o1 hA1=>?_
 rw [zaG,znU hp] at hA1
 refine zab ty3 hA1 e0 fun _=>?_
 have hsm:=za3 (p:=FromP c p) h8.1
 refine (zcJ (m:=zbY (FromP c p) c.procs.length) (by omega)).mono ?_
 rintro v17 w1 ⟨hx1,ho1⟩
 rw [zcW (by omega)] at ho1
 have hL:∀ q,q∈zaS c.procs.length (FromP c p)↔q<c.procs.length∧FromP c p q:=fun q=>zaE
 have hLl:=zaT (n:=c.procs.length) (p:=FromP c p)
 generalize zaS c.procs.length (FromP c p)=L at *
 refine zag u23 ho1.is ?_
 rw [zae]
 refine zaq L.length (fun k us w'=>∃ m:Nat,us=[.int .i64 (m:Int),.int .i64 (k:Int)]∧k≤L.length∧Ext w1 w'∧KI m (fun l=>∃ q∈L.take k,zlC c q l)) 0 (Nat.zero_le _) ⟨63,rfl,Nat.zero_le _,Ext.refl _,KI.start (by simp)⟩ ?_
 rintro k mk u w2 hkm ⟨m,hu,hkl,hx2,hK⟩
 obtain ⟨hu1,hu2⟩:=zb1 hu;clear hu
 rw [hu1,hu2]
 refine zah ?_
 refine br (fun hlt=>?_) (fun hge=>?_)
 case refine_2=>
   rw [show L.take k=L from List.take_of_length_le (by omega)] at hK
   refine ⟨hx1.trans hx2,?_⟩
   have:m=zeh c p:=by
     rw [hK.eq]
     refine znR fun l hl=>not_congr ?_
     constructor
     · rintro ⟨q,hq,i,h1,h2,h3⟩
       exact ⟨q,i,((hL q).1 hq).1,((hL q).1 hq).2,h1,h2,h3⟩
     rintro ⟨q,i,h0,hf,h1,h2,h3⟩
     exact ⟨q,(hL q).2 ⟨h0,hf⟩,i,h1,h2,h3⟩
   rw [this]
 have hk:k<L.length:=by omega
 refine zad u23 ty3 (i:=k) (ho1.is) (by rw [zae];exact hk) fun b2 o2 hA2=>?_
 rw [zaL] at hA2
 refine zab ty3 hA2 hx2 fun _=>?_
 have hq:=(hL L[k]).1 (List.getElem_mem hk)
 have htk:=fun x=>za9 hk (x:=x)
 generalize L[k]=q at *
 have hx02:=(e0.trans hx1).trans hx2
 refine (ze9 hW.wl hx02 hc hq.1).mono ?_
 rintro v25 w3 ⟨hx3,ho3⟩
 have hM:∀ i,i∈zaS c.ins.length (zaC c q)↔i<c.ins.length∧zaC c q i:=fun i=>zaE
 have hMl:=zaT (n:=c.ins.length) (p:=zaC c q)
 generalize zaS c.ins.length (zaC c q)=M at *
 refine zag u23 ho3.is ?_
 rw [zae]
 refine zaq M.length (fun j us w'=>∃ m:Nat,us=[.int .i64 (m:Int),.int .i64 (j:Int)]∧j≤M.length∧Ext w3 w'∧KI m (fun l=>(∃ q∈L.take k,zlC c q l)∨∃ i∈M.take j,(zal c i).op=7∧agN c i=l)) 0 (Nat.zero_le _) ⟨m,rfl,Nat.zero_le _,Ext.refl _,hK.congr fun l=>by simp⟩ ?_
 rintro j mj u w4 hjm ⟨m4,hu,hjl,hx4,hK4⟩
 obtain ⟨hu1,hu2⟩:=zb1 hu
 rw [hu1,hu2]
 refine zah ?_
 refine br (fun hlt=>?_) (fun hge=>?_)
 case refine_2=>
   rw [show M.take j=M from List.take_of_length_le (by omega)] at hK4
   refine zaf (by omega) ?_
   refine ⟨mk-1,by omega,k+1,by omega,m4,rfl,by omega,hx2.trans (hx3.trans hx4),hK4.congr fun l=>?_⟩
   constructor
   · rintro ⟨r,hr,h1⟩
     rcases (htk r).1 hr with hr | rfl
     · exact .inl ⟨r,hr,h1⟩
     obtain ⟨i,h1,h2,h3⟩:=h1
     exact .inr ⟨i,(hM i).2 ⟨(zby hc (by rw [hc.2.1.1];exact hq.1) h1).1,h1⟩,h2,h3⟩
   rintro (⟨r,hr,h1⟩ | ⟨i,hi,h2,h3⟩)
   · exact ⟨r,(htk r).2 (.inl hr),h1⟩
   exact ⟨q,(htk q).2 (.inr rfl),i,((hM i).1 hi).2,h2,h3⟩
 have hj:j<M.length:=by omega
 refine zad u23 ty3 (i:=j) (ho3.is) (by rw [zae];exact hj) fun b3 o3 hA3=>?_
 rw [zaL] at hA3
 refine zab ty3 hA3 hx4 fun _=>?_
 have hi:=(hM M[j]).1 (List.getElem_mem hj)
 have htj:=fun x=>za9 hj (x:=x)
 generalize M[j]=i at *
 have hx04:=hx02.trans (hx3.trans hx4)
 refine NIL.mk rfl ?_
 refine zaa zbd ?_
 refine zaa zaJ ?_
 refine zac zct (zai hW.wl.code) hx04 fun v35 h35=>?_
 refine zad u29 zcb h35 hi.1 fun b4 o4 hA4=>?_
 rw [zaF] at hA4
 refine zaa za6 ?_
 refine zab ty3 (zas hA4) hx04 fun _=>?_
 refine zao ?_
 refine br (fun c7=>?_) (fun c7=>?_)
 · obtain ⟨ha,_,hq6⟩:=zcl hc hi.1 (.inr c7)
   have hpw:=zd3 hq6
   refine NIL.mk rfl ?_
   refine zaa zbd ?_
   refine zaa zaJ ?_
   refine zac zct (zai hW.wl.code) hx04 fun v46 h46=>?_
   refine zad u29 zcb h46 hi.1 fun b5 o5 hA5=>?_
   rw [zaF] at hA5
   refine zaa za7 ?_
   refine zab ty3 (zav hA5) hx04 fun _=>?_
   rw [ha]
   refine zbA (by kernel_rfl) zh4 (by omega) ?_
   refine zda (by omega) ?_
   have h64:=hK4.1
   refine ze8 (m:=m4) (n:=2^agN c i) (by omega) (by omega) ?_
   refine zaf (by omega) ?_
   refine ⟨mj-1,by omega,j+1,by omega,_,rfl,by omega,hx4,hK4.drop fun l=>?_⟩
   constructor
   · rintro (h | ⟨r,hr,h1,h2⟩)
     · exact .inl (.inl h)
     rcases (htj r).1 hr with hr | rfl
     · exact .inl (.inr ⟨r,hr,h1,h2⟩)
     exact .inr h2
   rintro ((h | ⟨r,hr,h1⟩) | h)
   · exact .inl h
   · exact .inr ⟨r,(htj r).2 (.inl hr),h1⟩
   exact .inr ⟨i,(htj i).2 (.inr rfl),c7,h⟩
 refine zaf (by omega) ?_
 refine ⟨mj-1,by omega,j+1,by omega,_,rfl,by omega,hx4,hK4.congr fun l=>?_⟩
 constructor
 · rintro (h | ⟨r,hr,h1,h2⟩)
   · exact .inl h
   rcases (htj r).1 hr with hr | rfl
   · exact .inr ⟨r,hr,h1,h2⟩
   exact absurd h1 c7
 rintro (h | ⟨r,hr,h1⟩)
 · exact .inl h
 exact .inr ⟨r,(htj r).2 (.inl hr),h1⟩
theorem zoH {w W0:World} {v0:Value} {p:Nat} {c:DCode} (h0:Is W0 v0 c) (e0:Ext W0 w) (hc:CodeR c) (hp:p<c.procs.length) :
   CALL Tryz.prog 213 [v0,.int .i64 (p:Int)] w fun r w'=>Ext w w'∧r=.int .i64 (zeh c p:Nat):=by
 refine F213_call ?_
 unfold F213
 have h8:=hc.1.procs8
 have hil:=hc.f.ins
 refine zbr h0 e0 fun w0 hx0 hA=>?_
 refine zac zbt hA (Ext.refl _) fun v10 h10=>?_
 refine (zeD h10 (Ext.refl _) hc hp).mono ?_
 rintro _ w1 ⟨hx1,g,rfl,hg,hM1⟩
 have hFr:(fun i=>i=p∨RP (zis c) p i)=FromP c p:=rfl
 rw [hFr] at hM1
 refine zaq c.procs.length (fun k us w'=>∃ m:Nat,us=[.int .i64 (m:Int),.int .i64 (k:Int)]∧k≤c.procs.length∧Ext w1 w'∧KI m (fun l=>∃ q,q<k∧FromP c p q∧zlC c q l)) 0 (Nat.zero_le _) ⟨63,rfl,Nat.zero_le _,Ext.refl _,KI.start (by simp)⟩ ?_
 rintro k mk u w2 hkm ⟨m,hu,hkl,hx2,hK⟩
 obtain ⟨hu1,hu2⟩:=zb1 hu;clear hu
 rw [hu1,hu2]
 have hx02:=hx1.trans hx2
 refine zaa zba ?_
 refine zac zbP (zar hA) hx02 fun v15 h15=>?_
 refine zag u22 h15 ?_
 refine zah ?_
 refine br (fun hlt=>?_) (fun hge=>?_)
 case refine_2=>
   have hke:k=c.procs.length:=by omega
   rw [hke] at hK
   refine ⟨hx0.trans hx02,?_⟩
   have:m=zeh c p:=by
     rw [hK.eq]
     refine znR fun l hl=>not_congr ?_
     constructor
     · rintro ⟨q,hq,hf,i,h1,h2,h3⟩
       exact ⟨q,i,hq,hf,h1,h2,h3⟩
     rintro ⟨q,i,h0,hf,h1,h2,h3⟩
     exact ⟨q,h0,hf,i,h1,h2,h3⟩
   rw [this]
 have hk:k<c.procs.length:=by omega
 refine zad u82 ty4 (i:=k) hM1.is (by rw [zaj];exact hk) fun b2 o2 hA2=>?_
 refine zaw ty4 hA2 hx2 ?_
 have hmk:=zaB (n:=c.procs.length) (p:=FromP c p) (i:=k)
 rw [zaM (by rw [zaj];exact hk)] at hmk
 refine zaV ?_
 refine zbw (fun hf=>?_) (fun hf=>?_)
 · have hnf:¬FromP c p k:=fun h=>by rw [hmk.2 ⟨hk,h⟩] at hf;cases hf
   refine zaf (by omega) ?_
   refine ⟨mk-1,by omega,k+1,by omega,m,rfl,by omega,hx2,hK.congr fun l=>?_⟩
   constructor
   · rintro ⟨q,hq,h1,h2⟩
     by_cases e:q=k
     · subst e;exact absurd h1 hnf
     exact ⟨q,by omega,h1,h2⟩
   rintro ⟨q,hq,h1⟩;exact ⟨q,by omega,h1⟩
 have hfr:FromP c p k:=(hmk.1 (by simpa using hf)).2
 refine zac zbt hA hx02 fun v25 h25=>?_
 refine (zec h25 hx02 hc (by rw [hc.2.1.1];exact hk)).mono ?_
 rintro v27 w3 ⟨hx3,ho3⟩
 refine zaq c.ins.length (fun j us w'=>∃ m:Nat,us=[.int .i64 (m:Int),.int .i64 (j:Int)]∧j≤c.ins.length∧Ext w3 w'∧KI m (fun l=>(∃ q,q<k∧FromP c p q∧zlC c q l)∨∃ i,i<j∧zaC c k i∧(zal c i).op=7∧agN c i=l)) 0 (Nat.zero_le _) ⟨m,rfl,Nat.zero_le _,Ext.refl _,hK.congr fun l=>by simp⟩ ?_
 rintro j mj u w4 hjm ⟨m4,hu,hjl,hx4,hK4⟩
 obtain ⟨hu1,hu2⟩:=zb1 hu
 rw [hu1,hu2]
 have hx04:=hx02.trans (hx3.trans hx4)
 refine zaa zaJ ?_
 refine zac zct (zai hA) hx04 fun v30 h30=>?_
 refine zag u29 h30 ?_
 refine zah ?_
 refine br (fun hlt=>?_) (fun hge=>?_)
 case refine_2=>
   have hje:j=c.ins.length:=by omega
   rw [hje] at hK4
   refine zaf (by omega) ?_
   refine ⟨mk-1,by omega,k+1,by omega,m4,rfl,by omega,hx2.trans (hx3.trans hx4),hK4.congr fun l=>?_⟩
   constructor
   · rintro ⟨q,hq,h1,h2⟩
     by_cases e:q=k
     · subst e
       obtain ⟨i,h3,h4⟩:=h2
       exact .inr ⟨i,(zby hc (by rw [hc.2.1.1];exact hk) h3).1,h3,h4⟩
     exact .inl ⟨q,by omega,h1,h2⟩
   rintro (⟨q,hq,h1⟩ | ⟨i,hi,h2⟩)
   · exact ⟨q,by omega,h1⟩
   exact ⟨k,by omega,hfr,i,h2⟩
 have hj:j<c.ins.length:=by omega
 refine zad u82 ty4 (i:=j) ho3.is (by rw [zaj];exact hj) fun b3 o3 hA3=>?_
 refine zaw ty4 hA3 hx4 ?_
 have hmj:=zaB (n:=c.ins.length) (p:=zaC c k) (i:=j)
 rw [zaM (by rw [zaj];exact hj)] at hmj
 have hno:∀ w',Ext w3 w'→¬(zaC c k j∧(zal c j).op=7)→∃ m:Nat,[Value.int .i64 (m4:Int),Value.int .i64 ((j+1:Nat):Int)]=[.int .i64 (m:Int),.int .i64 ((j+1:Nat):Int)]∧j+1≤c.ins.length∧Ext w3 w'∧KI m (fun l=>(∃ q,q<k∧FromP c p q∧zlC c q l)∨∃ i,i<j+1∧zaC c k i∧(zal c i).op=7∧agN c i=l):=fun w' hx hn=>by
   refine ⟨m4,rfl,by omega,hx,hK4.congr fun l=>or_congr Iff.rfl ?_⟩
   constructor
   · rintro ⟨i,h1,h2,h3,h4⟩
     by_cases e:i=j
     · subst e;exact absurd ⟨h2,h3⟩ hn
     exact ⟨i,by omega,h2,h3,h4⟩
   rintro ⟨i,h1,h2⟩;exact ⟨i,by omega,h2⟩
 refine zbw (fun hf4=>?_) (fun hf4=>?_)
 · refine zaa zaJ ?_
   refine zac zct (zai hA) hx04 fun v41 h41=>?_
   refine zad u29 zcb h41 hj fun b4 o4 hA4=>?_
   rw [zaF] at hA4
   refine zaa za6 ?_
   refine zab ty3 (zas hA4) hx04 fun _=>?_
   refine zao ?_
   refine br (fun c7=>?_) (fun c7=>?_)
   · obtain ⟨ha,_,hq6⟩:=zcl hc hj (.inr c7)
     have hpw:=zd3 hq6
     refine zaa zaJ ?_
     refine zac zct (zai hA) hx04 fun v50 h50=>?_
     refine zad u29 zcb h50 hj fun b5 o5 hA5=>?_
     rw [zaF] at hA5
     refine zaa za7 ?_
     refine zab ty3 (zav hA5) hx04 fun _=>?_
     rw [ha]
     refine (zef (by omega)).mono ?_
     rintro _ w5 ⟨hx5,rfl⟩
     refine (zg0 hK4.1 hpw).mono ?_
     rintro _ w6 ⟨hx6,rfl⟩
     rw [zf1 hK4.1 hpw]
     refine zaf (by omega) ?_
     refine ⟨mj-1,by omega,j+1,by omega,_,rfl,by omega,hx4.trans (hx5.trans hx6),hK4.drop fun l=>?_⟩
     constructor
     · rintro (h | ⟨i,h1,h2,h3,h4⟩)
       · exact .inl (.inl h)
       by_cases e:i=j
       · subst e;exact .inr h4
       exact .inl (.inr ⟨i,by omega,h2,h3,h4⟩)
     rintro ((h | ⟨i,h1,h2⟩) | h)
     · exact .inl h
     · exact .inr ⟨i,by omega,h2⟩
     exact .inr ⟨j,by omega,(hmj.1 hf4).2,c7,h⟩
   refine zaf (by omega) ?_
   exact ⟨mj-1,by omega,j+1,by omega,hno w4 hx4 fun h=>c7 h.2⟩
 refine zaf (by omega) ?_
 exact ⟨mj-1,by omega,j+1,by omega,hno w4 hx4 fun h=>by rw [hmj.2 ⟨hj,h.1⟩] at hf4;cases hf4⟩
end Go.Proofs.YtbnjpfjjmhodnaaGreatDoor
