/-
  Parts of the proof, put together by program.
-/
import Derived.Test.YtcnglfeoglgebaaGreatPFnSerial5
set_option linter.unusedVariables false
set_option linter.unusedSimpArgs false
set_option linter.unusedSectionVars false
namespace Go.Proofs.YtcnglfeoglgebaaGreat
open Go Go.Sh Go.Proofs
open Rep (rep)
theorem zlX {lo hi:Nat} {w:World} {x:DTouch} (h1:I64 x.at_) (h2:I64 x.global) (h3:I64 x.held):OwnI lo hi w (.agg #[.int .i64 x.at_,.int .i64 x.global,.bool x.write,.int .i64 x.held]) x:=
 ⟨[],zqm h1 h2 h3,by simp⟩
def zde (c:DCode) (a:Int) (held:Int) (i:DIns):Nat→List DTouch
 | 0=>[]
 | k+1=>zde c a held i k++(if c.globals.getD k ByteArray.empty∈zbl i.term then [⟨a,k,false,held⟩] else [])++(if i.op=1∧i.arg=k then [⟨a,k,true,held⟩] else [])
def zer (c:DCode) (a:Int) (held:Int):List DTouch:=
 if (zap c a.toNat).op=1∨(zap c a.toNat).op=2 then zde c a held (zap c a.toNat) c.globals.length else []
theorem zgj (c:DCode) (a held:Int) (i:DIns):∀ k,(zde c a held i k).length≤2*k
 | 0=>by simp [zde]
 | k+1=>by
   have:=zgj c a held i k
   rw [zde,List.length_append,List.length_append]
   split<;>split<;>simp<;>omega
theorem zns (c:DCode) (a held:Int):(zer c a held).length≤2*c.globals.length:=by
 unfold zer
 split
 · exact zgj _ _ _ _ _
 simp
def F146 (a0 a1 a2:Value) (w:World) (R:VW):Prop:=
 oP (Instr.box 36 a0) w fun x3 w=>
 rF 36 x3 4 w fun x12=>
 rL 34 x12 w fun x13=>
 rX 34 x13 a1 w fun x15=>
 rL 84 x15 w fun x16=>
 oP (Instr.alloc 84 true (.tuple #[])) w fun x7 w=>
 oS 84 x7 x16 w fun w=>
 JOIN [] (fun J4=>
 rF 84 x7 0 w fun x17=>
 rL 3 x17 w fun x18=>
 rB .neq 3 T0 U0 x18 (iV 1) w fun x19=>
 BR x19
 (rF 84 x7 0 w fun x21=>
 rL 3 x21 w fun x22=>
 rB .neq 3 T0 U0 x22 (iV 2) w fun x23=>
 BR x23
 (R (Value.slice none 0 0) w)
 (J4 [] w))
 (J4 [] w)) (fun u4 w=>
 rF 84 x7 2 w fun x25=>
 rL 53 x25 w fun x26=>
 cL 182 [x26] w fun x27 w=>
 rF 36 x3 0 w fun x28=>
 rL 24 x28 w fun x29=>
 rN 24 3 x29 w fun x30=>
 LOOPI [9,31] [(Value.slice none 0 0),(iV 0)] w fun u7 w next7=>
 rC (u7 31) x30 w fun x32=>
 BR x32
 (rX 24 x29 (u7 31) w fun x34=>
 rL 9 x34 w fun x35=>
 JOIN [9] (fun J11=>
 cL 99 [x27,x35] w fun x38 w=>
 BR x38
 (rD (Instr.build 138 #[(0,a1),(1,(u7 31)),(3,a2)]) w fun x43=>
 oP (Instr.buildSlice 133 1 #[(0,x43)]) w fun x44 w=>
 oP (Builtin.append_ #[133,133] 133 [(u7 9),x44].toArray) w fun x45 w=>
 J11 [x45] w)
 (J11 [(u7 9)] w)) (fun u11 w=>
 rF 84 x7 0 w fun x46=>
 rL 3 x46 w fun x47=>
 rB .eql 3 T0 U0 x47 (iV 1) w fun x48=>
 BR x48
 (rF 84 x7 1 w fun x50=>
 rL 3 x50 w fun x51=>
 rB .eql 3 T0 T0 x51 (u7 31) w fun x53=>
 BR x53
 (rD (Instr.build 138 #[(0,a1),(1,(u7 31)),(2,(Value.bool true)),(3,a2)]) w fun x59=>
 oP (Instr.buildSlice 133 1 #[(0,x59)]) w fun x60 w=>
 oP (Builtin.append_ #[133,133] 133 [(u11 9),x60].toArray) w fun x61 w=>
 rA (u7 31) (iV 1) w fun x62=>
 next7 [x61,x62] w)
 (rA (u7 31) (iV 1) w fun x62=>
 next7 [(u11 9),x62] w))
 (rA (u7 31) (iV 1) w fun x62=>
 next7 [(u11 9),x62] w)))
 (R (u7 9) w))
def cfg146:Cfg:=⟨extL,[(4,33423424,[]),(11,70300024701440,[9])],[(7,9223372034707295744,[9,31])],[],[],[],[]⟩
theorem F146_call {a0 a1 a2:Value} {w:World} {R:VW} (h:F146 a0 a1 a2 w R):cL 146 [a0,a1,a2] w R:=co (g:=cfg146) Tryz.func146 (by kernel_rfl) (by kernel_rfl) (by kernel_rfl) h
theorem zlY {w:World} {v0:Value} {W0:World} {c:DCode} {a:Int} {held:Int}  (h0:Is W0 v0 c) (e0:Ext W0 w) (hc:CodeR c) (ha:0≤a) (ha2:a<c.ins.length) (hh:I64 held) :
   CALL Tryz.prog 146 [v0,.int .i64 a,.int .i64 held] w fun r w'=>Ext w w'∧(Own w.heap.size w' r (zer c a held)):=by
 refine F146_call ?_
 unfold F146
 have hil:=hc.f.ins
 have hg6:c.globals.length≤6:=by have h1:=hc.1.1;simp only [Bool.and_eq_true,decide_eq_true_eq] at h1;omega
 have hs_e0:=e0.size
 refine zaz zdW rfl h0 e0 fun w1_ hx1_ hA3 hV3=>?_
 have hs_hx1_:=hx1_.size
 refine zaa zaG ?_
 refine zab zdi (zao hA3) (Ext.refl w1_) fun v13 h13=>?_
 refine zav u34 zdY h13 (by omega) (by omega) fun b15 o15 h15=>?_
 rw [zaP] at h15
 obtain ⟨i,hi⟩:∃ i,i=zap c a.toNat:=⟨_,rfl⟩
 rw [←hi] at h15
 refine zab zdY h15 (Ext.refl w1_) fun v16 h16=>?_
 refine zcA zr2 rfl zdY rfl h16 (Ext.refl w1_) fun w2_ hx2_ hA7 hV7=>?_
 have hs_hx2_:=hx2_.size
 have hg7:=hV7.lt
 refine JOIN.mk (fun us w'=>us=[]∧Ext w2_ w'∧(i.op=1∨i.op=2)) ?_ ?_
 · refine zaa zbx ?_
   refine zac ty3 (zaC hA7) (Ext.refl w2_) fun hI18=>?_
   refine zaO ?_
   refine br (fun c1=>?_) (fun c1=>?_)
   · refine zaa zbx ?_
     refine zac ty3 (zaC hA7) (Ext.refl w2_) fun hI22=>?_
     refine zaO ?_
     refine br (fun c2=>?_) (fun c2=>?_)
     · refine ⟨(hx1_.trans hx2_),?_⟩
       unfold zer
       rw [←hi,if_neg (by omega)]
       exact zhc rfl
     refine ⟨by simp,Ext.refl w2_,?_⟩
     omega
   refine ⟨by simp,Ext.refl w2_,?_⟩
   omega
 rintro uj4 w3_ ⟨hu,hx3_,hop⟩
 have hs_hx3_:=hx3_.size
 simp only [List.map_cons,List.map_nil,List.cons.injEq,and_true] at hu
 clear hu
 refine zaa zdZ ?_
 refine zab zcd (zbz hA7) hx3_ fun v26 h26=>?_
 refine (zdk h26 hx3_).mono ?_
 rintro r27 w4_ ⟨hx4_,h27⟩
 have hs_hx4_:=hx4_.size
 refine zaa zc5 ?_
 refine zab zcQ (za9 hA3) (hx2_.trans (hx3_.trans hx4_)) fun v29 h29=>?_
 have hln30:=zah h29
 refine zae u24 h29 ?_
 refine zaB (c.globals.length) (fun k us w'=>∃ v:Value,us=[v,.int .i64 (k:Int)]∧Ext w4_ w'∧(RowI w4_.heap.size w'.heap.size 138 w' v (zde c a held i k))) (0) (by omega) ⟨_,rfl,Ext.refl w4_,zbE _ _ _ _⟩ ?_
 rintro k m7 uu7 w5_ hk7 ⟨v9,hu,hx5_,hrow⟩
 have hs_hx5_:=hx5_.size
 obtain ⟨hu0,hu1⟩:=ze4 hu;clear hu
 try rw [hu0]
 try rw [hu1]
 try clear hu0 hu1
 have hrl:=zgj c a held i k
 refine zai ?_
 refine br (fun c3=>?_) (fun c3=>?_)
 · refine zad u24 ty9 h29 (by omega) fun b34 o34 h34=>?_
   refine zas ty9 h34 (hx2_.trans (hx3_.trans (hx4_.trans hx5_))) fun hS35=>?_
   refine JOIN.mk (fun us w'=>∃ v:Value,us=[v]∧Ext w4_ w'∧(RowI w4_.heap.size w'.heap.size 138 w' v (zde c a held i k++(if c.globals.getD k ByteArray.empty∈zbl i.term then [⟨a,k,false,held⟩] else [])))) ?_ ?_
   · have hgk:c.globals[k]'(by omega)=c.globals.getD k ByteArray.empty:=by rw [List.getD_eq_getElem?_getD,List.getElem?_eq_getElem (by omega)];rfl
     refine (zbt h27 hx5_).mono ?_
     rintro _ w7_ ⟨hx7_,rfl⟩
     have hs_hx7_:=hx7_.size
     refine br (fun c4=>?_) (fun c4=>?_)
     · refine zaT (cells:=#[.int .i64 a,.int .i64 (k:Int),.bool false,.int .i64 held]) (by kernel_rfl) ?_
       have o43:OwnI w7_.heap.size w7_.heap.size w7_ (.agg #[.int .i64 a,.int .i64 (k:Int),.bool false,.int .i64 held]) (⟨a,k,false,held⟩:DTouch):=zlX (x:=⟨a,k,false,held⟩) (by show I64 a;unfold I64;omega) (by show I64 (k:Int);unfold I64;omega) hh
       refine zcI (α:=DTouch) ztl zfY zwp ztZ (by decide) (hrow.ext hx7_) (by omega) (o43.ext (Ext.refl w7_)) (by omega) (by omega) (by rw [zam];omega) (by omega) fun v45 w8_ hc8_ o45=>?_
       have hs_hc8_:=hc8_.size
       have o43_c8:=(o43.ext (Ext.refl w7_)).chg hc8_ (by omega)
       refine ⟨_,rfl,(Ext.chgI (hx5_.trans hx7_) hc8_ (by omega)),?_⟩
       rw [if_pos (by rw [←hgk];exact c4)];exact o45
     refine ⟨_,rfl,(hx5_.trans hx7_),?_⟩
     rw [if_neg (by rw [←hgk];exact c4),List.append_nil];exact (hrow.ext hx7_).mono (by omega) (by omega)
   rintro uj11 w6_ ⟨v11,hu,hx8_,hrow2⟩
   have hs_hx8_:=hx8_.size
   simp only [List.map_cons,List.map_nil,List.cons.injEq,and_true] at hu
   try rw [hu]
   try clear hu
   refine zaa zbx ?_
   refine zac ty3 (zaC hA7) (hx3_.trans (hx4_.trans hx8_)) fun hI47=>?_
   refine zaf ?_
   refine br (fun c5=>?_) (fun c5=>?_)
   · refine zaa zby ?_
     refine zac ty3 (zaD hA7) (hx3_.trans (hx4_.trans hx8_)) fun hI51=>?_
     refine zaf ?_
     refine br (fun c6=>?_) (fun c6=>?_)
     · refine zaT (cells:=#[.int .i64 a,.int .i64 (k:Int),.bool true,.int .i64 held]) (by kernel_rfl) ?_
       have o59:OwnI w6_.heap.size w6_.heap.size w6_ (.agg #[.int .i64 a,.int .i64 (k:Int),.bool true,.int .i64 held]) (⟨a,k,true,held⟩:DTouch):=zlX (x:=⟨a,k,true,held⟩) (by show I64 a;unfold I64;omega) (by show I64 (k:Int);unfold I64;omega) hh
       refine zcI (α:=DTouch) ztl zfY zwp ztZ (by decide) (hrow2.ext (Ext.refl w6_)) (by omega) (o59.ext (Ext.refl w6_)) (by omega) (by omega) (by rw [zam,List.length_append];split<;>simp<;>omega) (by rw [List.length_append];split<;>simp<;>omega) fun v61 w9_ hc9_ o61=>?_
       have hs_hc9_:=hc9_.size
       have o59_c9:=(o59.ext (Ext.refl w6_)).chg hc9_ (by omega)
       refine zag (by omega) ?_
       refine ⟨m7-1,by omega,k+1,by omega,_,rfl,(Ext.chgI hx8_ hc9_ (by omega)),?_⟩
       rw [zde,if_pos (c:=i.op=1∧i.arg=k) ⟨by omega,by omega⟩];exact o61
     refine zag (by omega) ?_
     refine ⟨m7-1,by omega,k+1,by omega,_,rfl,hx8_,?_⟩
     rw [zde,if_neg (c:=i.op=1∧i.arg=k) (fun h=>c6 h.2),List.append_nil];exact (hrow2.ext (Ext.refl w6_)).mono (by omega) (by omega)
   refine zag (by omega) ?_
   refine ⟨m7-1,by omega,k+1,by omega,_,rfl,hx8_,?_⟩
   rw [zde,if_neg (c:=i.op=1∧i.arg=k) (fun h=>c5 h.1),List.append_nil];exact (hrow2.ext (Ext.refl w6_)).mono (by omega) (by omega)
 refine ⟨(hx1_.trans (hx2_.trans (hx3_.trans (hx4_.trans hx5_)))),?_⟩
 unfold zer
 rw [←hi,if_pos hop,←show k=c.globals.length by omega]
 exact hrow.own.own.mono (by omega)
def F316 (a0:Value) (w:World) (R:VW):Prop:=
 rB .neq 3 T0 T0 a0 a0 w fun x5=>
 R x5 w
def cfg316:Cfg:=⟨extL,[],[],[],[],[],[]⟩
theorem F316_call {a0:Value} {w:World} {R:VW} (h:F316 a0 w R):cL 316 [a0] w R:=co (g:=cfg316) Tryz.func316 (by kernel_rfl) (by kernel_rfl) (by kernel_rfl) h
def F261 (a0 a1:Value) (w:World) (R:VW):Prop:=
 cL 316 [a0] w fun x8 w=>
 cL 316 [a1] w fun x10 w=>
 BR x8
 (BR x10
 (R (iV 0) w)
 (R (iV (-1)) w))
 (BR x10
 (R (iV 1) w)
 (rC a0 a1 w fun x16=>
 BR x16
 (R (iV (-1)) w)
 (rB .gtr 3 T0 T0 a0 a1 w fun x19=>
 BR x19
 (R (iV 1) w)
 (R (iV 0) w))))
def cfg261:Cfg:=⟨extL,[],[],[],[],[],[]⟩
theorem F261_call {a0 a1:Value} {w:World} {R:VW} (h:F261 a0 a1 w R):cL 261 [a0,a1] w R:=co (g:=cfg261) Tryz.func261 (by kernel_rfl) (by kernel_rfl) (by kernel_rfl) h
def F215 (a0 a1:Value) (w:World) (R:VW):Prop:=
 rN 33 3 a0 w fun x10=>
 LOOPI [11] [(iV 0)] w fun u2 w next2=>
 rC (u2 11) x10 w fun x12=>
 BR x12
 (rX 33 a0 (u2 11) w fun x14=>
 rL 3 x14 w fun x15=>
 rN 33 3 a1 w fun x18=>
 rB .geq 3 T0 T0 (u2 11) x18 w fun x19=>
 BR x19
 (R (iV 1) w)
 (rX 33 a1 (u2 11) w fun x22=>
 rL 3 x22 w fun x23=>
 cL 261 [x15,x23] w fun x26 w=>
 rB .neq 3 T0 U0 x26 (iV 0) w fun x28=>
 BR x28
 (R x26 w)
 (rA (u2 11) (iV 1) w fun x30=>
 next2 [x30] w)))
 (rN 33 3 a0 w fun x32=>
 rN 33 3 a1 w fun x34=>
 rC x32 x34 w fun x35=>
 BR x35
 (R (iV (-1)) w)
 (R (iV 0) w))
def cfg215:Cfg:=⟨extL,[],[(2,2147482096,[11])],[],[],[],[]⟩
theorem F215_call {a0 a1:Value} {w:World} {R:VW} (h:F215 a0 a1 w R):cL 215 [a0,a1] w R:=co (g:=cfg215) Tryz.func215 (by kernel_rfl) (by kernel_rfl) (by kernel_rfl) h
def F164 (a0 a1:Value) (w:World) (R:VW):Prop:=
 oP (Instr.box 58 a0) w fun x2 w=>
 oP (Instr.box 58 a1) w fun x3 w=>
 rF 58 x2 0 w fun x5=>
 rL 3 x5 w fun x6=>
 rF 58 x2 1 w fun x7=>
 rL 3 x7 w fun x8=>
 rF 58 x2 2 w fun x9=>
 rL 3 x9 w fun x10=>
 oP (Instr.buildSlice 33 3 #[(0,x6),(1,x8),(2,x10)]) w fun x11 w=>
 rF 58 x3 0 w fun x12=>
 rL 3 x12 w fun x13=>
 rF 58 x3 1 w fun x14=>
 rL 3 x14 w fun x15=>
 rF 58 x3 2 w fun x16=>
 rL 3 x16 w fun x17=>
 oP (Instr.buildSlice 33 3 #[(0,x13),(1,x15),(2,x17)]) w fun x18 w=>
 cL 215 [x11,x18] w fun x19 w=>
 R x19 w
def cfg164:Cfg:=⟨extL,[],[],[],[],[],[]⟩
theorem F164_call {a0 a1:Value} {w:World} {R:VW} (h:F164 a0 a1 w R):cL 164 [a0,a1] w R:=co (g:=cfg164) Tryz.func164 (by kernel_rfl) (by kernel_rfl) (by kernel_rfl) h
theorem zws:zbU Tryz.prog 3=some [.int .i64 0]:=by kernel_rfl
def zoF (x y:Int):Int:=if x<y then -1 else if y<x then 1 else 0
def zsG:List Int→List Int→Int
 | [],[]=>0
 | [],_ :: _=>-1
 | _ :: _,[]=>1
 | x :: l,y :: m=>if zoF x y≠0 then zoF x y else zsG l m
theorem isNaN_ok {w:World} {x:Int}:CALL Tryz.prog 316 [.int .i64 x] w fun r w'=>w'=w∧r=.bool false:=by
 refine F316_call ?_
 unfold F316
 exact zaO ⟨rfl,by simp⟩
theorem compareI_ok {w:World} {x y:Int}:CALL Tryz.prog 261 [.int .i64 x,.int .i64 y] w fun r w'=>w'=w∧r=.int .i64 (zoF x y):=by
 refine F261_call ?_
 unfold F261
 refine isNaN_ok.mono ?_
 rintro _ _ ⟨rfl,rfl⟩
 refine isNaN_ok.mono ?_
 rintro _ _ ⟨rfl,rfl⟩
 refine zb4 (fun h=>by cases h) (fun _=>?_)
 refine zb4 (fun h=>by cases h) (fun _=>?_)
 refine zai ?_
 refine br (fun h=>⟨rfl,by rw [zoF,if_pos h]⟩) (fun h=>?_)
 refine zcT ?_
 refine br (fun h2=>⟨rfl,by rw [zoF,if_neg h,if_pos h2]⟩) (fun h2=>⟨rfl,by rw [zoF,if_neg h,if_neg h2]⟩)
theorem zkU {P:Program} {w:World} {K:Value→Prop} {t ty e:TypeId} {a:Option Addr} {n c:Nat} (ht:P.underlying t=some (.slice e)) (k:K (.int .i64 (n:Int))) :
   RD P (Builtin.len_ #[t] ty [Value.slice a n c].toArray) w K:=zaQ (fun w' _=>by simp [Builtin.len_,run_underlying ht];rfl) k
def vI (l:List Int):List Value:=l.map fun x=>.int .i64 x
theorem ztA {l:List Int} {k:Nat} (h:k<l.length):(vI l)[k]?=some (.int .i64 l[k]):=by simp [vI,h]
theorem zq3 {l m:List Int} {k:Nat} (h1:k<l.length) (h2:k<m.length):zsG (l.drop k) (m.drop k)=if zoF l[k] m[k]≠0 then zoF l[k] m[k] else zsG (l.drop (k+1)) (m.drop (k+1)):=by
 rw [List.drop_eq_getElem_cons h1,List.drop_eq_getElem_cons h2,zsG]
theorem znt {w:World} {g1 g2 e1 e2 c1 c2:Nat} {l m:List Int} (h1:Blk g1 e1 w (vI l)) (h2:Blk g2 e2 w (vI m)) (hl:l.length≤1000) (hm:m.length≤1000) :
   CALL Tryz.prog 215 [.slice (some ⟨g1,0,none⟩) l.length c1,.slice (some ⟨g2,0,none⟩) m.length c2] w fun r w'=>w'=w∧r=.int .i64 (zsG l m):=by
 refine F215_call ?_
 unfold F215
 refine zkU u33 ?_
 refine zaB l.length (fun k us w'=>us=[.int .i64 (k:Int)]∧w'=w∧k≤m.length∧zsG l m=zsG (l.drop k) (m.drop k)) 0 (Nat.zero_le _) ⟨rfl,rfl,Nat.zero_le _,rfl⟩ ?_
 rintro k mk u w2 hkm ⟨hu,rfl,hkl,hc⟩
 simp only [List.map_cons,List.map_nil,List.cons.injEq,and_true] at hu
 rw [hu]
 refine zai ?_
 refine br (fun hlt=>?_) (fun hge=>?_)
 · have hk1:k<l.length:=by omega
   refine ziq u33 ty3 hk1 ?_
   rw [Nat.mul_one]
   refine zaA ty3 h1 (ztA hk1) ?_
   refine zkU u33 ?_
   refine zb5 ?_
   refine br (fun hge=>?_) (fun hlt2=>?_)
   · refine ⟨rfl,?_⟩
     have e0:m.drop k=[]:=List.drop_eq_nil_of_le (by omega)
     rw [hc,List.drop_eq_getElem_cons hk1,e0];rfl
   have hk2:k<m.length:=by omega
   refine ziq u33 ty3 hk2 ?_
   rw [Nat.mul_one]
   refine zaA ty3 h2 (ztA hk2) ?_
   refine compareI_ok.mono ?_
   rintro _ _ ⟨rfl,rfl⟩
   have hst:=zq3 hk1 hk2
   refine zaO ?_
   refine br (fun hne=>?_) (fun heq=>?_)
   · exact ⟨rfl,by rw [hc,hst,if_pos hne]⟩
   refine zag (by omega) ?_
   exact ⟨mk-1,by omega,k+1,by omega,rfl,rfl,by omega,by rw [hc,hst,if_neg heq]⟩
 have hk:k=l.length:=by omega
 subst hk
 refine zkU u33 ?_
 refine zkU u33 ?_
 refine zai ?_
 rw [List.drop_length] at hc
 refine br (fun hlt2=>⟨rfl,?_⟩) (fun hge2=>⟨rfl,?_⟩)
 · rw [hc,List.drop_eq_getElem_cons (by omega)];rfl
 rw [hc,List.drop_eq_nil_of_le (by omega)];rfl
section
variable {P:Program} {w:World} {K:Value→World→Prop}
theorem zq4 {t:TypeId} {cs:Array Value} (k:K (.pointer (some ⟨w.heap.size,0,none⟩)) (w.alloc (.cells cs t))):OP P (Instr.box t (.agg cs)) w K:=
 ⟨_,w.alloc (.cells cs t),by simp [Instr.box,newVar,newRow,Value.cells],k⟩
theorem zjO {t e:TypeId} {by_:Nat} {x y z:Int} (ht:P.underlying t=some (.slice e)) (he:tyI P e=some (1,by_,false)) (hz:zbU P e=some [.int .i64 0])
   (k:K (.slice (some ⟨w.heap.size,0,none⟩) 3 3) (w.alloc (.cells (vI [x,y,z]).toArray e))):OP P (Instr.buildSlice t 3 #[(0,.int .i64 x),(1,.int .i64 y),(2,.int .i64 z)]) w K:=by
 unfold zbU at hz
 cases hi:P.info? e with
 | none=>simp [hi] at hz
 | some i=>
   simp only [hi] at hz
   obtain ⟨v,hv,hvc⟩:=Option.map_eq_some_iff.1 hz
   refine ⟨_,w.alloc (.cells (vI [x,y,z]).toArray e),?_,k⟩
   have hvc':v.cells=#[.int .i64 0]:=Array.ext' (by simpa using hvc)
   have e1:∀ n:Int,(Value.int .i64 n).cells=#[.int .i64 n]:=fun _=>rfl
   simp only [Instr.buildSlice,Sem.run_bind,run_underlying ht,Result.andThen_ok,zaw he]
   have e2:Array.range 3=#[0,1,2]:=by decide
   simp [zeroValue,typeInfo,hi,hv,newRow,Instr.fill,hvc',vI,e1,e2]
end
def i3 (a b c:Int):Array Value:=#[.int .i64 a,.int .i64 b,.int .i64 c]
def znu (w w':World):Prop:=∃ q os,w'=Go.Sort.grow (w.drewN q) os
theorem zlZ {w:World} (o1 o2 o3 o4:Obj):znu w ((((w.alloc o1).alloc o2).alloc o3).alloc o4):=
 ⟨0,#[o1]++#[o2]++#[o3]++#[o4],by
   rw [Go.Sort.alloc_eq_grow,Go.Sort.alloc_eq_grow,Go.Sort.alloc_eq_grow,Go.Sort.alloc_eq_grow,Go.Sort.grow_grow,Go.Sort.grow_grow,Go.Sort.grow_grow];rfl⟩
def ziY (x:DRace):List Int:=[x.g,x.a,x.b]
def zsH (x y:DRace):Int:=zsG (ziY x) (ziY y)
theorem ziZ {w:World} {x y:DRace}:CALL Tryz.prog 164 [.agg (i3 x.g x.a x.b),.agg (i3 y.g y.a y.b)] w fun r w'=>r=.int .i64 (zsH x y)∧znu w w':=by
 refine F164_call ?_
 unfold F164
 refine zq4 ?_
 have hB1:Blk w.heap.size 58 (w.alloc (.cells (i3 x.g x.a x.b) 58)) (vI (ziY x)):=heap_alloc_new w _
 refine zq4 ?_
 generalize hw1:w.alloc (.cells (i3 x.g x.a x.b) 58)=w1 at *
 have hB2:Blk w1.heap.size 58 (w1.alloc (.cells (i3 y.g y.a y.b) 58)) (vI (ziY y)):=heap_alloc_new w1 _
 have hx2:=zaI w1 (.cells (i3 y.g y.a y.b) 58)
 generalize hw2:w1.alloc (.cells (i3 y.g y.a y.b) 58)=w2 at *
 have hB12:=hB1.ext hx2
 refine zaa zti ?_
 refine zaA ty3 hB12 rfl ?_
 refine zaa ztj ?_
 refine zaA ty3 hB12 rfl ?_
 refine zaa ztk ?_
 refine zaA ty3 hB12 rfl ?_
 refine zjO u33 ty3 zws ?_
 have hx3:=zaI w2 (.cells (vI [x.g,x.a,x.b]).toArray 3)
 have hB3:Blk w2.heap.size 3 (w2.alloc (.cells (vI [x.g,x.a,x.b]).toArray 3)) (vI (ziY x)):=heap_alloc_new w2 _
 generalize hw3:w2.alloc (.cells (vI [x.g,x.a,x.b]).toArray 3)=w3 at *
 have hB23:=hB2.ext hx3
 refine zaa zti ?_
 refine zaA ty3 hB23 rfl ?_
 refine zaa ztj ?_
 refine zaA ty3 hB23 rfl ?_
 refine zaa ztk ?_
 refine zaA ty3 hB23 rfl ?_
 refine zjO u33 ty3 zws ?_
 have hx4:=zaI w3 (.cells (vI [y.g,y.a,y.b]).toArray 3)
 have hB4:Blk w3.heap.size 3 (w3.alloc (.cells (vI [y.g,y.a,y.b]).toArray 3)) (vI (ziY y)):=heap_alloc_new w3 _
 have hg:znu w (w3.alloc (.cells (vI [y.g,y.a,y.b]).toArray 3)):=by rw [←hw3,←hw2,←hw1];exact zlZ _ _ _ _
 refine (znt (l:=ziY x) (m:=ziY y) (hB3.ext hx4) hB4 (by simp [ziY]) (by simp [ziY])).mono ?_
 rintro _ _ ⟨rfl,rfl⟩
 exact ⟨rfl,hg⟩
def ltR (x y:DRace):Prop:=x.g<y.g∨(x.g=y.g∧(x.a<y.a∨(x.a=y.a∧x.b<y.b)))
theorem znv {x y:Int} (h:x<y):zoF x y=-1:=by rw [zoF,if_pos h]
theorem znw {x y:Int} (h:y<x):zoF x y=1:=by rw [zoF,if_neg (by omega),if_pos h]
theorem znx {x y:Int} (h:x=y):zoF x y=0:=by rw [zoF,if_neg (by omega),if_neg (by omega)]
theorem zuf {x y:DRace}:zsH x y<0↔ltR x y:=by
 unfold zsH ziY ltR
 simp only [zsG]
 rcases Int.lt_trichotomy x.g y.g with h | h | h
 · rw [znv h];simp;omega
 · rw [znx h]
   rcases Int.lt_trichotomy x.a y.a with h2 | h2 | h2
   · rw [znv h2];simp;omega
   · rw [znx h2]
     rcases Int.lt_trichotomy x.b y.b with h3 | h3 | h3
     · rw [znv h3];simp;omega
     · rw [znx h3];simp;omega
     rw [znw h3];simp;omega
   rw [znw h2];simp;omega
 rw [znw h];simp;omega
def F109 (a0 a1:Value) (w:World) (R:VW):Prop:=
 oP (Instr.box 138 a0) w fun x2 w=>
 oP (Instr.box 138 a1) w fun x3 w=>
 oP (Instr.alloc 58 true (.tuple #[])) w fun x4 w=>
 rF 138 x2 1 w fun x5=>
 rL 3 x5 w fun x6=>
 rF 138 x2 0 w fun x7=>
 rL 3 x7 w fun x8=>
 rF 138 x3 0 w fun x9=>
 rL 3 x9 w fun x10=>
 rD (Builtin.min_ #[3,3] 3 [x8,x10].toArray) w fun x11=>
 rF 138 x2 0 w fun x12=>
 rL 3 x12 w fun x13=>
 rF 138 x3 0 w fun x14=>
 rL 3 x14 w fun x15=>
 rD (Builtin.max_ #[3,3] 3 [x13,x15].toArray) w fun x16=>
 rD (Instr.build 58 #[(0,x6),(1,x11),(2,x16)]) w fun x17=>
 oS 58 x4 x17 w fun w=>
 rD (zax 58 x4) w fun r4=>R r4 w
def cfg109:Cfg:=⟨extL,[],[],[],[],[],[]⟩
theorem F109_call {a0 a1:Value} {w:World} {R:VW} (h:F109 a0 a1 w R):cL 109 [a0,a1] w R:=co (g:=cfg109) Tryz.func109 (by kernel_rfl) (by kernel_rfl) (by kernel_rfl) h
def F187 (a0:Value) (w:World) (R:VW):Prop:=
 rB .geq 3 T0 U0 a0 (iV 0) w fun x4=>
 BR x4
 (rB .leq 3 T0 U0 a0 (iV 63) w fun x7=>
 R x7 w)
 (R (Value.bool false) w)
def cfg187:Cfg:=⟨extL,[],[],[],[],[],[]⟩
theorem F187_call {a0:Value} {w:World} {R:VW} (h:F187 a0 w R):cL 187 [a0] w R:=co (g:=cfg187) Tryz.func187 (by kernel_rfl) (by kernel_rfl) (by kernel_rfl) h
theorem zoG {w:World} {n:Int}    :
   CALL Tryz.prog 187 [.int .i64 n] w fun r w'=>Ext w w'∧(r=.bool (decide (0≤n∧n≤63))):=by
 refine F187_call ?_
 unfold F187
 refine zb5 ?_
 refine br (fun c1=>?_) (fun c1=>?_)
 · refine zdD ?_
   refine ⟨Ext.refl w,?_⟩
   simp [c1]
 refine ⟨Ext.refl w,?_⟩
 simp [c1]
def ze6 (a b:DTouch):Prop:=a.global=b.global∧(a.write=true∨b.write=true)∧(0≤a.held∧a.held≤63)∧(0≤b.held∧b.held≤63)∧a.held.toNat &&& b.held.toNat=0
instance (a b:DTouch):Decidable (ze6 a b):=by unfold ze6;infer_instance
def F107 (a0 a1:Value) (w:World) (R:VW):Prop:=
 oP (Instr.box 138 a0) w fun x2 w=>
 oP (Instr.box 138 a1) w fun x3 w=>
 JOIN [] (fun J3=>
 rF 138 x2 1 w fun x5=>
 rL 3 x5 w fun x6=>
 rF 138 x3 1 w fun x7=>
 rL 3 x7 w fun x8=>
 rB .neq 3 T0 T0 x6 x8 w fun x9=>
 BR x9
 (R (Value.bool false) w)
 (rF 138 x2 2 w fun x11=>
 rL 4 x11 w fun x12=>
 rD (Op.unary .not x12) w fun x13=>
 GBR x13
 (rF 138 x3 2 w fun x15=>
 rL 4 x15 w fun x16=>
 rD (Op.unary .not x16) w fun x17=>
 BR x17
 (R (Value.bool false) w)
 (J3 [] w))
 (J3 [] w)
 (BR undef
 (BR undef
 (R (Value.bool false) w)
 (J3 [] w))
 (J3 [] w)))) (fun u3 w=>
 rF 138 x2 3 w fun x20=>
 rL 3 x20 w fun x21=>
 cL 187 [x21] w fun x22 w=>
 BR x22
 (rF 138 x3 3 w fun x24=>
 rL 3 x24 w fun x25=>
 cL 187 [x25] w fun x26 w=>
 BR x26
 (rF 138 x2 3 w fun x29=>
 rL 3 x29 w fun x30=>
 rF 138 x3 3 w fun x31=>
 rL 3 x31 w fun x32=>
 rB .and 3 T0 T0 x30 x32 w fun x33=>
 rB .eql 3 T0 U0 x33 (iV 0) w fun x34=>
 R x34 w)
 (R (Value.bool false) w))
 (R (Value.bool false) w))
def cfg107:Cfg:=⟨extL,[(3,1048560,[])],[],[],[],[],[]⟩
theorem F107_call {a0 a1:Value} {w:World} {R:VW} (h:F107 a0 a1 w R):cL 107 [a0,a1] w R:=co (g:=cfg107) Tryz.func107 (by kernel_rfl) (by kernel_rfl) (by kernel_rfl) h
theorem zsI {w:World} {v0:Value} {W0:World} {a:DTouch} {v1:Value} {W1:World} {b:DTouch}  (h0:Is W0 v0 a) (e0:Ext W0 w) (h1:Is W1 v1 b) (e1:Ext W1 w)  :
   CALL Tryz.prog 107 [v0,v1] w fun r w'=>Ext w w'∧(r=.bool (decide (ze6 a b))):=by
 refine F107_call ?_
 unfold F107
 refine zaz zfY rfl h0 e0 fun w1_ hx1_ hA2 hV2=>?_
 refine zaz zfY rfl h1 (e1.trans hx1_) fun w2_ hx2_ hA3 hV3=>?_
 refine JOIN.mk (fun us w'=>us=[]∧Ext w2_ w'∧(a.global=b.global∧(a.write=true∨b.write=true))) ?_ ?_
 · refine zaa zmP ?_
   refine zac ty3 (zga hA2) hx2_ fun hI6=>?_
   refine zaa zmP ?_
   refine zac ty3 (zga hA3) (Ext.refl w2_) fun hI8=>?_
   refine zaO ?_
   refine br (fun c1=>?_) (fun c1=>?_)
   · refine ⟨(hx1_.trans hx2_),?_⟩
     have:¬ze6 a b:=fun h=>c1 h.1
     simp only [this,decide_false]
   refine zaa zqf ?_
   refine zdh ty4 (zix hA2) hx2_ ?_
   refine zaU ?_
   refine zvX (fun c2=>?_) (fun c2=>?_)
   · refine zaa zqf ?_
     refine zdh ty4 (zix hA3) (Ext.refl w2_) ?_
     refine zaU ?_
     refine zb4 (fun c3=>?_) (fun c3=>?_)
     · refine ⟨(hx1_.trans hx2_),?_⟩
       have:¬ze6 a b:=fun h=>by rcases h.2.1 with h | h<;>simp_all
       simp only [this,decide_false]
     refine ⟨by simp,Ext.refl w2_,?_⟩
     exact ⟨by omega,.inr (by simpa using c3)⟩
   refine ⟨by simp,Ext.refl w2_,?_⟩
   exact ⟨by omega,.inl (by simpa using c2)⟩
 rintro uj3 w3_ ⟨hu,hx3_,hgl,hwr⟩
 simp only [List.map_cons,List.map_nil,List.cons.injEq,and_true] at hu
 clear hu
 refine zaa zkk ?_
 refine zac ty3 (zeS hA2) (hx2_.trans hx3_) fun hI21=>?_
 refine (zoG ).mono ?_
 rintro _ w4_ ⟨hx4_,rfl⟩
 refine br (fun c4=>?_) (fun c4=>?_)
 · refine zaa zkk ?_
   refine zac ty3 (zeS hA3) (hx3_.trans hx4_) fun hI25=>?_
   refine (zoG ).mono ?_
   rintro _ w5_ ⟨hx5_,rfl⟩
   refine br (fun c5=>?_) (fun c5=>?_)
   · refine zaa zkk ?_
     refine zac ty3 (zeS hA2) (hx2_.trans (hx3_.trans (hx4_.trans hx5_))) fun hI30=>?_
     refine zaa zkk ?_
     refine zac ty3 (zeS hA3) (hx3_.trans (hx4_.trans hx5_)) fun hI32=>?_
     obtain ⟨m,hm⟩:=Int.eq_ofNat_of_zero_le c4.1
     obtain ⟨n,hn⟩:=Int.eq_ofNat_of_zero_le c5.1
     rw [hm,hn]
     refine zgS (by omega) (by omega) ?_
     refine zaf ?_
     refine ⟨(hx1_.trans (hx2_.trans (hx3_.trans (hx4_.trans hx5_)))),?_⟩
     have:ze6 a b↔m &&& n=0:=by
       have e1:a.held.toNat=m:=by omega
       have e2:b.held.toNat=n:=by omega
       unfold ze6
       rw [e1,e2]
       exact ⟨fun h=>h.2.2.2.2,fun h=>⟨hgl,hwr,c4,c5,h⟩⟩
     congr 1
     rw [decide_eq_decide,this]
     omega
   refine ⟨(hx1_.trans (hx2_.trans (hx3_.trans (hx4_.trans hx5_)))),?_⟩
   have:¬ze6 a b:=fun h=>c5 h.2.2.2.1
   simp only [this,decide_false]
 refine ⟨(hx1_.trans (hx2_.trans (hx3_.trans hx4_))),?_⟩
 have:¬ze6 a b:=fun h=>c4 h.2.2.1
 simp only [this,decide_false]
def zgY (a b:DTouch):DRace:=⟨a.global,min a.at_ b.at_,max a.at_ b.at_⟩
theorem zq5 {w W0 W1:World} {v0 v1:Value} {a b:DTouch} (h0:Is W0 v0 a) (e0:Ext W0 w) (h1:Is W1 v1 b) (e1:Ext W1 w) :
   CALL Tryz.prog 109 [v0,v1] w fun r w'=>Ext w w'∧∀ lo hi,OwnI lo hi w' r (zgY a b):=by
 refine F109_call ?_
 unfold F109
 refine zcz h0 e0 fun w1 hx1 hA=>?_
 refine zcz h1 (e1.trans hx1) fun w2 hx2 hB=>?_
 refine zcB (α:=DRace) zwn fun w3 hx3 hv=>?_
 have hs1:=hx1.size
 have hs2:=hx2.size
 have hs3:=hx3.size
 have hx23:=hx2.trans hx3
 refine zaa zmP ?_
 refine zac ty3 (zga hA) hx23 fun hI6=>?_
 refine zaa zhe ?_
 refine zac ty3 (zc7 hA) hx23 fun hI8=>?_
 refine zaa zhe ?_
 refine zac ty3 (zc7 hB) hx3 fun hI10=>?_
 refine ztn ?_
 refine zaa zhe ?_
 refine zac ty3 (zc7 hA) hx23 fun _=>?_
 refine zaa zhe ?_
 refine zac ty3 (zc7 hB) hx3 fun _=>?_
 refine zqx ?_
 have hm:∀ (w:World) lo hi,OwnI lo hi w (.agg #[.int .i64 a.global,.int .i64 (min a.at_ b.at_),.int .i64 (max a.at_ b.at_)]) (zgY a b):=fun w lo hi=>⟨[],zqh (x:=zgY a b) hI6 (by unfold I64 zgY at *;simp only;omega) (by unfold I64 zgY at *;simp only;omega),by simp⟩
 refine zaT (cells:=#[.int .i64 a.global,.int .i64 (min a.at_ b.at_),.int .i64 (max a.at_ b.at_)]) (by kernel_rfl) ?_
 have hg:=hv.lt
 refine zaF (lo:=w3.heap.size) (hi:=w3.heap.size) zjn hv (hm w3 _ _) (by omega) fun w4 hc4 hv4=>?_
 have hs4:=hc4.size
 refine zbh zjn hv4 (Ext.refl _) fun r hr=>?_
 refine ⟨Ext.chgI (hx1.trans hx23) hc4 (by omega),fun lo hi=>?_⟩
 obtain ⟨F,hM,_⟩:=hr
 obtain ⟨cs,h,_⟩:=hM.own
 have hF:=Flat.flat h
 subst hF
 exact ⟨[],hM,by simp⟩
instance (x y:DRace):Decidable (ltR x y):=by unfold ltR;infer_instance
theorem zfP (x:DRace):¬ltR x x:=by unfold ltR;omega
theorem zgZ {x y z:DRace} (h:ltR x y) (k:ltR y z):ltR x z:=by unfold ltR at *;omega
theorem zi0 {x y:DRace} (h:¬ltR x y) (k:¬ltR y x):x=y:=by
 unfold ltR at *
 exact DRace.ext_iff.2 ⟨by omega,by omega,by omega⟩
def zr3 (r:DRace):List DRace→List DRace
 | []=>[r]
 | x :: l=>if ltR x r then x :: zr3 r l else if x=r then x :: l else r :: x :: l
theorem zkV {r x:DRace}:∀ {l:List DRace},x∈zr3 r l↔x=r∨x∈l
 | []=>by simp [zr3]
 | y :: l=>by
   rw [zr3]
   split
   · rw [List.mem_cons,zkV,List.mem_cons];exact ⟨fun h=>by rcases h with h | h | h<;>simp [h],fun h=>by rcases h with h | h | h<;>simp [h]⟩
   split
   · rename_i h;subst h;simp
   simp
theorem zi1 {r:DRace}:∀ {l:List DRace},l.Pairwise ltR→(zr3 r l).Pairwise ltR
 | [],_=>by simp [zr3]
 | y :: l,h=>by
   rw [List.pairwise_cons] at h
   rw [zr3]
   split
   · rename_i hy
     refine List.pairwise_cons.2 ⟨fun z hz=>?_,zi1 h.2⟩
     rcases zkV.1 hz with rfl | hz
     · exact hy
     exact h.1 z hz
   rename_i hy
   split
   · exact List.pairwise_cons.2 h
   rename_i hne
   have hry:ltR r y:=Decidable.byContradiction fun hc=>hne (zi0 hy hc)
   refine List.pairwise_cons.2 ⟨fun z hz=>?_,List.pairwise_cons.2 h⟩
   rcases List.mem_cons.1 hz with rfl | hz
   · exact hry
   exact zgZ hry (h.1 z hz)
theorem zjP:∀ {l m:List DRace},l.Pairwise ltR→m.Pairwise ltR→(∀ x,x∈l↔x∈m)→l=m
 | [],[],_,_,_=>rfl
 | [],y :: m,_,_,h=>by have:=(h y).2 (by simp);cases this
 | x :: l,[],_,_,h=>by have:=(h x).1 (by simp);cases this
 | x :: l,y :: m,h1,h2,h=>by
   rw [List.pairwise_cons] at h1 h2
   have hxy:x=y:=by
     rcases List.mem_cons.1 ((h x).1 (by simp)) with e | hm
     · exact e
     rcases List.mem_cons.1 ((h y).2 (by simp)) with e | hl
     · exact e.symm
     exact absurd (zgZ (h1.1 y hl) (h2.1 x hm)) (zfP x)
   subst hxy
   congr 1
   refine zjP h1.2 h2.2 fun z=>⟨fun hz=>?_,fun hz=>?_⟩
   · rcases List.mem_cons.1 ((h z).1 (by simp [hz])) with rfl | h'
     · exact absurd (h1.1 z hz) (zfP z)
     exact h'
   rcases List.mem_cons.1 ((h z).2 (by simp [hz])) with rfl | h'
   · exact absurd (h2.1 z hz) (zfP z)
   exact h'
end Go.Proofs.YtcnglfeoglgebaaGreat
namespace Go.Proofs.YtcnglfeoglgebaaGreat
open Go Go.Sh Go.Proofs Go.Sort
open Rep (rep)
instance:Inhabited DRace:=⟨⟨0,0,0⟩⟩
def zu1 (x:DRace):List Value:=[.int .i64 x.g,.int .i64 x.a,.int .i64 x.b]
theorem zsJ:∀ {F:List Nat} {w:World} {cs:List Value} {x:DRace},Rep.rep F w cs x→cs=zu1 x:=by
 intro F w cs x h
 obtain ⟨F1,F2,c1,c2,rfl,rfl,⟨rfl,rfl,_⟩,⟨F3,F4,c3,c4,rfl,rfl,⟨rfl,rfl,_⟩,⟨rfl,rfl,_⟩⟩⟩:=h
 rfl
theorem zd7 {x y:DRace}:ltOf zsH x y=decide (ltR x y):=by
 unfold ltOf
 rw [decide_eq_decide]
 exact zuf
theorem zug:SWO (ltOf zsH):=by
 refine ⟨fun x=>?_,fun x y z h k=>?_,fun x y z h k=>?_⟩
 · rw [zd7,decide_eq_false_iff_not];exact zfP x
 · rw [zd7,decide_eq_true_eq] at *;exact zgZ h k
 rw [zd7,decide_eq_false_iff_not] at *
 intro hc
 unfold ltR at *
 omega
def srt (l:List DRace):List DRace:=l.mergeSort fun x y=>!(ltOf zsH) y x
theorem zoH (l:List DRace):(srt l).Perm l:=List.mergeSort_perm l _
theorem zq6 (l:List DRace):(srt l).length=l.length:=(zoH l).length_eq
theorem zvq (l:List DRace):(srt l).Pairwise fun x y=>¬ltR y x:=by
 have:=List.pairwise_mergeSort (le:=fun x y=>!(ltOf zsH) y x) (fun a b c h1 h2=>by
   simp only [zd7,Bool.not_eq_true',decide_eq_false_iff_not] at *
   unfold ltR at *;omega) (fun a b=>by
   simp only [zd7,Bool.or_eq_true,Bool.not_eq_true',decide_eq_false_iff_not]
   unfold ltR;omega) l
 exact this.imp fun h=>by simpa [zd7] using h
theorem zsK {w:World} {lo hi:Nat} {v:Value} {l:List DRace} (h:OwnI lo hi w v l) (hn:l.length≤1073741824) :
   CALL Tryz.prog 163 [v,.func (.func 164) #[] #[]] w fun r w'=>ChgI lo hi w w'∧OwnI lo hi w' v (srt l):=by
 obtain ⟨F,hM,hF⟩:=h
 by_cases hne:l=[]
 · subst hne
   obtain ⟨a,cap,hv⟩:∃ a cap,v=.slice a 0 cap:=by
     obtain ⟨cs,⟨a,cap,G,xs,h,_⟩,hv⟩:=hM.own
     exact ⟨a,cap,by rw [hv,h];rfl⟩
   subst hv
   refine ⟨(AnyF.slices_SortFunc_none Tryz.sortRace a cap _ w).mono ?_⟩
   rintro e w' ⟨he,rfl⟩
   refine ⟨_,he,ChgI.refl _,F,?_,hF⟩
   have:srt []=[]:=List.eq_nil_of_length_eq_zero (by rw [zq6];rfl)
   rw [this];exact hM
 obtain ⟨b,o,cap,xs,rfl,rfl,h1,h2,hcc,hrr,hww⟩:=zeC hM hne
 have henc:=@zsJ
 have hk:∀ x,(zu1 x).length=Rep.size DRace:=fun _=>rfl
 obtain ⟨c,e,hbe⟩:=hww
 have hb:b<w.heap.size:=(Array.getElem?_eq_some_iff.1 hbe).1
 have hcmp:CmpLays Tryz.prog 164 #[] zu1 3 zsH b o l.toArray.size w:=fun m os dk _ x y=>by
   have:=ziZ (w:=sortWorldK zu1 3 w b o m dk os) (x:=x) (y:=y)
   obtain ⟨h⟩:=this
   refine h.mono ?_
   rintro e w' ⟨v,he,hv,q,os',hw'⟩
   exact ⟨by rw [he,hv],q,os',hw'⟩
 refine ⟨(AnyQ.slices_SortFunc_total Tryz.sortRace 3 Tryz.isAgg58 Tryz.sizeOf58 zu1 (fun _=>rfl) (fun x v hv=>by
     simp only [zu1,List.mem_cons,List.not_mem_nil,or_false] at hv
     rcases hv with rfl | rfl | rfl<;>rfl) zsH zug 164 #[] b o cap l.toArray w (zfa (ent 164 (by decide) (by kernel_rfl))) hcmp (zlW henc hk ⟨c,e,hbe⟩ hcc hrr) hb (by simp;omega) (fun x y h k=>by
     rw [zd7,decide_eq_false_iff_not] at *;exact zi0 h k)).mono ?_⟩
 rintro ex w' ⟨he,n,os,hw'⟩
 have hs:=znp henc hk (cap:=cap) hw' ⟨c,e,hbe⟩ hcc hrr h1 h2 (by simp) (fun x hx=>by simpa [List.mem_mergeSort] using hx)
 refine ⟨_,he,?_,[b],?_,hF⟩
 · exact hs.1.toI (fun i hi=>hF i hi)
 exact hs.2
def F85 (a0:Value) (w:World) (R:VW):Prop:=
 cL 162 [a0] w fun x5 w=>
 cL 163 [x5,(Value.func (.func 164) #[] #[])] w fun x7 w=>
 cL 166 [x5] w fun x9 w=>
 cL 165 [x9] w fun x10 w=>
 R x10 w
def cfg85:Cfg:=⟨extL,[],[],[],[],[],[]⟩
theorem F85_call {a0:Value} {w:World} {R:VW} (h:F85 a0 w R):cL 85 [a0] w R:=co (g:=cfg85) Tryz.func85 (by kernel_rfl) (by kernel_rfl) (by kernel_rfl) h
theorem zny {z:DRace}:∀ {l:List DRace} {x:DRace},z∈x :: ddg x l↔z∈x :: l
 | [],x=>Iff.rfl
 | y :: l,x=>by
   rw [ddg]
   split
   · rename_i h
     subst h
     rw [zny (l:=l)]
     simp
   rw [List.mem_cons,zny (l:=l),List.mem_cons (a:=z) (b:=x)]
theorem zq7:∀ {l:List DRace} {x:DRace},(x :: l).Pairwise (fun a b=>¬ltR b a)→(x :: ddg x l).Pairwise ltR
 | [],x,_=>by simp [ddg]
 | y :: l,x,h=>by
   rw [ddg]
   rw [List.pairwise_cons] at h
   have hy:=h.2
   rw [List.pairwise_cons] at hy
   split
   · rename_i e
     subst e
     exact zq7 h.2
   rename_i hne
   have ih:=zq7 h.2
   have hxy:ltR x y:=Decidable.byContradiction fun hc=>hne (zi0 (h.1 y (by simp)) hc)
   refine List.pairwise_cons.2 ⟨fun z hz=>?_,ih⟩
   rcases List.mem_cons.1 hz with rfl | hz
   · exact hxy
   exact zgZ hxy ((List.pairwise_cons.1 ih).1 z hz)
theorem zuh {l:List DRace} {z:DRace}:z∈ddp l↔z∈l:=by
 cases l with
 | nil=>exact Iff.rfl
 | cons x l=>exact zny
theorem zvr {l:List DRace} (h:l.Pairwise (fun a b=>¬ltR b a)):(ddp l).Pairwise ltR:=by
 cases l with
 | nil=>exact List.Pairwise.nil
 | cons x l=>exact zq7 h
def zl0 (l:List DRace):List DRace:=l.foldl (fun acc r=>zr3 r acc) []
theorem zjQ {x:DRace}:∀ {l acc:List DRace},x∈l.foldl (fun acc r=>zr3 r acc) acc↔x∈acc∨x∈l
 | [],acc=>by simp
 | y :: l,acc=>by
   rw [List.foldl_cons,zjQ,zkV,List.mem_cons]
   constructor
   · rintro ((h | h) | h)<;>simp [h]
   rintro (h | h | h)<;>simp [h]
theorem zl1 {x:DRace} {l:List DRace}:x∈zl0 l↔x∈l:=by unfold zl0;rw [zjQ];simp
theorem zl2:∀ {l acc:List DRace},acc.Pairwise ltR→(l.foldl (fun acc r=>zr3 r acc) acc).Pairwise ltR
 | [],acc,h=>h
 | y :: l,acc,h=>by
   rw [List.foldl_cons]
   exact zl2 (zi1 h)
theorem zsL (l:List DRace):(zl0 l).Pairwise ltR:=zl2 List.Pairwise.nil
theorem zui (l:List DRace):ddp (srt l)=zl0 l:=zjP (zvr (zvq l)) (zsL l) fun x=>by rw [zuh,zl1,(zoH l).mem_iff]
def clR (a b:DTouch):List DRace:=if ze6 a b then [zgY a b] else []
def gB (a:DTouch) (bs:List DTouch):List DRace:=bs.flatMap (clR a)
def gL (Ls:List (List DTouch)) (a:DTouch):List DRace:=Ls.flatMap (gB a)
def gA (Ls:List (List DTouch)) (xs:List DTouch):List DRace:=xs.flatMap (gL Ls)
def zwG (T:Nat→List DTouch) (t:Nat):List (List DTouch):=(List.range t).map T
def gT (T:Nat→List DTouch) (n:Nat):List DRace:=(List.range n).flatMap fun t=>gA (zwG T t) (T t)
def hA (bs xs:List DTouch):List DRace:=xs.flatMap fun a=>gB a bs
def hU (T:Nat→List DTouch) (xs:List DTouch) (t:Nat):List DRace:=(List.range t).flatMap fun u=>hA (T u) xs
def hT (T:Nat→List DTouch) (n:Nat):List DRace:=(List.range n).flatMap fun t=>hU T (T t) t
theorem zfp {α β:Type} {f:α→List β} {l:List α} {k:Nat} (h:k<l.length):(l.take (k+1)).flatMap f=(l.take k).flatMap f++f l[k]:=by
 rw [List.take_succ_eq_append_getElem h,List.flatMap_append];simp
def tA (c:DCode) (s:DState) (t:Nat):List DTouch:=if 0≤zeb s t then zer c (zeb s t) 0 else []
theorem zjR {c:DCode} {a held:Int} {i:DIns} {x:DTouch}:∀ {k:Nat},x∈zde c a held i k→x.at_=a∧x.held=held
 | 0,h=>by simp [zde] at h
 | k+1,h=>by
   rw [zde,List.mem_append,List.mem_append] at h
   rcases h with (h | h) | h
   · exact zjR h
   · split at h
     · simp only [List.mem_cons,List.not_mem_nil,or_false] at h;subst h;exact ⟨rfl,rfl⟩
     simp at h
   split at h
   · simp only [List.mem_cons,List.not_mem_nil,or_false] at h;subst h;exact ⟨rfl,rfl⟩
   simp at h
theorem zpv {c:DCode} {a held:Int} {x:DTouch} (h:x∈zer c a held):x.at_=a∧x.held=held:=by
 unfold zer at h
 split at h
 · exact zjR h
 simp at h
def zv6 (c:DCode) (s:DState):List DRace:=zl0 (gT (tA c s) s.stacks.length)
def F113 (a0 a1 a2 a3:Value) (w:World) (R:VW):Prop:=
 cL 48 [a1] w fun x15 w=>
 rN 33 3 x15 w fun x16=>
 LOOPI [9,17] [(Value.slice none 0 0),(iV 0)] w fun u3 w next3=>
 rC (u3 17) x16 w fun x18=>
 BR x18
 (rX 33 x15 (u3 17) w fun x19=>
 rL 3 x19 w fun x20=>
 cL 183 [a0,x20] w fun x23 w=>
 rN 33 3 x23 w fun x24=>
 LOOPI [9,25] [(u3 9),(iV 0)] w fun u6 w next6=>
 rC (u6 25) x24 w fun x26=>
 BR x26
 (rX 33 x23 (u6 25) w fun x27=>
 rL 3 x27 w fun x28=>
 NIL a0 <|
 rF 92 a0 0 w fun x31=>
 rF 36 x31 4 w fun x32=>
 rL 34 x32 w fun x33=>
 rX 34 x33 x28 w fun x35=>
 rF 84 x35 0 w fun x36=>
 rL 3 x36 w fun x37=>
 rB .eql 3 T0 T0 x37 a2 w fun x39=>
 BR x39
 (NIL a0 <|
 rF 92 a0 0 w fun x43=>
 rF 36 x43 4 w fun x44=>
 rL 34 x44 w fun x45=>
 rX 34 x45 x28 w fun x47=>
 rF 84 x47 1 w fun x48=>
 rL 3 x48 w fun x49=>
 rB .eql 3 T0 T0 x49 a3 w fun x51=>
 BR x51
 (oP (Instr.buildSlice 33 1 #[(0,x28)]) w fun x55 w=>
 oP (Builtin.append_ #[33,33] 33 [(u6 9),x55].toArray) w fun x56 w=>
 rA (u6 25) (iV 1) w fun x57=>
 next6 [x56,x57] w)
 (rA (u6 25) (iV 1) w fun x57=>
 next6 [(u6 9),x57] w))
 (rA (u6 25) (iV 1) w fun x57=>
 next6 [(u6 9),x57] w))
 (rA (u3 17) (iV 1) w fun x58=>
 next3 [(u6 9),x58] w))
 (R (u3 9) w)
def cfg113:Cfg:=⟨extL,[],[(3,576460752303303168,[9,17]),(6,288230376118166016,[9,25])],[],[],[],[]⟩
theorem F113_call {a0 a1 a2 a3:Value} {w:World} {R:VW} (h:F113 a0 a1 a2 a3 w R):cL 113 [a0,a1,a2,a3] w R:=co (g:=cfg113) Tryz.func113 (by kernel_rfl) (by kernel_rfl) (by kernel_rfl) h
open Rep (rep)
def StP (c:DCode) (r p i:Nat):Prop:=zaX c p i∧(zap c i).op=5∧agN c i=r
noncomputable def zeD (c:DCode) (r:Nat):List Nat:=(zcr c.procs.length (UsedP c)).flatMap fun p=>zcr c.ins.length (StP c r p)
theorem znz {n:Nat} {p q:Nat→Prop} {f:Nat→Bool} (h:∀ i,i<n→(f i=true↔q i)):(zcr n p).filter f=zcr n fun i=>p i∧q i:=by
 induction n with
 | zero=>rfl
 | succ n ih=>
   have ih:=ih fun i hi=>h i (by omega)
   by_cases hp:p n
   · rw [zic hp,List.filter_append,ih]
     by_cases hq:q n
     · rw [zic ⟨hp,hq⟩];simp [(h n (by omega)).2 hq]
     rw [zhm fun e=>hq e.2]
     have:f n=false:=by
       cases e:f n
       · rfl
       exact absurd ((h n (by omega)).1 e) hq
     simp [this]
   rw [zhm hp,zhm fun e=>hp e.1,ih]
theorem zg0 {α β:Type} {f:α→List β} {B:Nat}:∀ {l:List α},(∀ a∈l,(f a).length≤B)→(l.flatMap f).length≤l.length*B
 | [],_=>by simp
 | a :: l,h=>by
   have h1:=h a (by simp)
   have h2:=zg0 (l:=l) fun b hb=>h b (by simp [hb])
   simp only [List.flatMap_cons,List.length_append,List.length_cons,Nat.add_mul]
   omega
theorem zpw {c:DCode} (hc:CodeR c) {r i:Nat} (h:i∈zeD c r):i<c.ins.length:=by
 unfold zeD at h
 obtain ⟨p,_,h⟩:=List.mem_flatMap.1 h
 exact (zbo.1 h).1
theorem zjS {w W0:World} {b r:Nat} {c:DCode} (hW:WAt W0 b c) (e0:Ext W0 w) (hc:CodeR c) :
   CALL Tryz.prog 113 [.pointer (some ⟨b,0,none⟩),.int .i64 (zdB c:Nat),.int .i64 5,.int .i64 (r:Int)] w fun v w'=>Ext w w'∧Own w.heap.size w' v (zbA (zeD c r)):=by
 refine F113_call ?_
 unfold F113
 have h8:=hc.1.procs8
 have hil:=hc.f.ins
 have hu256:zdB c<256:=zaR h8.1
 refine (zcY (m:=zdB c) (by omega)).mono ?_
 rintro v15 w1 ⟨hx1,ho1⟩
 unfold zdB at ho1
 rw [zdd (by omega)] at ho1
 have hup:∀ p∈zcr c.procs.length (UsedP c),p<c.procs.length:=fun p hp=>(zbo.1 hp).1
 have hul:=zbS (n:=c.procs.length) (p:=UsedP c)
 unfold zeD
 generalize zcr c.procs.length (UsedP c)=U at *
 refine zae u33 ho1.is ?_
 rw [zaj]
 have hfl:∀ k,((U.take k).flatMap fun p=>zcr c.ins.length (StP c r p)).length≤20000:=fun k=>by
   have:=zg0 (l:=U.take k) (f:=fun p=>zcr c.ins.length (StP c r p)) (B:=1500) fun a _=>Nat.le_trans zbS hil
   have h2:=List.length_take_le' k U
   have:(U.take k).length*1500≤8*1500:=Nat.mul_le_mul_right _ (by omega)
   omega
 refine zaB U.length (fun k us w'=>∃ out,us=[out,.int .i64 (k:Int)]∧k≤U.length∧Ext w1 w'∧RowI w1.heap.size w'.heap.size 3 w' out (zbA ((U.take k).flatMap fun p=>zcr c.ins.length (StP c r p)))) 0 (Nat.zero_le _) ⟨_,rfl,Nat.zero_le _,Ext.refl _,zbE _ _ _ _⟩ ?_
 rintro k mk u w2 hkm ⟨out,hu,hkl,hx2,hr2⟩
 obtain ⟨hu1,hu2⟩:=ze4 hu
 rw [hu1,hu2]
 refine zai ?_
 refine br (fun hlt=>?_) (fun hge=>?_)
 case refine_2=>
   have hke:k=U.length:=by omega
   rw [hke,List.take_length] at hr2
   exact ⟨hx1.trans hx2,hr2.own.own.mono (by have:=hx1.size;omega)⟩
 have hk:k<U.length:=by omega
 have hp:=hup U[k] (List.getElem_mem _)
 have hfs:=zfp (f:=fun p=>zcr c.ins.length (StP c r p)) hk
 refine zad u33 ty3 (i:=k) ho1.is (by rw [zaj];exact hk) fun b3 o3 hA3=>?_
 rw [zbq] at hA3
 generalize U[k]=p at *
 refine zac ty3 hA3 hx2 fun _=>?_
 refine (zfn hW.wl (e0.trans (hx1.trans hx2)) hc hp).mono ?_
 rintro v23 w3 ⟨hx3,ho3⟩
 have hLin:∀ i∈zcr c.ins.length (zaX c p),i<c.ins.length:=fun i hi=>(zbo.1 hi).1
 have hLf:(zcr c.ins.length (zaX c p)).filter (fun i=>decide ((zap c i).op=5∧agN c i=r))=zcr c.ins.length (StP c r p):=znz fun i hi=>by rw [decide_eq_true_eq]
 have hLl:=zbS (n:=c.ins.length) (p:=zaX c p)
 rw [←hLf] at hfs
 have hfk:=hfl k
 generalize zcr c.ins.length (zaX c p)=L at *
 generalize (U.take k).flatMap (fun p=>zcr c.ins.length (StP c r p))=Op at *
 refine zae u33 ho3.is ?_
 rw [zaj]
 have hs3:=hx3.size
 have hs2:=hx2.size
 obtain ⟨F3,hM3,hF3⟩:=ho3
 refine zaB L.length (fun j us w'=>∃ out lo hi,us=[out,.int .i64 (j:Int)]∧j≤L.length∧Ext w1 w'∧Mine F3 w' v23 (zbA L)∧w1.heap.size≤lo∧hi≤w'.heap.size∧RowI lo hi 3 w' out (zbA (Op++(L.take j).filter (fun i=>decide ((zap c i).op=5∧agN c i=r))))∧∀ b∈F3,b<lo∨hi≤b) 0 (Nat.zero_le _) ⟨out,w1.heap.size,w2.heap.size,rfl,Nat.zero_le _,hx2.trans hx3,hM3,Nat.le_refl _,hs3,by simpa using hr2.ext hx3,fun b hb=>.inr (hF3 b hb)⟩ ?_
 rintro j mj u6 w6 hjm ⟨out6,lo,hi,hu6,hjl,hx6,hM6,hlo,hhi,hr6,hd⟩
 obtain ⟨hu61,hu62⟩:=ze4 hu6
 rw [hu61,hu62]
 refine zai ?_
 refine br (fun hlt6=>?_) (fun hge6=>?_)
 case refine_2=>
   refine zag (by omega) ?_
   refine ⟨mk-1,by omega,k+1,by omega,out6,rfl,by omega,hx6,?_⟩
   rw [List.take_of_length_le (by omega)] at hr6
   rw [hfs]
   exact hr6.mono hlo hhi
 have hj:j<L.length:=by omega
 have hi':=hLin L[j] (List.getElem_mem _)
 have htk:L.take (j+1)=L.take j++[L[j]]:=List.take_succ_eq_append_getElem hj
 refine zad u33 ty3 (i:=j) hM6.is (by rw [zaj];exact hj) fun b4 o4 hA4=>?_
 rw [zbq] at hA4
 have hlen:(Op++(L.take j).filter (fun i=>decide ((zap c i).op=5∧agN c i=r))).length≤100000:=by
   have:=List.length_filter_le (fun i=>decide ((zap c i).op=5∧agN c i=r)) (L.take j)
   have h2:=List.length_take_le' j L
   rw [List.length_append];omega
 generalize L[j]=i at *
 refine zac ty3 hA4 (Ext.refl _) fun _=>?_
 have ex6:=e0.trans (hx1.trans hx6)
 have hno:¬((zap c i).op=5∧agN c i=r)→(L.take (j+1)).filter (fun i=>decide ((zap c i).op=5∧agN c i=r))=(L.take j).filter (fun i=>decide ((zap c i).op=5∧agN c i=r)):=fun h=>by
   rw [htk,List.filter_append];simp [h]
 have hyes:((zap c i).op=5∧agN c i=r)→(L.take (j+1)).filter (fun i=>decide ((zap c i).op=5∧agN c i=r))=(L.take j).filter (fun i=>decide ((zap c i).op=5∧agN c i=r))++[i]:=fun h=>by
   rw [htk,List.filter_append];simp [h]
 refine NIL.mk rfl ?_
 refine zaa zbs ?_
 refine zaa zaG ?_
 refine zab zdi (zao hW.wl.code) ex6 fun v33 h33=>?_
 refine zad u34 zdY (i:=i) h33 hi' fun b5 o5 hA5=>?_
 rw [zaP] at hA5
 refine zaa zbx ?_
 refine zac ty3 (zaC hA5) ex6 fun _=>?_
 refine zaf ?_
 refine br (fun h5=>?_) (fun h5=>?_)
 case refine_2=>
   refine zag (by omega) ?_
   exact ⟨mj-1,by omega,j+1,by omega,out6,lo,hi,rfl,by omega,hx6,hM6,hlo,hhi,by rw [hno fun h=>h5 h.1];exact hr6,hd⟩
 obtain ⟨hag,_⟩:=zcs hc hi' (.inr h5)
 refine NIL.mk rfl ?_
 refine zaa zbs ?_
 refine zaa zaG ?_
 refine zab zdi (zao hW.wl.code) ex6 fun v45 h45=>?_
 refine zad u34 zdY (i:=i) h45 hi' fun b7 o7 hA7=>?_
 rw [zaP] at hA7
 refine zaa zby ?_
 refine zac ty3 (zaD hA7) ex6 fun _=>?_
 refine zaf ?_
 refine br (fun ha=>?_) (fun ha=>?_)
 case refine_2=>
   refine zag (by omega) ?_
   exact ⟨mj-1,by omega,j+1,by omega,out6,lo,hi,rfl,by omega,hx6,hM6,hlo,hhi,by rw [hno fun h=>ha (by rw [hag,h.2])];exact hr6,hd⟩
 refine zfk (x:=(i:Int)) u33 ty3 z3 zc3 (by decide) hr6 (lo2:=0) (hi2:=0) (zgR _ _ (by unfold I64;omega)) (by rw [zam,zaj];omega) (by rw [zaj];omega) fun v' w' lo' hi2 hc7 hr' hd7=>?_
 have hs7:=hc7.size
 have hs6:=hx6.size
 refine zag (by omega) ?_
 refine ⟨mj-1,by omega,j+1,by omega,v',lo',hi2,rfl,by omega,hx6.chgI hc7 hlo,hM6.keep fun b hb=>hc7.block b (hM6.lt b hb) (hd b hb),by omega,by omega,?_,fun b hb=>?_⟩
 · rw [hyes ⟨h5,by omega⟩,←List.append_assoc,zd5]
   exact hr'
 have:=hd b hb
 have:=hM6.lt b hb
 omega
def F115 (a0 a1:Value) (w:World) (R:VW):Prop:=
 NIL a0 <|
 rF 92 a0 0 w fun x8=>
 rF 36 x8 4 w fun x9=>
 rL 34 x9 w fun x10=>
 rN 34 3 x10 w fun x11=>
 oP (Instr.makeSlice 90 x11 x11) w fun x12 w=>
 cL 102 [a0,x12,a1] w fun x16 w=>
 R x12 w
def cfg115:Cfg:=⟨extL,[],[],[],[],[],[]⟩
theorem F115_call {a0 a1:Value} {w:World} {R:VW} (h:F115 a0 a1 w R):cL 115 [a0,a1] w R:=co (g:=cfg115) Tryz.func115 (by kernel_rfl) (by kernel_rfl) (by kernel_rfl) h
def F111 (a0 a1:Value) (w:World) (R:VW):Prop:=
 rB .geq 3 T0 U0 a1 (iV 0) w fun x6=>
 BR x6
 (NIL a0 <|
 rF 92 a0 0 w fun x11=>
 rF 36 x11 2 w fun x12=>
 rL 24 x12 w fun x13=>
 rN 24 3 x13 w fun x14=>
 rC a1 x14 w fun x15=>
 R x15 w)
 (R (Value.bool false) w)
def cfg111:Cfg:=⟨extL,[],[],[],[],[],[]⟩
theorem F111_call {a0 a1:Value} {w:World} {R:VW} (h:F111 a0 a1 w R):cL 111 [a0,a1] w R:=co (g:=cfg111) Tryz.func111 (by kernel_rfl) (by kernel_rfl) (by kernel_rfl) h
def F49 (a0 a1:Value) (w:World) (R:VW):Prop:=
 cL 111 [a0,a1] w fun x9 w=>
 rD (Op.unary .not x9) w fun x10=>
 BR x10
 (R (Value.bool false) w)
 (NIL a0 <|
 rF 92 a0 5 w fun x14=>
 rL 3 x14 w fun x15=>
 cL 110 [x15,a1] w fun x17 w=>
 rD (Op.unary .not x17) w fun x18=>
 BR x18
 (R (Value.bool false) w)
 (cL 112 [a0] w fun x21 w=>
 NIL a0 <|
 rF 92 a0 6 w fun x25=>
 rL 3 x25 w fun x26=>
 cL 113 [a0,x26,(iV 5),a1] w fun x28 w=>
 rB .eql 3 T0 T0 a1 x21 w fun x31=>
 BR x31
 (rN 33 3 x28 w fun x33=>
 rB .eql 3 T0 U0 x33 (iV 0) w fun x34=>
 R x34 w)
 ((fun w=>rN 33 3 x28 w fun x36=>
 rB .neq 3 T0 U0 x36 (iV 1) w fun x37=>
 BR x37
 (R (Value.bool false) w)
 (NIL a0 <|
 rF 92 a0 0 w fun x41=>
 rL 36 x41 w fun x42=>
 rX 33 x28 (iV 0) w fun x44=>
 rL 3 x44 w fun x45=>
 (fun w_=>cL 114 [x42,x45] w_ fun x46 w=>
 Ext w_ w ∧
 rB .neq 3 T0 T0 x46 x21 w fun x48=>
 BR x48
 (R (Value.bool false) w)
 (rX 33 x28 (iV 0) w fun x53=>
 rL 3 x53 w fun x54=>
 rX 33 x28 (iV 0) w fun x57=>
 rL 3 x57 w fun x58=>
 (fun w_=>cL 115 [a0,x54] w_ fun x55 w=>
 Ext w_ w ∧
 rX 90 x55 x58 w fun x59=>
 rL 4 x59 w fun x60=>
 BR x60
 (R (Value.bool false) w)
 ((fun w=>cL 49 [a0,x21] w fun x64 w=>
 BR x64
 (NIL a0 <|
 rF 92 a0 2 w fun x68=>
 rL 33 x68 w fun x69=>
 NIL a0 <|
 rF 92 a0 6 w fun x72=>
 rL 3 x72 w fun x73=>
 (fun w_=>cL 116 [x69,x73] w_ fun x74 w=>
 Ext w_ w ∧
 cL 110 [x74,x21] w fun x76 w=>
 rD (Op.unary .not x76) w fun x77=>
 R x77 w) w)
 (R (Value.bool false) w)) (World.drew1 w))) w)) w)) (World.drew1 w))))
def cfg49:Cfg:=⟨extL,[],[],[(7,[0,1,2,3,4,5,6,7,8,9,10,12,11,13,14,15,16,17,18,19,21,22,23,20,24,25,26],1050624),(9,[0,1,2,3,4,5,6,7,8,9,10,11,13,12,14,15,16,17],4096)],[],[],[]⟩
theorem F49_call {a0 a1:Value} {w:World} {R:VW} (h:F49 a0 a1 w R):cL 49 [a0,a1] w R:=co (g:=cfg49) Tryz.func49 (by kernel_rfl) (by kernel_rfl) (by kernel_rfl) h
open Rep (rep)
theorem ztB {W0 w:World} {b:Nat} {c:DCode} (h:At W0 b 0 c) (hx:Ext W0 w):KAt W0 w b c:=by
 obtain ⟨F,cs,hr,hc⟩:=h
 have hl:=Rep.len hr
 have hp:0<cs.length:=by rw [hl];exact Rep.pos
 have hc':=za7 hc hx
 refine ⟨F,cs,hr,hc',Decidable.byContradiction fun hn=>?_⟩
 have:=hc' 0 cs[0] (List.getElem?_eq_getElem hp)
 simp only [World.cell?] at this
 rw [Array.getElem?_eq_none (by omega)] at this
 cases this
theorem zsM {w W0:World} {b a:Nat} {c:DCode} (hW:WAt W0 b c) (e0:Ext W0 w) (hc:CodeR c) (ha:a<c.ins.length) :
   CALL Tryz.prog 115 [.pointer (some ⟨b,0,none⟩),.int .i64 (a:Int)] w fun v w'=>Ext w w'∧Own w.heap.size w' v (zgP c.ins.length (RP (zaY c) a)):=by
 refine F115_call ?_
 unfold F115
 have hil:=hc.f.ins
 refine NIL.mk rfl ?_
 refine zaa zbs ?_
 refine zaa zaG ?_
 refine zab zdi (zao hW.wl.code) e0 fun v10 h10=>?_
 refine zae u34 h10 ?_
 have hk0:=ztB hW.wl.code e0
 have hbl:=hk0.lt
 refine zkF (by omega) (by omega) fun w1 hx1 hM1=>?_
 have hs1:=hx1.size
 have e0s:=e0.size
 refine (zlM (ztB hW.wl.code (e0.trans hx1)) (e0.trans hx1) hc rfl ha hM1 (by simp) (by omega) (by omega) fun i hi=>absurd hi zdL).mono ?_
 rintro _ w2 ⟨rfl,hc2,hM2⟩
 refine ⟨hx1.chgI hc2 (Nat.le_refl _),[w.heap.size],?_,fun b hb=>by simp at hb;omega⟩
 have:(zgP c.ins.length fun i=>mkd (List.replicate c.ins.length false) i∨RP (zaY c) a i)=zgP c.ins.length (RP (zaY c) a):=zjM fun i _=>⟨fun h=>h.resolve_left zdL,.inr⟩
 rw [←this];exact hM2
theorem zl3 {w W0:World} {b r:Nat} {c:DCode} (hW:WAt W0 b c) (e0:Ext W0 w) (hr:r<c.procs.length) :
   CALL Tryz.prog 111 [.pointer (some ⟨b,0,none⟩),.int .i64 (r:Int)] w fun v w'=>Ext w w'∧v=.bool true:=by
 refine F111_call ?_
 unfold F111
 refine zb5 ?_
 refine br (fun _=>?_) (fun h=>by omega)
 refine NIL.mk rfl ?_
 refine zaa zbs ?_
 refine zaa zcC ?_
 refine zab zcQ (zaW hW.wl.code) e0 fun v10 h10=>?_
 refine zae u24 h10 ?_
 refine zai ?_
 exact ⟨Ext.refl _,by simp;omega⟩
def zsN (c:DCode) (r a:Nat):Prop:=zeD c r=[a]∧zar c a=(zcZ c:Int)∧¬RP (zaY c) a a∧zeD c (zcZ c)=[]∧¬ ∃ p,UsedP c p∧zoo c p 4 (zcZ c)
def zfZ (c:DCode) (r:Nat):Prop:=(r=zcZ c∧zeD c r=[])∨(r≠zcZ c∧∃ a,zsN c r a)
noncomputable instance (c:DCode) (r:Nat):Decidable (zfZ c r):=Classical.propDecidable _
theorem zi2 {c:DCode}:zfZ c (zcZ c)↔zeD c (zcZ c)=[]:=
 ⟨fun h=>h.elim (·.2) fun h=>absurd rfl h.1,fun h=>.inl ⟨rfl,h⟩⟩
theorem zoI {c:DCode} {r:Nat} (hr:r≠zcZ c):zfZ c r↔∃ a,zsN c r a:=
 ⟨fun h=>h.elim (fun h=>absurd h.1 hr) (·.2),fun h=>.inr ⟨hr,h⟩⟩
theorem zq8 {l:List Nat}:((l.length:Int)=0)↔l=[]:=by
 rw [←List.length_eq_zero_iff];omega
theorem zl4 {c:DCode} {p:Nat}:(zdB c).testBit p=true↔p<c.procs.length∧UsedP c p:=zci
theorem zfQ {c:DCode} {p:Nat}:(zbK c).testBit p=true↔p<c.procs.length∧RootP c p:=zci
theorem zuj {c:DCode} (hc:CodeR c) {p:Nat} (h:UsedP c p):p<c.procs.length:=by
 obtain ⟨r,hr,hf⟩:=h
 exact hf.lt (hr.lt hc)
theorem zpx {c:DCode} (hc:CodeR c) {q:Nat} (hq:q<c.procs.length):(orL (cls c 4) (zb7 (zdB c))).testBit q=true↔∃ p,UsedP c p∧zoo c p 4 q:=by
 have h8:=hc.1.procs8
 rw [zgX (m:=zdB c) (n:=c.procs.length) ziN (by omega)]
 constructor
 · rintro ⟨i,h1,h2,h3⟩
   exact ⟨i,(zl4.1 h2).2,((zhs h1).1 h3).2⟩
 rintro ⟨i,h1,h2⟩
 have hi:=zuj hc h1
 exact ⟨i,hi,zl4.2 ⟨hi,h1⟩,(zhs hi).2 ⟨hq,h2⟩⟩
theorem zjT {w W0:World} {b:Nat} {c:DCode} (hW:WAt W0 b c) (e0:Ext W0 w) (hc:CodeR c) :
   CALL Tryz.prog 49 [.pointer (some ⟨b,0,none⟩),.int .i64 (zcZ c:Nat)] w fun v w'=>Ext w w'∧v=.bool (decide (zfZ c (zcZ c))):=by
 refine F49_call ?_
 unfold F49
 have h8:=hc.1.procs8
 have hml:=(zfM hc).2
 have hr256:zbK c<256:=zaR h8.1
 refine (zl3 hW e0 hml).mono ?_
 rintro _ w1 ⟨hx1,rfl⟩
 refine zaU ?_
 refine zb4 (fun h=>by cases h) (fun _=>?_)
 refine NIL.mk rfl ?_
 refine zaa zhK ?_
 refine zac ty3 hW.roots (e0.trans hx1) fun _=>?_
 refine (zeA (m:=zbK c) (i:=zcZ c) (by omega) (by omega)).mono ?_
 rintro _ w2 ⟨hx2,rfl⟩
 rw [zfQ.2 ⟨hml,.main⟩]
 refine zaU ?_
 refine zb4 (fun h=>by cases h) (fun _=>?_)
 have hx12:=hx1.trans hx2
 refine (zgh (hW.wl.code.ext (e0.trans hx12)) hc).mono ?_
 rintro _ w3 ⟨hx3,rfl⟩
 have hx13:=hx12.trans hx3
 refine NIL.mk rfl ?_
 refine zaa zis ?_
 refine zac ty3 hW.used (e0.trans hx13) fun _=>?_
 refine (zjS (r:=zcZ c) hW (e0.trans hx13) hc).mono ?_
 rintro v28 w4 ⟨hx4,ho4⟩
 refine zaf ?_
 refine br (fun _=>?_) (fun h=>absurd rfl h)
 refine zae u33 ho4.is ?_
 refine zaf ?_
 rw [zaj]
 exact ⟨hx13.trans hx4,by congr 1;rw [decide_eq_decide,zi2,zq8]⟩
theorem zl5 {w W0:World} {b r:Nat} {c:DCode} (hW:WAt W0 b c) (e0:Ext W0 w) (hc:CodeR c) (hr:RootP c r) :
   CALL Tryz.prog 49 [.pointer (some ⟨b,0,none⟩),.int .i64 (r:Int)] w fun v w'=>Ext w w'∧v=.bool (decide (zfZ c r)):=by
 by_cases hm:r=zcZ c
 · subst hm;exact zjT hW e0 hc
 refine F49_call ?_
 unfold F49
 have h8:=hc.1.procs8
 have hml:=(zfM hc).2
 have hrl:=hr.lt hc
 have hr256:zbK c<256:=zaR h8.1
 have hu256:zdB c<2^c.procs.length:=ziN
 refine (zl3 hW e0 hrl).mono ?_
 rintro _ w1 ⟨hx1,rfl⟩
 refine zaU ?_
 refine zb4 (fun h=>by cases h) (fun _=>?_)
 refine NIL.mk rfl ?_
 refine zaa zhK ?_
 refine zac ty3 hW.roots (e0.trans hx1) fun _=>?_
 refine (zeA (m:=zbK c) (i:=r) (by omega) (by omega)).mono ?_
 rintro _ w2 ⟨hx2,rfl⟩
 rw [zfQ.2 ⟨hrl,hr⟩]
 refine zaU ?_
 refine zb4 (fun h=>by cases h) (fun _=>?_)
 have hx12:=hx1.trans hx2
 refine (zgh (hW.wl.code.ext (e0.trans hx12)) hc).mono ?_
 rintro _ w3 ⟨hx3,rfl⟩
 have hx13:=hx12.trans hx3
 refine NIL.mk rfl ?_
 refine zaa zis ?_
 refine zac ty3 hW.used (e0.trans hx13) fun _=>?_
 refine (zjS (r:=r) hW (e0.trans hx13) hc).mono ?_
 rintro v28 w4' ⟨hx4,ho4⟩
 refine zaf ?_
 refine br (fun h=>absurd (by omega) hm) (fun _=>?_)
 have hxd:=zak w4'
 have hx14:=hx13.trans (hx4.trans hxd)
 have hS4:=ho4.is.ext hxd
 generalize World.drew1 w4'=w4 at *
 have hsm:=fun a (ha:a∈zeD c r)=>zpw hc ha
 have hnot:(¬ ∃ a,zsN c r a)→Value.bool false=.bool (decide (zfZ c r)):=fun h=>by rw [decide_eq_false fun h2=>h ((zoI hm).1 h2)]
 refine zae u33 hS4 ?_
 refine zaO ?_
 rw [zaj]
 refine br (fun hne=>?_) (fun heq=>?_)
 · exact ⟨hx14,hnot fun ⟨a,h⟩=>hne (by rw [h.1];rfl)⟩
 have hl1:(zeD c r).length=1:=by have:=Decidable.not_not.1 heq;omega
 obtain ⟨a,ha⟩:∃ a,zeD c r=[a]:=List.length_eq_one_iff.1 hl1
 have hal:a<c.ins.length:=hsm a (by rw [ha];simp)
 rw [ha] at hS4
 have hget:∀ {w:World} {K:Value→Prop},Ext w4 w→(K (.int .i64 (a:Int)))→RD Tryz.prog (Instr.indexAt 33 v28 (.int .i64 0)) w fun x=>RD Tryz.prog (Instr.loadAt 3 x) w K:=fun hx kk=>by
   refine zad u33 ty3 (i:=0) hS4 (by simp [zbA]) fun b3 o3 hA3=>?_
   rw [show (zbA [a])[0]'(by simp [zbA])=(a:Int) from rfl] at hA3
   exact zac ty3 hA3 hx fun _=>kk
 have hone:∀ a',zsN c r a'→a'=a:=fun a' h=>by have:=h.1;rw [ha] at this;simpa using this.symm
 refine NIL.mk rfl ?_
 refine zaa zbs ?_
 refine zab zdW hW.wl.code (e0.trans hx14) fun v42 h42=>?_
 refine hget (Ext.refl _) ?_
 refine (zlE (a:=(a:Int)) h42 (e0.trans hx14) hc (by omega) (by omega)).mono ?_
 rintro _ w5 ⟨hx5,rfl⟩
 refine ⟨hx5,?_⟩
 have hx15:=hx14.trans hx5
 refine zaO ?_
 refine br (fun hne=>?_) (fun heq2=>?_)
 · exact ⟨hx15,hnot fun ⟨a',h⟩=>hne (by have:=hone a' h;subst this;exact h.2.1)⟩
 refine hget hx5 ?_
 refine hget hx5 ?_
 refine (zsM (a:=a) hW (e0.trans hx15) hc hal).mono ?_
 rintro v55 w6 ⟨hx6,ho6⟩
 refine ⟨hx6,?_⟩
 have hx16:=hx15.trans hx6
 have hmk:=zeX (n:=c.ins.length) (p:=RP (zaY c) a) (i:=a)
 rw [zdA (by rw [zch];exact hal)] at hmk
 refine zad u90 ty4 (i:=a) ho6.is (by rw [zch];exact hal) fun b8 o8 hA8=>?_
 refine zdh ty4 hA8 (Ext.refl _) ?_
 refine zb4 (fun hrp=>?_) (fun hrp=>?_)
 · exact ⟨hx16,hnot fun ⟨a',h⟩=>by have:=hone a' h;subst this;exact h.2.2.1 (hmk.1 hrp).2⟩
 have hnr:¬RP (zaY c) a a:=fun h=>by rw [hmk.2 ⟨hal,h⟩] at hrp;cases hrp
 have hxd6:=zak w6
 have hx17:=hx16.trans hxd6
 generalize World.drew1 w6=w7 at *
 refine (zjT hW (e0.trans hx17) hc).mono ?_
 rintro _ w8 ⟨hx8,rfl⟩
 have hx18:=hx17.trans hx8
 refine br (fun hsm=>?_) (fun hsm=>?_)
 case refine_2=>exact ⟨hx18,hnot fun ⟨a',h⟩=>hsm (zi2.2 h.2.2.2.1)⟩
 refine NIL.mk rfl ?_
 refine zaa zn5 ?_
 refine zab za1 hW.calls (e0.trans hx18) fun v69 h69=>?_
 refine NIL.mk rfl ?_
 refine zaa zis ?_
 refine zac ty3 hW.used (e0.trans hx18) fun _=>?_
 have hcl:∀ x∈cls c 4,x<256:=fun x hx=>by
   obtain ⟨p,_,rfl⟩:=List.mem_map.1 hx
   exact zaR h8.1
 refine (zfL (m:=zdB c) h69 (e0.trans hx18) hcl (by rw [zfo];omega) (by rw [zfo];exact hu256)).mono ?_
 rintro _ w9 ⟨hx9,rfl⟩
 refine ⟨hx9,?_⟩
 have ho256:=zoq hcl (zb7 (zdB c))
 refine (zeA (m:=orL (cls c 4) (zb7 (zdB c))) (i:=zcZ c) (by omega) (by omega)).mono ?_
 rintro _ w10 ⟨hx10,rfl⟩
 refine zaU ?_
 refine ⟨hx18.trans (hx9.trans hx10),?_⟩
 have hcb:=zpx hc hml
 have:zfZ c r↔¬(orL (cls c 4) (zb7 (zdB c))).testBit (zcZ c)=true:=by
   rw [zoI hm,hcb]
   constructor
   · rintro ⟨a',h⟩;exact h.2.2.2.2
   intro h;exact ⟨a,ha,Decidable.not_not.1 heq2,hnr,zi2.1 hsm,h⟩
 congr 1
 cases hb:(orL (cls c 4) (zb7 (zdB c))).testBit (zcZ c)
 · rw [decide_eq_true (this.2 (by rw [hb];simp))];rfl
 rw [decide_eq_false (fun h=>this.1 h hb)];rfl
def F186 (a0:Value) (w:World) (R:VW):Prop:=
 NIL a0 <|
 rF 92 a0 5 w fun x8=>
 rL 3 x8 w fun x9=>
 cL 48 [x9] w fun x10 w=>
 rN 33 3 x10 w fun x11=>
 LOOPI [3,12] [(iV 0),(iV 0)] w fun u3 w next3=>
 rC (u3 12) x11 w fun x13=>
 BR x13
 (rX 33 x10 (u3 12) w fun x14=>
 rL 3 x14 w fun x15=>
 cL 49 [a0,x15] w fun x18 w=>
 BR x18
 (rD (convert 3 105 x15) w fun x21=>
 rB .shl 3 U0 T0 (iV 1) x21 w fun x22=>
 rB .or 3 T0 T0 (u3 3) x22 w fun x23=>
 rA (u3 12) (iV 1) w fun x24=>
 next3 [x23,x24] w)
 (rA (u3 12) (iV 1) w fun x24=>
 next3 [(u3 3),x24] w))
 (R (u3 3) w)
def cfg186:Cfg:=⟨extL,[],[(3,33550376,[3,12])],[],[],[],[]⟩
theorem F186_call {a0:Value} {w:World} {R:VW} (h:F186 a0 w R):cL 186 [a0] w R:=co (g:=cfg186) Tryz.func186 (by kernel_rfl) (by kernel_rfl) (by kernel_rfl) h
def F185 (a0 a1:Value) (w:World) (R:VW):Prop:=
 NIL a0 <|
 rF 92 a0 0 w fun x10=>
 rL 36 x10 w fun x11=>
 cL 145 [x11,a1] w fun x13 w=>
 rD (Op.unary .not x13) w fun x14=>
 BR x14
 (R (iV 0) w)
 (NIL a0 <|
 rF 92 a0 1 w fun x18=>
 rL 90 x18 w fun x19=>
 rX 90 x19 a1 w fun x21=>
 rL 4 x21 w fun x22=>
 rD (Op.unary .not x22) w fun x23=>
 BR x23
 (R (iV 0) w)
 (NIL a0 <|
 rF 92 a0 5 w fun x27=>
 rL 3 x27 w fun x28=>
 cL 48 [x28] w fun x29 w=>
 rN 33 3 x29 w fun x30=>
 LOOPI [5,31] [(iV 0),(iV 0)] w fun u5 w next5=>
 rC (u5 31) x30 w fun x32=>
 BR x32
 (rX 33 x29 (u5 31) w fun x33=>
 rL 3 x33 w fun x34=>
 (fun w=>NIL a0 <|
 rF 92 a0 4 w fun x37=>
 rL 33 x37 w fun x38=>
 rX 33 x38 x34 w fun x40=>
 rL 3 x40 w fun x41=>
 NIL a0 <|
 rF 92 a0 0 w fun x44=>
 rL 36 x44 w fun x45=>
 (fun w_=>cL 114 [x45,a1] w_ fun x47 w=>
 Ext w_ w ∧
 cL 110 [x41,x47] w fun x48 w=>
 BR x48
 (rD (convert 3 105 x34) w fun x51=>
 rB .shl 3 U0 T0 (iV 1) x51 w fun x52=>
 rB .or 3 T0 T0 (u5 5) x52 w fun x53=>
 rA (u5 31) (iV 1) w fun x54=>
 next5 [x53,x54] w)
 (rA (u5 31) (iV 1) w fun x54=>
 next5 [(u5 5),x54] w)) w) (World.drew1 w))
 (R (u5 5) w)))
def cfg185:Cfg:=⟨extL,[],[(5,36028794871480480,[5,31])],[(7,[0,1,2,3,4,5,6,7,8,9,10,11,12,13],4096)],[],[],[]⟩
theorem F185_call {a0 a1:Value} {w:World} {R:VW} (h:F185 a0 a1 w R):cL 185 [a0,a1] w R:=co (g:=cfg185) Tryz.func185 (by kernel_rfl) (by kernel_rfl) (by kernel_rfl) h
open Rep (rep)
noncomputable def znA (c:DCode):Nat:=zg9 (fun r=>RootP c r∧zfZ c r) c.procs.length
def RtP (c:DCode) (i r:Nat):Prop:=zeq c i∧RootP c r∧FromP c r (zar c i).toNat
noncomputable def rtN (c:DCode) (i:Nat):Nat:=zg9 (RtP c i) c.procs.length
theorem zq9 {c:DCode} (hc:CodeR c) (i:Nat):rtN c i<256:=zaR hc.1.procs8.1
theorem zsO {c:DCode} (hc:CodeR c):znA c<256:=zaR hc.1.procs8.1
def AccB (U:List Nat) (P:Nat→Prop) (k m:Nat):Prop:=m<256∧∀ r,m.testBit r=true↔r∈U.take k∧P r
theorem AccB.yes {U:List Nat} {P:Nat→Prop} {k m:Nat} (h:AccB U P k m) (hk:k<U.length) (h8:U[k]<8) (hp:P U[k]):AccB U P (k+1) (m ||| 2^U[k]):=by
 refine ⟨Nat.or_lt_two_pow (n:=8) h.1 (Nat.pow_lt_pow_right (by omega) h8),fun r=>?_⟩
 rw [Nat.testBit_or,Bool.or_eq_true,h.2,zbu hk,Nat.testBit_two_pow,decide_eq_true_eq]
 constructor
 · rintro (⟨h1,h2⟩ | rfl)
   · exact ⟨.inl h1,h2⟩
   exact ⟨.inr rfl,hp⟩
 rintro ⟨h1 | rfl,h2⟩
 · exact .inl ⟨h1,h2⟩
 exact .inr rfl
theorem AccB.no {U:List Nat} {P:Nat→Prop} {k m:Nat} (h:AccB U P k m) (hk:k<U.length) (hp:¬P U[k]):AccB U P (k+1) m:=by
 refine ⟨h.1,fun r=>?_⟩
 rw [h.2,zbu hk]
 constructor
 · rintro ⟨h1,h2⟩;exact ⟨.inl h1,h2⟩
 rintro ⟨h1 | rfl,h2⟩
 · exact ⟨h1,h2⟩
 exact absurd h2 hp
theorem AccB.fin {n:Nat} {Q P:Nat→Prop} {k m:Nat} (h:AccB (zcr n Q) P k m) (hk:(zcr n Q).length≤k):m=zg9 (fun r=>Q r∧P r) n:=by
 refine zeY fun r=>?_
 rw [h.2,List.take_of_length_le hk,zbo]
 exact ⟨fun ⟨⟨a,b⟩,d⟩=>⟨a,b,d⟩,fun ⟨a,b,d⟩=>⟨⟨a,b⟩,d⟩⟩
theorem AccB.start (U:List Nat) (P:Nat→Prop):AccB U P 0 0:=⟨by omega,fun r=>by simp⟩
theorem zpy {w W0:World} {b:Nat} {c:DCode} (hW:WAt W0 b c) (e0:Ext W0 w) (hc:CodeR c) :
   CALL Tryz.prog 186 [.pointer (some ⟨b,0,none⟩)] w fun v w'=>Ext w w'∧v=.int .i64 (znA c:Nat):=by
 refine F186_call ?_
 unfold F186
 have h8:=hc.1.procs8
 have hr256:zbK c<256:=zaR h8.1
 refine NIL.mk rfl ?_
 refine zaa zhK ?_
 refine zac ty3 hW.roots e0 fun _=>?_
 refine (zcY (m:=zbK c) (by omega)).mono ?_
 rintro v10 w1 ⟨hx1,ho1⟩
 unfold zbK at ho1
 rw [zdd (by omega)] at ho1
 refine zae u33 ho1.is ?_
 rw [zaj]
 have hUl:=zbS (n:=c.procs.length) (p:=RootP c)
 have hUm:∀ r∈zcr c.procs.length (RootP c),r<c.procs.length∧RootP c r:=fun r hr=>zbo.1 hr
 have hfin:∀ {k m},AccB (zcr c.procs.length (RootP c)) (zfZ c) k m→(zcr c.procs.length (RootP c)).length≤k→m=znA c:=fun h hk=>h.fin hk
 generalize zcr c.procs.length (RootP c)=U at *
 refine zaB U.length (fun k us w'=>∃ m:Nat,us=[.int .i64 (m:Int),.int .i64 (k:Int)]∧k≤U.length∧Ext w1 w'∧AccB U (zfZ c) k m) 0 (Nat.zero_le _) ⟨0,rfl,Nat.zero_le _,Ext.refl _,AccB.start _ _⟩ ?_
 rintro k mk u w2 hkm ⟨m,hu,hkl,hx2,hB⟩
 obtain ⟨hu1,hu2⟩:=ze4 hu
 rw [hu1,hu2]
 refine zai ?_
 refine br (fun hlt=>?_) (fun hge=>?_)
 case refine_2=>
   rw [hfin hB (by omega)]
   exact ⟨hx1.trans hx2,rfl⟩
 have hk:k<U.length:=by omega
 obtain ⟨hrl,hrR⟩:=hUm U[k] (List.getElem_mem _)
 refine zad u33 ty3 (i:=k) ho1.is (by rw [zaj];exact hk) fun b3 o3 hA3=>?_
 rw [zbq] at hA3
 have hyes:=fun hp=>hB.yes hk (by omega) hp
 have hno:=fun hp=>hB.no hk hp
 generalize U[k]=r at *
 refine zac ty3 hA3 hx2 fun _=>?_
 have hm256:=hB.1
 refine (zl5 (r:=r) hW (e0.trans (hx1.trans hx2)) hc hrR).mono ?_
 rintro _ w3 ⟨hx3,rfl⟩
 refine br (fun hs=>?_) (fun hs=>?_)
 · refine zdU (by kernel_rfl) zqd (by omega) ?_
   refine zeQ (by omega) ?_
   have:2^r<256:=Nat.pow_lt_pow_right (m:=r) (n:=8) (by omega) (by omega)
   refine zkf (by omega) (by omega) ?_
   refine zag (by omega) ?_
   exact ⟨mk-1,by omega,k+1,by omega,m ||| 2^r,rfl,by omega,hx2.trans hx3,hyes hs⟩
 refine zag (by omega) ?_
 exact ⟨mk-1,by omega,k+1,by omega,m,rfl,by omega,hx2.trans hx3,hno hs⟩
theorem zpz {w W0:World} {b i:Nat} {c:DCode} (hW:WAt W0 b c) (e0:Ext W0 w) (hc:CodeR c) (hi:i<c.ins.length) :
   CALL Tryz.prog 185 [.pointer (some ⟨b,0,none⟩),.int .i64 (i:Int)] w fun v w'=>Ext w w'∧v=.int .i64 (rtN c i:Nat):=by
 refine F185_call ?_
 unfold F185
 have h8:=hc.1.procs8
 have hr256:zbK c<256:=zaR h8.1
 obtain ⟨q,hq,hpq,_⟩:=ziX hc hi
 refine NIL.mk rfl ?_
 refine zaa zbs ?_
 refine zab zdW hW.wl.code e0 fun v11 h11=>?_
 refine (zjI (a:=(i:Int)) h11 e0).mono ?_
 rintro _ w1 ⟨hx1,rfl⟩
 refine zaS ?_
 refine br (fun h=>absurd ⟨by omega,by omega⟩ h) (fun _=>?_)
 refine NIL.mk rfl ?_
 refine zaa zn4 ?_
 refine zab zqb hW.wl.live (e0.trans hx1) fun v19 h19=>?_
 have hmk:=zeX (n:=c.ins.length) (p:=zeq c) (i:=i)
 rw [zdA (by rw [zch];exact hi)] at hmk
 refine zad u90 ty4 (i:=i) h19 (by rw [zch];exact hi) fun b2 o2 hA2=>?_
 refine zdh ty4 hA2 (e0.trans hx1) ?_
 refine zaU ?_
 refine zb4 (fun hf=>?_) (fun hf=>?_)
 · have hnl:¬zeq c i:=fun h=>by rw [hmk.2 ⟨hi,h⟩] at hf;cases hf
   have:rtN c i=0:=(zeY (m:=0) fun r=>by simp;exact fun _ h=>hnl h.1).symm
   rw [this]
   exact ⟨hx1,rfl⟩
 have hL:zeq c i:=(hmk.1 (by simpa using hf)).2
 refine NIL.mk rfl ?_
 refine zaa zhK ?_
 refine zac ty3 hW.roots (e0.trans hx1) fun _=>?_
 refine (zcY (m:=zbK c) (by omega)).mono ?_
 rintro v29 w2 ⟨hx2,ho2⟩
 unfold zbK at ho2
 rw [zdd (by omega)] at ho2
 refine zae u33 ho2.is ?_
 rw [zaj]
 have hUl:=zbS (n:=c.procs.length) (p:=RootP c)
 have hUm:∀ r∈zcr c.procs.length (RootP c),r<c.procs.length∧RootP c r:=fun r hr=>zbo.1 hr
 have hfin:∀ {k m},AccB (zcr c.procs.length (RootP c)) (fun r=>FromP c r q) k m→(zcr c.procs.length (RootP c)).length≤k→m=rtN c i:=fun h hk=>by
   rw [h.fin hk]
   unfold rtN
   refine zdc fun r _=>?_
   unfold RtP
   rw [hpq]
   exact ⟨fun h=>⟨hL,h.1,h.2⟩,fun h=>h.2⟩
 generalize zcr c.procs.length (RootP c)=U at *
 have hx02:=hx1.trans hx2
 refine zaB U.length (fun k us w'=>∃ m:Nat,us=[.int .i64 (m:Int),.int .i64 (k:Int)]∧k≤U.length∧Ext w2 w'∧AccB U (fun r=>FromP c r q) k m) 0 (Nat.zero_le _) ⟨0,rfl,Nat.zero_le _,Ext.refl _,AccB.start _ _⟩ ?_
 rintro k mk u w3 hkm ⟨m,hu,hkl,hx3,hB⟩
 obtain ⟨hu1,hu2⟩:=ze4 hu
 rw [hu1,hu2]
 refine zai ?_
 refine br (fun hlt=>?_) (fun hge=>?_)
 case refine_2=>
   rw [hfin hB (by omega)]
   exact ⟨hx02.trans hx3,rfl⟩
 have hk:k<U.length:=by omega
 obtain ⟨hrl,hrR⟩:=hUm U[k] (List.getElem_mem _)
 refine zad u33 ty3 (i:=k) ho2.is (by rw [zaj];exact hk) fun b4 o4 hA4=>?_
 rw [zbq] at hA4
 have hyes:=fun hp=>hB.yes hk (by omega) hp
 have hno:=fun hp=>hB.no hk hp
 generalize U[k]=r at *
 refine zac ty3 hA4 hx3 fun _=>?_
 have hm256:=hB.1
 have hxd:=zak w3
 have hx23:=hx3.trans hxd
 generalize World.drew1 w3=w4 at *
 have e4:=e0.trans (hx02.trans hx23)
 refine NIL.mk rfl ?_
 refine zaa zlo ?_
 refine zab za1 hW.frm e4 fun v38 h38=>?_
 refine zad u33 ty3 (i:=r) h38 (by rw [zaj,zhq];exact hrl) fun b5 o5 hA5=>?_
 rw [zbX] at hA5
 refine zac ty3 hA5 e4 fun _=>?_
 refine NIL.mk rfl ?_
 refine zaa zbs ?_
 refine zab zdW hW.wl.code e4 fun v45 h45=>?_
 refine (zlE (a:=(i:Int)) h45 e4 hc (by omega) (by omega)).mono ?_
 rintro _ w5 ⟨hx5,rfl⟩
 refine ⟨hx5,?_⟩
 rw [hpq]
 have hfb:=zno (c:=c) (r:=q) hrl
 have hf256:za8 (frs c) r<256:=by rw [zou hrl];exact zaR h8.1
 refine (zeA (m:=za8 (frs c) r) (i:=q) (by omega) (by omega)).mono ?_
 rintro _ w6 ⟨hx6,rfl⟩
 have hx26:=hx23.trans (hx5.trans hx6)
 refine zb4 (fun hs=>?_) (fun hs=>?_)
 · refine zdU (by kernel_rfl) zqd (by omega) ?_
   refine zeQ (by omega) ?_
   have:2^r<256:=Nat.pow_lt_pow_right (m:=r) (n:=8) (by omega) (by omega)
   refine zkf (by omega) (by omega) ?_
   refine zag (by omega) ?_
   exact ⟨mk-1,by omega,k+1,by omega,m ||| 2^r,rfl,by omega,hx26,hyes (hfb.1 hs).2⟩
 refine zag (by omega) ?_
 exact ⟨mk-1,by omega,k+1,by omega,m,rfl,by omega,hx26,hno fun h=>by rw [hfb.2 ⟨hq,h⟩] at hs;cases hs⟩
end Go.Proofs.YtcnglfeoglgebaaGreat
namespace Go.Proofs.YtcnglfeoglgebaaGreat
open Go Go.Sh Go.Proofs Go.Sort
open Rep (rep)
structure DOrder where
 fr:Int
 to:Int
 at_:Int
theorem DOrder.ext_iff {x y:DOrder}:x=y↔(x.fr=y.fr∧x.to=y.to∧x.at_=y.at_):=⟨fun h=>by rw [h];exact ⟨rfl,rfl,rfl⟩,fun h=>by obtain ⟨h0,h1,h2⟩:=h;cases x;cases y;simp only at h0 h1 h2;simp only [h0,h1,h2]⟩
instance:DecidableEq DOrder:=fun x y=>decidable_of_iff (x.fr=y.fr∧x.to=y.to∧x.at_=y.at_) DOrder.ext_iff.symm
instance:Rep DOrder:=Rep.via fun x=>(x.fr,x.to,x.at_)
instance:RepZ DOrder:=⟨⟨(RepZ.zv:Int),(RepZ.zv:Int),(RepZ.zv:Int)⟩,RepZ.zc (Int×Int×Int),fun w=>RepZ.zr (α:=Int×Int×Int) w⟩
instance:Flat DOrder:=⟨fun h=>Flat.flat (α:=Int×Int×Int) h⟩
def ltO (x y:DOrder):Prop:=x.fr<y.fr∨(x.fr=y.fr∧(x.to<y.to∨(x.to=y.to∧x.at_<y.at_)))
instance (x y:DOrder):Decidable (ltO x y):=by unfold ltO;infer_instance
instance:Inhabited DOrder:=⟨⟨0,0,0⟩⟩
def F184 (a0:Value) (w:World) (R:VW):Prop:=
 rN 90 3 a0 w fun x7=>
 LOOPI [3,8] [(Value.slice none 0 0),(iV 0)] w fun u3 w next3=>
 rC (u3 8) x7 w fun x9=>
 BR x9
 (rX 90 a0 (u3 8) w fun x11=>
 rL 4 x11 w fun x12=>
 BR x12
 (oP (Instr.buildSlice 33 1 #[(0,(u3 8))]) w fun x16 w=>
 oP (Builtin.append_ #[33,33] 33 [(u3 3),x16].toArray) w fun x17 w=>
 rA (u3 8) (iV 1) w fun x18=>
 next3 [x17,x18] w)
 (rA (u3 8) (iV 1) w fun x18=>
 next3 [(u3 3),x18] w))
 (R (u3 3) w)
def cfg184:Cfg:=⟨extL,[],[(3,524088,[3,8])],[],[],[],[]⟩
theorem F184_call {a0:Value} {w:World} {R:VW} (h:F184 a0 w R):cL 184 [a0] w R:=co (g:=cfg184) Tryz.func184 (by kernel_rfl) (by kernel_rfl) (by kernel_rfl) h
open Rep (rep)
theorem zra {w W0:World} {v0:Value} {ms:List Bool} (h0:Is W0 v0 ms) (e0:Ext W0 w) (hn:ms.length≤2000000) :
   CALL Tryz.prog 184 [v0] w fun r w'=>Ext w w'∧Own w.heap.size w' r (zbA (zt7 ms ms.length)):=by
 refine F184_call ?_
 unfold F184
 refine zae u90 h0 ?_
 refine zaB ms.length (fun k us w'=>∃ (v:Value),us=[v,.int .i64 (k:Int)]∧k≤ms.length∧Ext w w'∧RowI w.heap.size w'.heap.size 3 w' v (zbA (zt7 ms k))) 0 (Nat.zero_le _) ⟨_,rfl,Nat.zero_le _,Ext.refl _,zbE _ _ _ _⟩ ?_
 rintro k mk u w2 hkm ⟨v,hu,hkl,hx2,hr2⟩
 obtain ⟨hu1,hu2⟩:=ze4 hu
 rw [hu1,hu2]
 refine zai ?_
 refine br (fun hlt=>?_) (fun hge=>?_)
 case refine_2=>
   have:k=ms.length:=by omega
   rw [this] at hr2
   exact ⟨hx2,hr2.own.own⟩
 have hk:k<ms.length:=by omega
 have hs2:=hx2.size
 have hg:ms.getD k false=ms[k]:=by rw [List.getD_eq_getElem?_getD,List.getElem?_eq_getElem hk];rfl
 have hil:=zss ms k
 refine zad u90 ty4 h0 hk fun b2 o2 hA2=>?_
 refine zdh ty4 hA2 (e0.trans hx2) ?_
 refine zb4 (fun hf=>?_) (fun hf=>?_)
 · refine zcI (lo2:=w2.heap.size) (hi2:=w2.heap.size) (x:=(k:Int)) u33 ty3 z3 zc3 (by decide) hr2 hs2 (zgR _ _ (by unfold I64;omega)) (Nat.le_refl _) hs2 (by rw [zam,zaj];omega) (by rw [zaj];omega) fun v54 w9 hc9 hr9=>?_
   refine zag (by omega) ?_
   refine ⟨mk-1,by omega,k+1,by omega,v54,rfl,by omega,hx2.chgI hc9 (Nat.le_refl _),?_⟩
   rw [zlN,hg,hf,if_pos rfl,zd5]
   exact hr9
 refine zag (by omega) ?_
 refine ⟨mk-1,by omega,k+1,by omega,v,rfl,by omega,hx2,?_⟩
 rw [zlN,hg,hf]
 simpa using hr2
def F108 (a0 a1 a2:Value) (w:World) (R:VW):Prop:=
 rB .eql 3 T0 U0 a0 (iV 0) w fun x8=>
 BR x8
 (R (Value.bool false) w)
 (rB .eql 3 T0 U0 a1 (iV 0) w fun x11=>
 BR x11
 (R (Value.bool false) w)
 (rB .and 3 T0 T0 a0 a1 w fun x15=>
 rB .andNot 3 T0 T0 x15 a2 w fun x17=>
 rB .neq 3 T0 U0 x17 (iV 0) w fun x18=>
 BR x18
 (R (Value.bool true) w)
 (rB .neq 3 T0 T0 a0 a1 w fun x22=>
 BR x22
 (R (Value.bool true) w)
 (rB .sub 3 T0 U0 a0 (iV 1) w fun x27=>
 rB .and 3 T0 T0 a0 x27 w fun x28=>
 rB .neq 3 T0 U0 x28 (iV 0) w fun x29=>
 R x29 w))))
def cfg108:Cfg:=⟨extL,[],[],[],[],[],[]⟩
theorem F108_call {a0 a1 a2:Value} {w:World} {R:VW} (h:F108 a0 a1 a2 w R):cL 108 [a0,a1,a2] w R:=co (g:=cfg108) Tryz.func108 (by kernel_rfl) (by kernel_rfl) (by kernel_rfl) h
def F106 (a0:Value) (w:World) (R:VW):Prop:=
 NIL a0 <|
 rF 92 a0 0 w fun x8=>
 rF 36 x8 4 w fun x9=>
 rL 34 x9 w fun x10=>
 rN 34 3 x10 w fun x11=>
 oP (Instr.makeSlice 33 x11 x11) w fun x12 w=>
 rN 33 3 x12 w fun x14=>
 LOOPI [15] [(iV 0)] w fun u3 w next3=>
 rC (u3 15) x14 w fun x16=>
 BR x16
 (cL 185 [a0,(u3 15)] w fun x22 w=>
 rX 33 x12 (u3 15) w fun x23=>
 oS 3 x23 x22 w fun w=>
 rA (u3 15) (iV 1) w fun x24=>
 next3 [x24] w)
 (cL 186 [a0] w fun x27 w=>
 R (Value.tuple #[x12,x27]) w)
def cfg106:Cfg:=⟨extL,[],[(3,33521696,[15])],[],[],[],[]⟩
theorem F106_call {a0:Value} {w:World} {R:VW} (h:F106 a0 w R):cL 106 [a0] w R:=co (g:=cfg106) Tryz.func106 (by kernel_rfl) (by kernel_rfl) (by kernel_rfl) h
def F105 (a0:Value) (w:World) (R:VW):Prop:=
 cL 68 [a0] w fun x8 w=>
 cL 70 [a0] w fun x10 w=>
 cL 184 [x10] w fun x11 w=>
 rN 33 3 x11 w fun x12=>
 LOOPI [4,13] [(Value.slice none 0 0),(iV 0)] w fun u4 w next4=>
 rC (u4 13) x12 w fun x14=>
 BR x14
 (rX 33 x11 (u4 13) w fun x15=>
 rL 3 x15 w fun x16=>
 (fun w=>NIL a0 <|
 rF 92 a0 0 w fun x20=>
 rL 36 x20 w fun x21=>
 rX 33 x8 x16 w fun x25=>
 rL 3 x25 w fun x26=>
 (fun w_=>cL 146 [x21,x16,x26] w_ fun x27 w=>
 Ext w_ w ∧
 oP (Builtin.append_ #[133,133] 133 [(u4 4),x27].toArray) w fun x28 w=>
 rA (u4 13) (iV 1) w fun x29=>
 next4 [x28,x29] w) w) (World.drew1 w))
 (R (u4 4) w)
def cfg105:Cfg:=⟨extL,[],[(4,1073733712,[4,13])],[(6,[0,1,2,3,4,5,6,7,8,9,10,11,12],1024)],[],[],[]⟩
theorem F105_call {a0:Value} {w:World} {R:VW} (h:F105 a0 w R):cL 105 [a0] w R:=co (g:=cfg105) Tryz.func105 (by kernel_rfl) (by kernel_rfl) (by kernel_rfl) h
open Rep (rep)
def ztC (a b s:Nat):Prop:=∃ r t,a.testBit r=true∧b.testBit t=true∧(r≠t∨s.testBit r=false)
theorem zsP:∀ a,a<256→a &&& (a-1)≠0→∃ r,r<8∧∃ t,t<8∧r≠t∧a.testBit r=true∧a.testBit t=true:=by decide +kernel
theorem zuk:∀ a,a<256→∀ r,r<8→∀ t,t<8→(a &&& (a-1)=0∧a.testBit r=true∧a.testBit t=true→r=t):=by decide +kernel
theorem zrb {m l:Nat} (h:m<256) (hb:m.testBit l=true):l<8:=Decidable.byContradiction fun hc=>by
 have:=Nat.testBit_lt_two_pow (Nat.lt_of_lt_of_le (show m<2^8 from h) (Nat.pow_le_pow_right (by omega) (by omega:8≤l)))
 rw [this] at hb;cases hb
theorem zkW {m:Nat} (h:m≠0):∃ i,m.testBit i=true:=Nat.exists_testBit_of_ne_zero h
theorem zrc {m:Nat} (h:m=0) (i:Nat):¬m.testBit i=true:=by rw [h];simp
theorem zsQ {w:World} {a b s:Nat} (ha:a<256) (hb:b<256) (hs:s<256) :
   CALL Tryz.prog 108 [.int .i64 (a:Int),.int .i64 (b:Int),.int .i64 (s:Int)] w fun v w'=>Ext w w'∧∃ x:Bool,v=.bool x∧(x=true↔ztC a b s):=by
 refine F108_call ?_
 unfold F108
 refine zaf ?_
 refine br (fun h=>?_) (fun hna=>?_)
 · exact ⟨Ext.refl _,false,rfl,⟨fun e=>(by cases e),fun ⟨r,t,h1,_⟩=>absurd h1 (zrc (by omega) r)⟩⟩
 refine zaf ?_
 refine br (fun h=>?_) (fun hnb=>?_)
 · exact ⟨Ext.refl _,false,rfl,⟨fun e=>(by cases e),fun ⟨r,t,_,h1,_⟩=>absurd h1 (zrc (by omega) t)⟩⟩
 have hle:=Nat.and_le_left (n:=a) (m:=b)
 refine zgS (m:=a) (n:=b) (by omega) (by omega) ?_
 refine ziQ (m:=a &&& b) (n:=s) (by omega) (by omega) ?_
 refine zaO ?_
 refine br (fun h=>?_) (fun h=>?_)
 · obtain ⟨i,hi⟩:=zkW (m:=zpY (a &&& b) s) (by omega)
   rw [zfK,Nat.testBit_and] at hi
   simp only [Bool.and_eq_true,Bool.not_eq_true'] at hi
   exact ⟨Ext.refl _,true,rfl,⟨fun _=>⟨i,i,hi.1.1,hi.1.2,.inr hi.2⟩,fun _=>rfl⟩⟩
 have hz:zpY (a &&& b) s=0:=by have:=Decidable.not_not.1 h;omega
 refine zaO ?_
 refine br (fun hne=>?_) (fun heq=>?_)
 · refine ⟨Ext.refl _,true,rfl,⟨fun _=>?_,fun _=>rfl⟩⟩
   refine Classical.byContradiction fun hn=>?_
   have hall:∀ r t,a.testBit r=true→b.testBit t=true→r=t:=fun r t h1 h2=>Classical.byContradiction fun e=>hn ⟨r,t,h1,h2,.inl e⟩
   obtain ⟨r,hr⟩:=zkW (m:=a) (by omega)
   obtain ⟨t,ht⟩:=zkW (m:=b) (by omega)
   have hrt:=hall r t hr ht
   subst hrt
   have:a=b:=Nat.eq_of_testBit_eq fun i=>by
     cases e1:a.testBit i<;>cases e2:b.testBit i
     · rfl
     · have:=hall r i hr e2;subst this;rw [hr] at e1;cases e1
     · have:=hall i r e1 ht;subst this;rw [ht] at e2;cases e2
     rfl
   exact hne (by rw [this])
 have hab:a=b:=by have:=Decidable.not_not.1 heq;omega
 subst hab
 refine za3 (by unfold I64;omega) ?_
 rw [show (a:Int)-1=((a-1:Nat):Int) by omega]
 refine zgS (m:=a) (n:=a-1) (by omega) (by omega) ?_
 refine zaO ?_
 refine ⟨Ext.refl _,_,rfl,?_⟩
 rw [decide_eq_true_eq]
 constructor
 · intro h
   obtain ⟨r,_,t,_,h1,h2,h3⟩:=zsP a ha (by omega)
   exact ⟨r,t,h2,h3,.inl h1⟩
 rintro ⟨r,t,h1,h2,h3⟩ hc
 have:=zuk a ha r (zrb ha h1) t (zrb ha h2) ⟨by omega,h1,h2⟩
 subst this
 have hb:=zrc hz r
 rw [zfK,Nat.testBit_and,h1] at hb
 rcases h3 with h3 | h3
 · exact h3 rfl
 rw [h3] at hb;simp at hb
theorem zpA {w W0:World} {b:Nat} {c:DCode} (hW:WAt W0 b c) (e0:Ext W0 w) (hc:CodeR c) :
   CALL Tryz.prog 106 [.pointer (some ⟨b,0,none⟩)] w fun v w'=>Ext w w'∧∃ u,v=.tuple #[u,.int .i64 (znA c:Nat)]∧Own w.heap.size w' u (zbA ((List.range c.ins.length).map (rtN c))):=by
 refine F106_call ?_
 unfold F106
 have hil:=hc.f.ins
 have hin0:0<c.ins.length:=by
   have:=hc.1.procs8
   have:=(ziV hc this.2).2.2
   omega
 refine NIL.mk rfl ?_
 refine zaa zbs ?_
 refine zaa zaG ?_
 refine zab zdi (zao hW.wl.code) e0 fun v10 h10=>?_
 refine zae u34 h10 ?_
 have hn:c.ins.length=c.ins.length:=rfl
 generalize hnn:c.ins.length=n at hn
 rw [hnn] at hil hin0
 refine zeZ hin0 (by omega) fun w1 hx1 hM1=>?_
 refine zkP u33 ?_
 generalize hg:w.heap.size=g at *
 have hg1:=hM1.lt g (by simp)
 have hM0:Mine [g] w1 (.slice (some ⟨g,0,none⟩) n n) (zbA ((List.range n).map fun i=>if i<0 then rtN c i else 0)):=by
   have:(List.replicate n 0)=((List.range n).map fun i=>if i<0 then rtN c i else 0):=by
     apply List.ext_getElem
     · simp
     intro i h1 h2;simp
   rw [←this];exact hM1
 refine zaB n (fun k us w'=>us=[.int .i64 (k:Int)]∧k≤n∧ChgI g (g+1) w1 w'∧Mine [g] w' (.slice (some ⟨g,0,none⟩) n n) (zbA ((List.range n).map fun i=>if i<k then rtN c i else 0))) 0 (Nat.zero_le _) ⟨rfl,Nat.zero_le _,ChgI.refl _,hM0⟩ ?_
 rintro k mk u w2 hkm ⟨hu,hkl,hc2,hM2⟩
 simp only [List.map_cons,List.map_nil,List.cons.injEq,and_true] at hu
 rw [hu]
 have hx2:Ext w w2:=hx1.chgI hc2 (by omega)
 refine zai ?_
 refine br (fun hlt=>?_) (fun hge=>?_)
 case refine_2=>
   have hke:k=n:=by omega
   refine (zpy hW (e0.trans hx2) hc).mono ?_
   rintro _ w3 ⟨hx3,rfl⟩
   refine ⟨hx2.trans hx3,_,rfl,[g],?_,fun b hb=>by simp at hb;omega⟩
   have:((List.range n).map fun i=>if i<k then rtN c i else 0)=(List.range n).map (rtN c):=List.map_congr_left fun i hi=>by
     have:=List.mem_range.1 hi
     rw [if_pos (by omega)]
   rw [this] at hM2
   exact hM2.ext hx3
 have hk:k<n:=by omega
 refine (zpz (i:=k) hW (e0.trans hx2) hc (by omega)).mono ?_
 rintro _ w3 ⟨hx3,rfl⟩
 have hrt:=zq9 hc k
 refine zd6 (α:=Int) (i:=k) rfl u33 ty3 hk ?_
 refine zcK (α:=Int) rfl ty3 (hM2.ext hx3) (by simp [zbA]) hk (zcF (v:=rtN c k) (by omega)) fun w4 hc4 hM4=>?_
 have hc4':ChgI g (g+1) w3 w4:=zhp hc4
 refine zag (by omega) ?_
 refine ⟨mk-1,by omega,k+1,by omega,rfl,by omega,(hc2.trans hx3.toI).trans hc4',?_⟩
 have:(zbA ((List.range n).map fun i=>if i<k then rtN c i else 0)).set k (rtN c k:Nat)=zbA ((List.range n).map fun i=>if i<k+1 then rtN c i else 0):=by
   unfold zbA
   apply List.ext_getElem
   · simp
   intro i h1 h2
   simp only [List.length_map,List.length_range] at h2
   rw [List.getElem_set]
   by_cases e:k=i
   · subst e;simp
   rw [if_neg e]
   simp only [List.getElem_map,List.getElem_range]
   by_cases h:i<k
   · rw [if_pos h,if_pos (by omega)]
   rw [if_neg h,if_neg (by omega)]
 rw [←this];exact hM4
noncomputable def zul (c:DCode) (i:Nat):List DTouch:=zer c (i:Int) ((za8 (zjq c) i:Nat):Int)
noncomputable def zrd (c:DCode):List DTouch:=(zcr c.ins.length (MetP c)).flatMap (zul c)
theorem zg1 {c:DCode} (hc:CodeR c) (a h:Int):(zer c a h).length≤12:=by
 have h1:=zns c a h
 have h2:=hc.1.1
 simp only [Bool.and_eq_true,decide_eq_true_eq] at h2
 omega
theorem zl6 {c:DCode} (hc:CodeR c) (U:List Nat) (hU:U.length≤1500):(U.flatMap (zul c)).length≤18000:=by
 have h1:=zg0 (l:=U) (f:=zul c) (B:=12) fun i _=>zg1 hc _ _
 omega
theorem zpB {w W0:World} {b:Nat} {c:DCode} (hW:WAt W0 b c) (e0:Ext W0 w) (hc:CodeR c) :
   CALL Tryz.prog 105 [.pointer (some ⟨b,0,none⟩)] w fun v w'=>Ext w w'∧Own w.heap.size w' v (zrd c):=by
 refine F105_call ?_
 unfold F105
 have hil:=hc.f.ins
 refine (zuc hW e0 hc).mono ?_
 rintro v8 w1 ⟨hx1,ho1⟩
 refine (zvo hW (e0.trans hx1) hc).mono ?_
 rintro v10 w2 ⟨hx2,ho2⟩
 have hml:(zuY c).length=c.ins.length:=by unfold zuY;rw [zch]
 refine (zra ho2.is (Ext.refl _) (by rw [hml];omega)).mono ?_
 rintro v11 w3 ⟨hx3,ho3⟩
 have hx13:=hx1.trans (hx2.trans hx3)
 rw [hml] at ho3
 unfold zuY at ho3
 rw [zqJ] at ho3
 have hMu:=ho1.is.ext (hx2.trans hx3)
 have hUl:=zbS (n:=c.ins.length) (p:=MetP c)
 have hUm:∀ i∈zcr c.ins.length (MetP c),i<c.ins.length:=fun i hi=>(zbo.1 hi).1
 unfold zrd
 generalize zcr c.ins.length (MetP c)=U at *
 refine zae u33 ho3.is ?_
 rw [zaj]
 have hs13:=hx13.size
 refine zaB U.length (fun k us w'=>∃ out,us=[out,.int .i64 (k:Int)]∧k≤U.length∧Ext w3 w'∧RowI w3.heap.size w'.heap.size 138 w' out ((U.take k).flatMap (zul c))) 0 (Nat.zero_le _) ⟨_,rfl,Nat.zero_le _,Ext.refl _,zbE _ _ _ _⟩ ?_
 rintro k mk u w4 hkm ⟨out,hu,hkl,hx4,hr4⟩
 obtain ⟨hu1,hu2⟩:=ze4 hu
 rw [hu1,hu2]
 refine zai ?_
 refine br (fun hlt=>?_) (fun hge=>?_)
 case refine_2=>
   have hke:k=U.length:=by omega
   rw [hke,List.take_length] at hr4
   exact ⟨hx13.trans hx4,hr4.own.own.mono (by omega)⟩
 have hk:k<U.length:=by omega
 have hi:=hUm U[k] (List.getElem_mem _)
 have hfs:=zfp (f:=zul c) hk
 have hlk:=zl6 hc (U.take k) (by rw [List.length_take];omega)
 refine zad u33 ty3 (i:=k) ho3.is (by rw [zaj];exact hk) fun b5 o5 hA5=>?_
 rw [zbq] at hA5
 generalize U[k]=i at *
 refine zac ty3 hA5 hx4 fun _=>?_
 have hxd:=zak w4
 have hx35:=hx4.trans hxd
 have hr5:=hr4.ext hxd
 have hsd:=hxd.size
 generalize World.drew1 w4=w5 at *
 have e5:=e0.trans (hx13.trans hx35)
 refine NIL.mk rfl ?_
 refine zaa zbs ?_
 refine zab zdW hW.wl.code e5 fun v21 h21=>?_
 refine zad u33 ty3 (i:=i) hMu (by rw [zaj,ziS];exact hi) fun b6 o6 hA6=>?_
 rw [zbX] at hA6
 refine zac ty3 hA6 hx35 fun _=>?_
 have hm64:=ziT (zos c) i
 refine (zlY (a:=(i:Int)) (held:=(za8 (zjq c) i:Nat)) h21 e5 hc (by omega) (by omega) (by unfold I64;omega)).mono ?_
 rintro v27 w6 ⟨hx6,ho6⟩
 refine ⟨hx6,?_⟩
 have h12:(zul c i).length≤12:=zg1 hc (i:Int) (za8 (zjq c) i:Nat)
 have hs34:=hx4.size
 have hs56:=hx6.size
 refine zhf (m:=zul c i) ztl zfY ztZ (hr5.ext hx6) (by omega) ho6.is (Ext.refl _) (by rw [zam];omega) (by omega) fun v28 w7 hc7 hr7=>?_
 refine zag (by omega) ?_
 refine ⟨mk-1,by omega,k+1,by omega,v28,rfl,by omega,(hx35.trans hx6).chgI hc7 (Nat.le_refl _),?_⟩
 rw [hfs];exact hr7
section
variable {Q1 Q1' Q2:List Nat→World→Prop} {wb w w1 w':World} {F1 F2 F':List Nat}
end
def zwH (c:DCode) (a b r s:Nat):Prop:=RootP c r∧RootP c s∧FromP c r a∧FromP c s b∧(r≠s∨¬zfZ c r)
def zvT (c:DCode) (a b:Nat):Prop:=∃ r s,zwH c a b r s
noncomputable instance (c:DCode) (r:Nat):Decidable (RootP c r):=Classical.propDecidable _
instance flatRawM:Flat Raw:=⟨fun h=>h.1⟩
section
variable {w0 w w':World} {lo hi g n:Nat} {out:Value} {L:List DRace} {vs:List Raw} {T:Nat→List DTouch}
end
def zvs (c:DCode) (s:DState):Prop:=(CodeR c∧zbQ c s)∧zv6 c s=[]∧znf c s s.stacks.length=0
instance (c:DCode) (s:DState):Decidable (zvs c s):=by unfold zvs;infer_instance
theorem znB {w w0:World} {v:Value} {l:List DRace} (h:Is w0 v l) (hx:Ext w0 w) (hn:l.length≤1000000000) :
   CALL Tryz.prog 85 [v] w fun r w'=>Ext w w'∧Own w.heap.size w' r (zl0 l):=by
 refine F85_call ?_
 unfold F85
 refine (zq2 h hx (by omega)).mono ?_
 rintro v1 w1 ⟨hx1,ho1⟩
 refine (zsK ho1.toI (by omega)).mono ?_
 rintro _ w2 ⟨hc2,ho2⟩
 refine (zpu ho2 (by rw [zq6];omega)).mono ?_
 rintro v3 w3 ⟨hc3,ho3⟩
 refine (zsF ho3).mono ?_
 rintro v4 w4 ⟨hx4,ho4⟩
 rw [zui] at ho4
 exact ⟨((hx1.chgI hc2 (Nat.le_refl _)).chgI hc3 (Nat.le_refl _)).trans hx4,ho4.own⟩
open Classical in
noncomputable def rc1 (c:DCode) (a b:DTouch):List DRace:=if ze6 a b∧zvT c (zar c a.at_).toNat (zar c b.at_).toNat then [zgY a b] else []
theorem zum (c:DCode) (a b:DTouch):(rc1 c a b).length≤1:=by unfold rc1;split<;>simp
noncomputable def znC (c:DCode) (T:List DTouch) (i:Nat):List DRace:=match T.drop i with
 | []=>[]
 | a :: r=>(a :: r).flatMap (rc1 c a)
noncomputable def zjs (c:DCode) (T:List DTouch) (n:Nat):List DRace:=(List.range n).flatMap (znC c T)
theorem zkX {c:DCode} {T:List DTouch} {i:Nat} (hi:i<T.length):znC c T i=(T.drop i).flatMap (rc1 c T[i]):=by
 unfold znC
 rw [List.drop_eq_getElem_cons hi]
theorem zre (c:DCode) (a:DTouch) (L:List DTouch):(L.flatMap (rc1 c a)).length≤L.length:=by
 have:=zg0 (l:=L) (f:=rc1 c a) (B:=1) fun b _=>zum c a b
 omega
theorem zrf (c:DCode) (T:List DTouch) (i:Nat):(znC c T i).length≤T.length:=by
 rcases Nat.lt_or_ge i T.length with h | h
 · rw [zkX h]
   have:=zre c T[i] (T.drop i)
   rw [List.length_drop] at this
   omega
 unfold znC
 rw [List.drop_eq_nil_of_le h];simp
theorem zrg {c:DCode} {T:List DTouch} (hT:T.length≤18000) {n:Nat} (hn:n≤18000):(zjs c T n).length≤324000000:=by
 have h1:=zg0 (l:=List.range n) (f:=znC c T) (B:=18000) fun i _=>Nat.le_trans (zrf c T i) hT
 rw [List.length_range] at h1
 have:n*18000≤18000*18000:=Nat.mul_le_mul_right _ hn
 unfold zjs;omega
theorem zpC (c:DCode) (T:List DTouch) (n:Nat):zjs c T (n+1)=zjs c T n++znC c T n:=by
 unfold zjs;rw [List.range_succ,List.flatMap_append];simp
theorem zsR {c:DCode} (hc:CodeR c):(zrd c).length≤18000:=zl6 hc _ (Nat.le_trans zbS hc.f.ins)
structure TouR (c:DCode) (x:DTouch) (p:Nat):Prop where
 at_:x.at_=(p:Int)
 lt:p<c.ins.length
 met:MetP c p
 h0:0≤x.held
 h1:x.held≤63
theorem zsS {c:DCode} (hc:CodeR c) {x:DTouch} (h:x∈zrd c):∃ p,TouR c x p:=by
 unfold zrd at h
 obtain ⟨i,hi,hx⟩:=List.mem_flatMap.1 h
 obtain ⟨h1,h2⟩:=zpv hx
 have hm:=ziT (zos c) i
 obtain ⟨h3,h4⟩:=zbo.1 hi
 exact ⟨i,h1,h3,h4,by omega,by omega⟩
theorem zjU {c:DCode} {p i j:Nat} (h:zaX c p i) (hj:j∈zaY c i):zaX c p j:=by
 rcases h with rfl | h
 · exact .inr (.one hj)
 exact .inr (h.trans (.one hj))
theorem zoJ {c:DCode} (hc:CodeR c) {i:Nat} (h:MetP c i):zeq c i:=by
 induction h with
 | root h=>exact ⟨_,h.lt hc,.inl rfl⟩
 | call h ho _=>exact ⟨_,(zcs hc (h.lt hc) (.inl ho)).2,.inl rfl⟩
 | next _ _ hj ih=>obtain ⟨p,hp,hl⟩:=ih;exact ⟨p,hp,zjU hl hj⟩
 | back _ _ _ hj ih _=>obtain ⟨p,hp,hl⟩:=ih;exact ⟨p,hp,zjU hl hj⟩
theorem zrh {c:DCode} (hc:CodeR c) {i j:Nat} (hi:MetP c i) (hj:MetP c j):ztC (rtN c i) (rtN c j) (znA c)↔zvT c (zar c i).toNat (zar c j).toNat:=by
 have h1:=zoJ hc hi
 have h2:=zoJ hc hj
 have hb:∀ k r,(rtN c k).testBit r=true↔r<c.procs.length∧RtP c k r:=fun k r=>zci
 have hs:∀ r,r<c.procs.length→RootP c r→((znA c).testBit r=false↔¬zfZ c r):=fun r hr hR=>by
   have:=zci (n:=c.procs.length) (p:=fun r=>RootP c r∧zfZ c r) (i:=r)
   unfold znA
   constructor
   · intro h hS;rw [this.2 ⟨hr,hR,hS⟩] at h;cases h
   intro h
   cases e:(zg9 (fun r=>RootP c r∧zfZ c r) c.procs.length).testBit r
   · rfl
   exact absurd (this.1 e).2.2 h
 constructor
 · rintro ⟨r,t,hr,ht,h⟩
   obtain ⟨hr1,_,hr2,hr3⟩:=(hb _ _).1 hr
   obtain ⟨ht1,_,ht2,ht3⟩:=(hb _ _).1 ht
   exact ⟨r,t,hr2,ht2,hr3,ht3,h.imp id (hs r hr1 hr2).1⟩
 rintro ⟨r,t,hr2,ht2,hr3,ht3,h⟩
 exact ⟨r,t,(hb _ _).2 ⟨hr2.lt hc,h1,hr2,hr3⟩,(hb _ _).2 ⟨ht2.lt hc,h2,ht2,ht3⟩,h.imp id (hs r (hr2.lt hc) hr2).2⟩
def F47 (a0:Value) (w:World) (R:VW):Prop:=
 cL 105 [a0] w fun x12 w=>
 cL 106 [a0] w fun x15 w=>
 rE x15 0 w fun x16=>
 rE x15 1 w fun x17=>
 rN 133 3 x12 w fun x19=>
 LOOPI [6,20] [(Value.slice none 0 0),(iV 0)] w fun u5 w next5=>
 rC (u5 20) x19 w fun x21=>
 BR x21
 (rX 133 x12 (u5 20) w fun x23=>
 rL 138 x23 w fun x24=>
 oP (Instr.alloc 138 true (.tuple #[])) w fun x8 w=>
 oS 138 x8 x24 w fun w=>
 rD (Instr.sliceAt 133 x12 (some (u5 20)) none none) w fun x27=>
 rN 133 3 x27 w fun x28=>
 LOOPI [6,29] [(u5 6),(iV 0)] w fun u8 w next8=>
 rC (u8 29) x28 w fun x30=>
 BR x30
 (rX 133 x27 (u8 29) w fun x31=>
 rL 138 x31 w fun x32=>
 oP (Instr.alloc 138 true (.tuple #[])) w fun x10 w=>
 oS 138 x10 x32 w fun w=>
 (fun w=>rL 138 x8 w fun x33=>
 rL 138 x10 w fun x34=>
 cL 107 [x33,x34] w fun x35 w=>
 BR x35
 (rF 138 x8 0 w fun x38=>
 rL 3 x38 w fun x39=>
 rX 33 x16 x39 w fun x40=>
 rL 3 x40 w fun x41=>
 rF 138 x10 0 w fun x43=>
 rL 3 x43 w fun x44=>
 rX 33 x16 x44 w fun x45=>
 rL 3 x45 w fun x46=>
 cL 108 [x41,x46,x17] w fun x48 w=>
 BR x48
 (rL 138 x8 w fun x51=>
 rL 138 x10 w fun x52=>
 cL 109 [x51,x52] w fun x53 w=>
 oP (Instr.buildSlice 39 1 #[(0,x53)]) w fun x54 w=>
 oP (Builtin.append_ #[39,39] 39 [(u8 6),x54].toArray) w fun x55 w=>
 rA (u8 29) (iV 1) w fun x56=>
 next8 [x55,x56] w)
 (rA (u8 29) (iV 1) w fun x56=>
 next8 [(u8 6),x56] w))
 (rA (u8 29) (iV 1) w fun x56=>
 next8 [(u8 6),x56] w)) (World.drew1 w))
 (rA (u5 20) (iV 1) w fun x57=>
 next5 [(u8 6),x57] w))
 (cL 85 [(u5 6)] w fun x59 w=>
 R x59 w)
def cfg47:Cfg:=⟨extL,[],[(5,288230376150664640,[6,20]),(8,144115187538986048,[6,29])],[(10,[0,1,2,3,4,5,6,7,8,9,10,11,12,13,14,15,16],0)],[],[],[]⟩
theorem F47_call {a0:Value} {w:World} {R:VW} (h:F47 a0 w R):cL 47 [a0] w R:=co (g:=cfg47) Tryz.func47 (by kernel_rfl) (by kernel_rfl) (by kernel_rfl) h
open Rep (rep)
theorem zsT {w W0:World} {b:Nat} {c:DCode} (hW:WAt W0 b c) (e0:Ext W0 w) (hc:CodeR c) :
   CALL Tryz.prog 47 [.pointer (some ⟨b,0,none⟩)] w fun r w'=>Ext w w'∧Own w.heap.size w' r (zl0 (zjs c (zrd c) (zrd c).length)):=by
 refine F47_call ?_
 unfold F47
 refine (zpB hW e0 hc).mono ?_
 rintro v12 w1 ⟨hx1,ho1⟩
 refine (zpA hW (e0.trans hx1) hc).mono ?_
 rintro _ wb ⟨hx2,v16,rfl,ho2⟩
 refine za0 rfl ?_
 refine za0 rfl ?_
 have hx1b:=hx1.trans hx2
 have hTb:=ho1.is.ext hx2
 have hRb:=ho2.is
 have hTl:=zsR hc
 have hTm:=fun x (hx:x∈zrd c)=>zsS hc hx
 generalize zrd c=T at *
 have hs1b:=hx1b.size
 have hsg:=zsO hc
 refine zae ztl hTb ?_
 refine zaB T.length (fun k us w'=>∃ out lo hi,us=[out,.int .i64 (k:Int)]∧k≤T.length∧Ext wb w'∧wb.heap.size≤lo∧hi≤w'.heap.size∧RowI lo hi 58 w' out (zjs c T k)) 0 (Nat.zero_le _) ⟨_,wb.heap.size,wb.heap.size,rfl,Nat.zero_le _,Ext.refl _,Nat.le_refl _,Nat.le_refl _,zbE _ _ _ _⟩ ?_
 rintro i mk u w3 hkm ⟨out,lo0,hi0,hu,hkl,hx3,hlo0,hhi0,hr3⟩
 obtain ⟨hu1,hu2⟩:=ze4 hu
 rw [hu1,hu2]
 refine zai ?_
 have hall:=zrg (c:=c) hTl (n:=i) (by omega)
 refine br (fun hlt=>?_) (fun hge=>?_)
 case refine_2=>
   have hke:i=T.length:=by omega
   rw [hke] at hr3 hall
   refine (znB hr3.is (Ext.refl _) (by omega)).mono ?_
   rintro r w4 ⟨hx4,ho4⟩
   exact ⟨hx1b.trans (hx3.trans hx4),ho4.mono (by have:=hx3.size;omega)⟩
 have hi:i<T.length:=by omega
 have hrow:=zkX (c:=c) hi
 have hsuc:=zpC c T i
 obtain ⟨pa,hpa⟩:=hTm T[i] (List.getElem_mem _)
 refine zad ztl zfY (i:=i) hTb hi fun b4 o4 hA4=>?_
 generalize hae:T[i]=a at *
 refine zab zfY hA4 hx3 fun v24 h24=>?_
 refine zcA zu9 rfl zfY rfl h24 hx3 fun w4 hx4 hAa hVa=>?_
 have hAB4:=zfe h24 hVa rfl
 have hgl:w3.heap.size<w4.heap.size:=hVa.lt
 have hs4:=hx4.size
 refine zgx (i:=(i:Int)) ztl zfY hTb (by omega) (by simp;omega) fun v27 h27=>?_
 rw [Int.toNat_natCast] at h27
 have hDl:(T.drop i).length=T.length-i:=List.length_drop
 have hDm:∀ x∈T.drop i,∃ p,TouR c x p:=fun x hx=>hTm x (List.mem_of_mem_drop hx)
 generalize T.drop i=D at *
 refine zae ztl h27 ?_
 refine zaB D.length (fun j us w'=>∃ out lo hi,us=[out,.int .i64 (j:Int)]∧j≤D.length∧Ext wb w'∧w4.heap.size≤w'.heap.size∧AtB wb w' w3.heap.size 0 a∧wb.heap.size≤lo∧hi≤w'.heap.size∧(w3.heap.size<lo∨hi≤w3.heap.size)∧RowI lo hi 58 w' out (zjs c T i++(D.take j).flatMap (rc1 c a))) 0 (Nat.zero_le _) ⟨out,lo0,hi0,rfl,Nat.zero_le _,hx3.trans hx4,Nat.le_refl _,hAB4,hlo0,by omega,.inr hhi0,by simpa using hr3.ext hx4⟩ ?_
 rintro j mj u5 w5 hjm ⟨out5,lo,hi5,hu5,hjl,hx5,hs5,hAB5,hlo,hhi,hd,hr5⟩
 obtain ⟨hu51,hu52⟩:=ze4 hu5
 rw [hu51,hu52]
 refine zai ?_
 refine br (fun hlt5=>?_) (fun hge5=>?_)
 case refine_2=>
   refine zag (by omega) ?_
   refine ⟨mk-1,by omega,i+1,by omega,out5,lo,hi5,rfl,by omega,hx5,hlo,hhi,?_⟩
   rw [List.take_of_length_le (by omega)] at hr5
   rw [hsuc,hrow];exact hr5
 have hj:j<D.length:=by omega
 have hfs:=zfp (f:=rc1 c a) hj
 have hrl:=zre c a (D.take j)
 have htl:=List.length_take_le' j D
 obtain ⟨pb,hpb⟩:=hDm D[j] (List.getElem_mem _)
 refine zad ztl zfY (i:=j) h27 hj fun b6 o6 hA6=>?_
 generalize hbe:D[j]=bb at *
 refine zab zfY hA6 hx5 fun v32 h32=>?_
 refine zcA zu9 rfl zfY rfl h32 hx5 fun w6 hx6 hAb hVb=>?_
 have hxd:=zak w6
 have hx56:=hx6.trans hxd
 have hAbd:=hAb.ext hxd
 generalize World.drew1 w6=w7 at *
 have hAB7:=hAB5.ext hx56
 have hx7:=hx5.trans hx56
 have hAa7:=hAB7.at hx7
 have hr7:=hr5.ext hx56
 have hs57:=hx56.size
 refine zab zfY hAa7 (Ext.refl _) fun v33 h33=>?_
 refine zab zfY hAbd (Ext.refl _) fun v34 h34=>?_
 refine (zsI h33 (Ext.refl _) h34 (Ext.refl _)).mono ?_
 rintro _ w8 ⟨hx8,rfl⟩
 have hs78:=hx8.size
 have hno:∀ {w9:World},Ext w7 w9→¬(ze6 a bb∧zvT c (zar c a.at_).toNat (zar c bb.at_).toNat)→RD Tryz.prog (bin .add 3 (.tmp 0) (.const undef) (.int .i64 (j:Int)) (.int .i64 1)) w9 fun x56=>∃ m',m'<mj∧∃ k',k'+m'=D.length∧∃ out lo hi,[out5,x56]=[out,.int .i64 (k':Int)]∧k'≤D.length∧Ext wb w9∧w4.heap.size≤w9.heap.size∧AtB wb w9 w3.heap.size 0 a∧wb.heap.size≤lo∧hi≤w9.heap.size∧(w3.heap.size<lo∨hi≤w3.heap.size)∧RowI lo hi 58 w9 out (zjs c T i++(D.take k').flatMap (rc1 c a)):=fun hx9 hn=>by
   have:=hx9.size
   refine zag (by omega) ?_
   refine ⟨mj-1,by omega,j+1,by omega,out5,lo,hi5,rfl,by omega,hx7.trans hx9,by omega,hAB7.ext hx9,hlo,by omega,hd,?_⟩
   rw [hfs]
   have:rc1 c a bb=[]:=by unfold rc1;rw [if_neg hn]
   rw [this,List.append_nil]
   exact hr7.ext hx9
 refine br (fun hcl=>?_) (fun hcl=>?_)
 case refine_2=>exact hno hx8 fun h=>hcl h.1
 have hRl:∀ i,i<c.ins.length→i<(zbA ((List.range c.ins.length).map (rtN c))).length:=fun i hi=>by simp [zbA];exact hi
 have hRg:∀ i (hi:i<(zbA ((List.range c.ins.length).map (rtN c))).length),(zbA ((List.range c.ins.length).map (rtN c)))[i]=((rtN c i:Nat):Int):=fun i hi=>by simp [zbA]
 have hx8b:=hx7.trans hx8
 have hAa8:=hAa7
 refine zaa zhe ?_
 refine zac ty3 (zc7 hAa7) hx8 fun _=>?_
 rw [hpa.at_]
 refine zad u33 ty3 (i:=pa) hRb (hRl pa hpa.lt) fun b9 o9 hA9=>?_
 rw [hRg] at hA9
 refine zac ty3 hA9 hx8b fun _=>?_
 refine zaa zhe ?_
 refine zac ty3 (zc7 hAbd) hx8 fun _=>?_
 rw [hpb.at_]
 refine zad u33 ty3 (i:=pb) hRb (hRl pb hpb.lt) fun b10 o10 hA10=>?_
 rw [hRg] at hA10
 refine zac ty3 hA10 hx8b fun _=>?_
 refine (zsQ (zq9 hc pa) (zq9 hc pb) hsg).mono ?_
 rintro _ w9 ⟨hx9,x,rfl,hx⟩
 rw [zrh hc hpa.met hpb.met] at hx
 have hpa':zar c a.at_=zar c pa:=by rw [hpa.at_]
 have hpb':zar c bb.at_=zar c pb:=by rw [hpb.at_]
 have hx79:=hx8.trans hx9
 refine zb4 (fun hxt=>?_) (fun hxf=>?_)
 case refine_2=>
   refine hno hx79 fun h=>?_
   have:=hx.2 (by rw [←hpa',←hpb'];exact h.2)
   rw [this] at hxf;cases hxf
 have hB:zvT c (zar c a.at_).toNat (zar c bb.at_).toNat:=by rw [hpa',hpb'];exact hx.1 hxt
 refine zab zfY hAa7 hx79 fun v51 h51=>?_
 refine zab zfY hAbd hx79 fun v52 h52=>?_
 refine (zq5 h51 hx79 h52 hx79).mono ?_
 rintro v53 w10 ⟨hx10,ho10⟩
 have hx710:=hx79.trans hx10
 have hs710:=hx710.size
 refine zfk (x:=zgY a bb) u39 zjn z58 zwm (by decide) (hr7.ext hx710) (ho10 0 0) (by rw [zam,List.length_append];omega) (by rw [List.length_append];omega) fun v55 w11 lo' hi' hc11 hr11 hd11=>?_
 have hs11:=hc11.size
 have hsb:=hx7.size
 refine zag (by omega) ?_
 refine ⟨mj-1,by omega,j+1,by omega,v55,lo',hi',rfl,by omega,(hx7.trans hx710).chgI hc11 hlo,by omega,(hAB7.ext hx710).keep (hc11.block _ (by omega) hd),by omega,by omega,by omega,?_⟩
 rw [hfs]
 have:rc1 c a bb=[zgY a bb]:=by unfold rc1;rw [if_pos ⟨hcl,hB⟩]
 rw [this,←List.append_assoc]
 exact hr11
def F11 (a0:Value) (w:World) (R:VW):Prop:=
 oP (Instr.box 36 a0) w fun x1 w=>
 rL 36 x1 w fun x6=>
 cL 46 [x6] w fun x7 w=>
 rE x7 0 w fun x8=>
 rE x7 1 w fun x9=>
 rD (Op.unary .not x9) w fun x11=>
 BR x11
 (R (Value.slice none 0 0) w)
 (cL 47 [x8] w fun x13 w=>
 R x13 w)
def cfg11:Cfg:=⟨extL,[],[],[],[],[],[]⟩
theorem F11_call {a0:Value} {w:World} {R:VW} (h:F11 a0 w R):cL 11 [a0] w R:=co (g:=cfg11) Tryz.func11 (by kernel_rfl) (by kernel_rfl) (by kernel_rfl) h
open Rep (rep)
open Classical in
noncomputable def zl7 (c:DCode):List DRace:=if CodeR c then zl0 (zjs c (zrd c) (zrd c).length) else []
theorem zjt {w W0:World} {v0:Value} {c:DCode} (h0:Is W0 v0 c) (e0:Ext W0 w) :
   CALL Tryz.prog 11 [v0] w fun r w'=>Ext w w'∧Own w.heap.size w' r (zl7 c):=by
 refine F11_call ?_
 unfold F11
 refine zcz h0 e0 fun w1 hx1 hA=>?_
 refine zab zdW hA (Ext.refl _) fun v6 h6=>?_
 refine (zht h6 (Ext.refl _)).mono ?_
 rintro r7 w2 ⟨hx2,hr⟩
 have hs1:=hx1.size
 have hs2:=hx2.size
 rcases hr with ⟨hn,rfl⟩ | ⟨hc,b,rfl,hW⟩
 · refine za0 rfl ?_
   refine za0 rfl ?_
   refine zaU ?_
   refine zb4 (fun _=>?_) (fun h=>by cases h)
   refine ⟨hx1.trans hx2,?_⟩
   unfold zl7;rw [if_neg hn]
   exact zhc rfl
 refine za0 rfl ?_
 refine za0 rfl ?_
 refine zaU ?_
 refine zb4 (fun h=>by cases h) (fun _=>?_)
 refine (zsT hW (Ext.refl _) hc).mono ?_
 rintro v13 w3 ⟨hx3,ho3⟩
 refine ⟨hx1.trans (hx2.trans hx3),?_⟩
 unfold zl7;rw [if_pos hc]
 exact ho3.mono (by omega)
end Go.Proofs.YtcnglfeoglgebaaGreat
namespace Go.Sh
open Rep (rep)
inductive DStmt where
 | mk (kind:Int) (name:ByteArray) (term:DTerm) (body els:List DStmt)
namespace DStmt
def kind:DStmt→Int | .mk k _ _ _ _=>k
def name:DStmt→ByteArray | .mk _ s _ _ _=>s
def term:DStmt→DTerm | .mk _ _ t _ _=>t
def body:DStmt→List DStmt | .mk _ _ _ b _=>b
def els:DStmt→List DStmt | .mk _ _ _ _ e=>e
def tup (t:DStmt):Int×ByteArray×DTerm×List DStmt×List DStmt:=(t.kind,t.name,t.term,t.body,t.els)
end DStmt
theorem DStmt.eta (t:DStmt):DStmt.mk t.kind t.name t.term t.body t.els=t:=by cases t;rfl
theorem DStmt.body_lt {t k:DStmt} (h:k∈t.body):SizeOf.sizeOf k<SizeOf.sizeOf t:=by
 cases t with
 | mk a b c l m=>
   have:k∈l:=h
   have:=List.sizeOf_lt_of_mem this
   simp only [DStmt.mk.sizeOf_spec];omega
theorem DStmt.els_lt {t k:DStmt} (h:k∈t.els):SizeOf.sizeOf k<SizeOf.sizeOf t:=by
 cases t with
 | mk a b c l m=>
   have:k∈m:=h
   have:=List.sizeOf_lt_of_mem this
   simp only [DStmt.mk.sizeOf_spec];omega
theorem DStmt.ind {p:DStmt→Prop} (h:∀ t,(∀ k∈t.body,p k)→(∀ k∈t.els,p k)→p t) (t:DStmt):p t:=
  h t (fun k hk=>DStmt.ind h k) (fun k hk=>DStmt.ind h k)
termination_by SizeOf.sizeOf t
decreasing_by
  · exact DStmt.body_lt hk
  exact DStmt.els_lt hk
def slc (n:Nat) (nl:Prop) (w:World) (F:List Nat) (c:Value) (C:List Nat→List Value→Prop):Prop:=
 ∃ a cap Fi xs,c=.slice a n cap∧n≤cap∧cap≤maxLen∧C Fi xs∧((nl∧F=[])∨∃ b o,a=some ⟨b,o,none⟩∧F=b :: Fi∧w.rangeAt b o xs∧b<w.heap.size)
theorem zri {n:Nat} {nl:Prop} {w:World} {F:List Nat} {c:Value} {C:List Nat→List Value→Prop} (h:slc n nl w F c C):c.oneCell'=true:=by
 obtain ⟨a,cap,Fi,xs,rfl,_⟩:=h;rfl
theorem zpD {w w':World} {b:Nat} (hb:b<w.heap.size) (h:w'.heap[b]?=w.heap[b]?):b<w'.heap.size:=by
 rcases Nat.lt_or_ge b (Array.size (World.heap w')) with h' | h'
 · exact h'
 rw [Array.getElem?_eq_none h'] at h
 simp [Array.getElem?_eq_getElem hb] at h
theorem zoK {n:Nat} {nl:Prop} {w w':World} {F:List Nat} {c:Value} {C C':List Nat→List Value→Prop} (h:slc n nl w F c C) (hk:∀ b∈F,w'.heap[b]?=w.heap[b]?)
   (hC:∀ Fi xs,C Fi xs→(∀ b∈Fi,w'.heap[b]?=w.heap[b]?)→C' Fi xs) (hN:nl→∀ Fi xs,C Fi xs→Fi=[]):slc n nl w' F c C':=by
 obtain ⟨a,cap,Fi,xs,hc,h1,h2,h3,h4⟩:=h
 rcases h4 with ⟨hn,rfl⟩ | ⟨b,o,ha,hF,hr,hb⟩
 · exact ⟨a,cap,Fi,xs,hc,h1,h2,hC _ _ h3 (fun b hb=>by rw [hN hn _ _ h3] at hb;cases hb),.inl ⟨hn,rfl⟩⟩
 subst hF
 have hbb:=hk b (by simp)
 exact ⟨a,cap,Fi,xs,hc,h1,h2,hC _ _ h3 fun c hc=>hk c (by simp [hc]),.inr ⟨b,o,ha,rfl,zaK hr hbb,zpD hb hbb⟩⟩
theorem ztD {n:Nat} {nl:Prop} {w:World} {F:List Nat} {c:Value} {C:List Nat→List Value→Prop} (h:slc n nl w F c C) (hC:∀ Fi xs,C Fi xs→∀ b∈Fi,b<w.heap.size):∀ b∈F,b<w.heap.size:=by
 obtain ⟨a,cap,Fi,xs,hc,h1,h2,h3,h4⟩:=h
 intro c hm
 rcases h4 with ⟨hn,rfl⟩ | ⟨b,o,ha,hF,hr,hb⟩
 · cases hm
 subst hF
 rcases List.mem_cons.1 hm with rfl | hm
 · exact hb
 exact hC _ _ h3 c hm
mutual
def zpE:DStmt→List Nat→World→List Value→Prop
  | .mk k s t bs es,F,w,cs=>∃ Ft ct Fb cb Fe ce,F=Ft++(Fb++Fe)∧cs=.int .i64 k :: .string s :: (ct++[cb,ce])∧I64 k∧s.size≤maxLen∧rep Ft w ct t ∧
    slc bs.length (bs=[]) w Fb cb (fun Fi xs=>zdG bs Fi w xs)∧slc es.length (es=[]) w Fe ce (fun Fi xs=>zdG es Fi w xs)
def zdG:List DStmt→List Nat→World→List Value→Prop
  | [],F,_,xs=>F=[]∧xs=[]
  | y :: ys,F,w,xs=>∃ F1 F2 c1 c2,F=F1++F2∧xs=c1++c2∧zpE y F1 w c1∧zdG ys F2 w c2
end
theorem zjV {l:List DStmt} (h:l=[]) {w:World} (Fi:List Nat) (xs:List Value) (hc:zdG l Fi w xs):Fi=[]:=by
 subst h;rw [zdG] at hc;exact hc.1
theorem zsU {t:DStmt} {F:List Nat} {w:World} {cs:List Value} (h:zpE t F w cs):cs.length=8:=by
 cases t;rw [zpE] at h;obtain ⟨Ft,ct,Fb,cb,Fe,ce,_,rfl,_,_,ht,_⟩:=h
 have:=Rep.len ht
 simp only [List.length_cons,List.length_append,List.length_nil,this];rfl
theorem zsV {t:DStmt} {F:List Nat} {w:World} {cs:List Value} (h:zpE t F w cs):∀ v∈cs,v.oneCell'=true:=by
 cases t;rw [zpE] at h;obtain ⟨Ft,ct,Fb,cb,Fe,ce,_,rfl,_,_,ht,hb,he⟩:=h
 intro v hv
 simp only [List.mem_cons,List.mem_append,List.not_mem_nil,or_false] at hv
 rcases hv with rfl | rfl | hv | rfl | rfl
 · rfl
 · rfl
 · exact Rep.one ht v hv
 · exact zri hb
 exact zri he
mutual
theorem zl8:∀ (t:DStmt) {F:List Nat} {w w':World} {cs:List Value},zpE t F w cs→(∀ b∈F,w'.heap[b]?=w.heap[b]?)→zpE t F w' cs
  | .mk k s t bs es,F,w,w',cs,h,hk=>by
    rw [zpE] at h ⊢
    obtain ⟨Ft,ct,Fb,cb,Fe,ce,hF,hcs,i1,i2,ht,hb,he⟩:=h
    subst hF
    exact ⟨Ft,ct,Fb,cb,Fe,ce,rfl,hcs,i1,i2,Rep.keep ht fun b hb=>hk b (by simp [hb]),
      zoK hb (fun b hb=>hk b (by simp [hb])) (fun Fi xs hc hx=>zgk bs hc hx) fun h=>zjV h,
      zoK he (fun b hb=>hk b (by simp [hb])) (fun Fi xs hc hx=>zgk es hc hx) fun h=>zjV h⟩
theorem zgk:∀ (l:List DStmt) {F:List Nat} {w w':World} {cs:List Value},zdG l F w cs→(∀ b∈F,w'.heap[b]?=w.heap[b]?)→zdG l F w' cs
  | [],F,w,w',cs,h,_=>by rw [zdG] at h ⊢;exact h
  | y :: ys,F,w,w',cs,h,hk=>by
    rw [zdG] at h ⊢
    obtain ⟨F1,F2,c1,c2,rfl,rfl,h1,h2⟩:=h
    exact ⟨F1,F2,c1,c2,rfl,rfl,zl8 y h1 fun b hb=>hk b (by simp [hb]),zgk ys h2 fun b hb=>hk b (by simp [hb])⟩
end
mutual
theorem zrj:∀ (t:DStmt) {F:List Nat} {w:World} {cs:List Value},zpE t F w cs→∀ b∈F,b<w.heap.size
  | .mk k s t bs es,F,w,cs,h,c,hm=>by
    rw [zpE] at h
    obtain ⟨Ft,ct,Fb,cb,Fe,ce,hF,hcs,i1,i2,ht,hb,he⟩:=h
    subst hF
    rcases List.mem_append.1 hm with hm | hm
    · exact Rep.lt ht c hm
    rcases List.mem_append.1 hm with hm | hm
    · exact ztD hb (fun Fi xs hc=>zi3 bs hc) c hm
    exact ztD he (fun Fi xs hc=>zi3 es hc) c hm
theorem zi3:∀ (l:List DStmt) {F:List Nat} {w:World} {cs:List Value},zdG l F w cs→∀ b∈F,b<w.heap.size
  | [],F,w,cs,h,c,hm=>by rw [zdG] at h;rw [h.1] at hm;cases hm
  | y :: ys,F,w,cs,h,c,hm=>by
    rw [zdG] at h
    obtain ⟨F1,F2,c1,c2,rfl,rfl,h1,h2⟩:=h
    rcases List.mem_append.1 hm with hm | hm
    · exact zrj y h1 c hm
    exact zi3 ys h2 c hm
end
instance:Rep DStmt where
 size:=8
 agg:=true
 rep F w cs x:=zpE x F w cs
 pos:=by decide
 sz h:=by cases h
 len h:=zsU h
 one h:=zsV h
 keep h hk:=zl8 _ h hk
 lt h:=zrj _ h
theorem zg2 {w:World}:∀ {l:List DStmt} {F:List Nat} {xs:List Value},zdG l F w xs↔Cells F w xs l
 | [],F,xs=>by rw [zdG];exact Iff.rfl
 | y :: ys,F,xs=>by
   rw [zdG]
   constructor
   · rintro ⟨F1,F2,c1,c2,h1,h2,h3,h4⟩;exact ⟨F1,F2,c1,c2,h1,h2,h3,zg2.1 h4⟩
   rintro ⟨F1,F2,c1,c2,h1,h2,h3,h4⟩;exact ⟨F1,F2,c1,c2,h1,h2,h3,zg2.2 h4⟩
theorem zkY {w:World} {F:List Nat} {c:Value} {l:List DStmt}:slc l.length (l=[]) w F c (fun Fi xs=>zdG l Fi w xs)↔rep F w [c] l:=by
 constructor
 · rintro ⟨a,cap,Fi,xs,rfl,h1,h2,h3,h4⟩
   exact ⟨a,cap,Fi,xs,rfl,h1,h2,zg2.1 h3,h4⟩
 rintro ⟨a,cap,Fi,xs,hc,h1,h2,h3,h4⟩
 exact ⟨a,cap,Fi,xs,by simpa using hc,h1,h2,zg2.2 h3,h4⟩
theorem zdu {w:World} {F:List Nat} {cs:List Value} {l:List DStmt} (h:rep F w cs l):∃ c,cs=[c]:=by
 obtain ⟨a,cap,Fi,xs,rfl,_⟩:=h;exact ⟨_,rfl⟩
theorem zdn {w:World} {F:List Nat} {cs:List Value} {t:DStmt}:rep F w cs t↔rep F w cs t.tup:=by
 obtain ⟨k,s,t,bs,es⟩:=t
 show zpE _ F w cs↔_
 rw [zpE]
 constructor
 · rintro ⟨Ft,ct,Fb,cb,Fe,ce,rfl,rfl,i1,i2,ht,hb,he⟩
   exact ⟨[],_,[.int .i64 k],_,rfl,rfl,⟨rfl,rfl,i1⟩,[],_,[.string s],_,rfl,rfl,⟨rfl,rfl,i2⟩,Ft,Fb++Fe,ct,[cb,ce],rfl,rfl,ht,Fb,Fe,[cb],[ce],rfl,rfl,zkY.1 hb,zkY.1 he⟩
 rintro ⟨_,_,_,_,rfl,rfl,⟨rfl,rfl,i1⟩,_,_,_,_,rfl,rfl,⟨rfl,rfl,i2⟩,Ft,_,ct,_,rfl,rfl,ht,Fb,Fe,c1,c2,rfl,rfl,hb,he⟩
 obtain ⟨cb,rfl⟩:=zdu hb
 obtain ⟨ce,rfl⟩:=zdu he
 exact ⟨Ft,ct,Fb,cb,Fe,ce,rfl,rfl,i1,i2,ht,zkY.2 hb,zkY.2 he⟩
theorem zrk {w:World} {b o:Nat} {t:DStmt}:At w b o t↔At w b o t.tup:=
 ⟨fun ⟨F,cs,h,k⟩=>⟨F,cs,zdn.1 h,k⟩,fun ⟨F,cs,h,k⟩=>⟨F,cs,zdn.2 h,k⟩⟩
theorem zoL {w:World} {G:List Nat} {b o:Nat} {t:DStmt}:OAt G w b o t↔OAt G w b o t.tup:=
 ⟨fun ⟨cs,h,k⟩=>⟨cs,zdn.1 h,k⟩,fun ⟨cs,h,k⟩=>⟨cs,zdn.2 h,k⟩⟩
section
variable {w:World} {b o:Nat} {x:DStmt}
theorem zcM (h:At w b o x):At w b (o+0) x.kind:=zcm (α:=Int) (β:=ByteArray×DTerm×List DStmt×List DStmt) (p:=x.tup) (zrk.1 h)
theorem zvt (h:At w b o x):At w b (o+1) (x.name,x.term,x.body,x.els):=za4 (α:=Int) (β:=ByteArray×DTerm×List DStmt×List DStmt) (p:=x.tup) (zrk.1 h)
theorem zbY (h:At w b o x):At w b (o+1) x.name:=zcm (α:=ByteArray) (β:=DTerm×List DStmt×List DStmt) (p:=(x.name,x.term,x.body,x.els)) (zvt h)
theorem zvu (h:At w b o x):At w b (o+2) (x.term,x.body,x.els):=za4 (α:=ByteArray) (β:=DTerm×List DStmt×List DStmt) (p:=(x.name,x.term,x.body,x.els)) (zvt h)
theorem zcx (h:At w b o x):At w b (o+2) x.term:=zcm (α:=DTerm) (β:=List DStmt×List DStmt) (p:=(x.term,x.body,x.els)) (zvu h)
theorem zvv (h:At w b o x):At w b (o+6) (x.body,x.els):=za4 (α:=DTerm) (β:=List DStmt×List DStmt) (p:=(x.term,x.body,x.els)) (zvu h)
theorem zcN (h:At w b o x):At w b (o+6) x.body:=zcm (α:=List DStmt) (β:=List DStmt) (p:=(x.body,x.els)) (zvv h)
theorem zcy (h:At w b o x):At w b (o+7) x.els:=za4 (α:=List DStmt) (β:=List DStmt) (p:=(x.body,x.els)) (zvv h)
theorem zrl {F0:List Nat} {c0:List Value} (h0:rep F0 w c0 x.kind) {F1:List Nat} {c1:List Value} (h1:rep F1 w c1 x.name) {F2:List Nat} {c2:List Value} (h2:rep F2 w c2 x.term) {F3:List Nat} {c3:List Value} (h3:rep F3 w c3 x.body) {F4:List Nat} {c4:List Value} (h4:rep F4 w c4 x.els) :
   rep (F0++(F1++(F2++(F3++F4)))) w (c0++(c1++(c2++(c3++c4)))) x:=zdn.2 (zat h0 (zat h1 (zat h2 (zat h3 h4))))
end
theorem Lens.stmt {w:World} {γ:Type} {H:List Nat→World→γ→Prop} {F:List Nat} {b o:Nat} {G:List Nat} {t:DStmt} {upd:DStmt→γ} (h:Lens H F w b o G t upd) :
   Lens H F w b o G t.tup (fun p=>upd (.mk p.1 p.2.1 p.2.2.1 p.2.2.2.1 p.2.2.2.2)):=
 ⟨zoL.1 h.here,h.sub,fun w' G' y' hc hO hs=>h.back w' G' _ hc (zoL.2 hO) hs⟩
instance:RepZ DStmt:=⟨.mk 0 ByteArray.empty RepZ.zv [] [],RepZ.zc (Int×ByteArray×DTerm×List DStmt×List DStmt),fun w=>zdn.2 (RepZ.zr (α:=Int×ByteArray×DTerm×List DStmt×List DStmt) w)⟩
section
variable {γ:Type} {H:List Nat→World→γ→Prop} {F:List Nat} {w:World} {b o:Nat} {G:List Nat} {x:DStmt} {upd:DStmt→γ}
theorem zl9 (h:Lens H F w b o G x upd):∃ G1,Lens H F w b (o+1) G1 x.name (fun y=>upd (.mk x.kind y x.term x.body x.els)):=by
 obtain ⟨G1,h1⟩:=h.stmt.snd;obtain ⟨G2,h2⟩:=h1.fst;exact ⟨G2,h2⟩
theorem zhP (h:Lens H F w b o G x upd):∃ G1,Lens H F w b (o+6) G1 x.body (fun y=>upd (.mk x.kind x.name x.term y x.els)):=by
 obtain ⟨G1,h1⟩:=h.stmt.snd;obtain ⟨G2,h2⟩:=h1.snd;obtain ⟨G3,h3⟩:=h2.snd;obtain ⟨G4,h4⟩:=h3.fst;exact ⟨G4,h4⟩
theorem zfq (h:Lens H F w b o G x upd):∃ G1,Lens H F w b (o+7) G1 x.els (fun y=>upd (.mk x.kind x.name x.term x.body y)):=by
 obtain ⟨G1,h1⟩:=h.stmt.snd;obtain ⟨G2,h2⟩:=h1.snd;obtain ⟨G3,h3⟩:=h2.snd;obtain ⟨G4,h4⟩:=h3.snd;exact ⟨G4,h4⟩
end
structure DProc where
 name:ByteArray
 body:List DStmt
theorem DProc.ext_iff {x y:DProc}:x=y↔(x.name=y.name∧x.body=y.body):=⟨fun h=>by rw [h];exact ⟨rfl,rfl⟩,fun h=>by obtain ⟨h0,h1⟩:=h;cases x;cases y;simp only at h0 h1;simp only [h0,h1]⟩
instance:Rep DProc:=Rep.via fun x=>(x.name,x.body)
theorem zjW {w:World} {b o:Nat} {x:DProc} (h:At w b o x):At w b (o+0) x.name:=zcm (α:=ByteArray) (β:=(List DStmt)) (p:=(x.name,x.body)) h
theorem zjX {w:World} {b o:Nat} {x:DProc} (h:At w b o x):At w b (o+1) x.body:=za4 (α:=ByteArray) (β:=(List DStmt)) (p:=(x.name,x.body)) h
instance:RepZ DProc:=⟨⟨(RepZ.zv:ByteArray),(RepZ.zv:List DStmt)⟩,RepZ.zc (ByteArray×(List DStmt)),fun w=>RepZ.zr (α:=ByteArray×(List DStmt)) w⟩
theorem zma {γ:Type} {H:List Nat→World→γ→Prop} {F:List Nat} {w:World} {b o:Nat} {G:List Nat} {x:DProc} {upd:DProc→γ} (h:Lens H F w b o G x upd) :
   ∃ G1,Lens H F w b (o+1) G1 x.body (fun y=>upd ⟨x.name,y⟩):=by
 have h':Lens H F w b o G (x.name,x.body) (fun p:ByteArray×(List DStmt)=>upd ⟨p.1,p.2⟩):=⟨h.here,h.sub,fun w' G' y' hc hO hs=>h.back w' G' _ hc hO hs⟩
 obtain ⟨G0,h'⟩:=h'.snd
 exact ⟨_,h'⟩
structure DProg where
 globals:List ByteArray
 locks:List ByteArray
 procs:List DProc
theorem DProg.ext_iff {x y:DProg}:x=y↔(x.globals=y.globals∧x.locks=y.locks∧x.procs=y.procs):=⟨fun h=>by rw [h];exact ⟨rfl,rfl,rfl⟩,fun h=>by obtain ⟨h0,h1,h2⟩:=h;cases x;cases y;simp only at h0 h1 h2;simp only [h0,h1,h2]⟩
instance:Rep DProg:=Rep.via fun x=>(x.globals,x.locks,x.procs)
theorem zeE {w:World} {b o:Nat} {x:DProg} (h:At w b o x):At w b (o+0) x.globals:=zcm (α:=List ByteArray) (β:=(List ByteArray)×(List DProc)) (p:=(x.globals,x.locks,x.procs)) h
theorem zfR {w:World} {b o:Nat} {x:DProg} (h:At w b o x):At w b (o+1) x.locks:=zcm (α:=List ByteArray) (β:=(List DProc)) (p:=(x.locks,x.procs)) (za4 (α:=List ByteArray) (β:=(List ByteArray)×(List DProc)) (p:=(x.globals,x.locks,x.procs)) h)
theorem zdQ {w:World} {b o:Nat} {x:DProg} (h:At w b o x):At w b (o+2) x.procs:=za4 (α:=List ByteArray) (β:=(List DProc)) (p:=(x.locks,x.procs)) (za4 (α:=List ByteArray) (β:=(List ByteArray)×(List DProc)) (p:=(x.globals,x.locks,x.procs)) h)
instance:RepZ DProg:=⟨⟨(RepZ.zv:List ByteArray),(RepZ.zv:List ByteArray),(RepZ.zv:List DProc)⟩,RepZ.zc ((List ByteArray)×(List ByteArray)×(List DProc)),fun w=>RepZ.zr (α:=(List ByteArray)×(List ByteArray)×(List DProc)) w⟩
theorem zmb {γ:Type} {H:List Nat→World→γ→Prop} {F:List Nat} {w:World} {b o:Nat} {G:List Nat} {x:DProg} {upd:DProg→γ} (h:Lens H F w b o G x upd) :
   ∃ G1,Lens H F w b (o+2) G1 x.procs (fun y=>upd ⟨x.globals,x.locks,y⟩):=by
 have h':Lens H F w b o G (x.globals,x.locks,x.procs) (fun p:(List ByteArray)×(List ByteArray)×(List DProc)=>upd ⟨p.1,p.2.1,p.2.2⟩):=⟨h.here,h.sub,fun w' G' y' hc hO hs=>h.back w' G' _ hc hO hs⟩
 obtain ⟨G0,h'⟩:=h'.snd
 obtain ⟨G1,h'⟩:=h'.snd
 exact ⟨_,h'⟩
section
variable {w:World} {lo hi:Nat}
theorem zfr {k n:Int} {s:ByteArray} {v:Value} {l:List DTerm} (hk:I64 k) (hn:I64 n) (hs:s.size≤maxLen) (h:OwnI lo hi w v l):OwnI lo hi w (.agg #[.int .i64 k,.int .i64 n,.string s,v]) (DTerm.mk k n s l):=by
 obtain ⟨F,⟨⟨cs,hr,rfl⟩,hnd,hw⟩,hF⟩:=h
 obtain ⟨a,cap,Fi,xs,rfl,h1,h2,hc,h4⟩:=hr
 exact ⟨F,⟨⟨_,zql (x:=.mk k n s l) (F0:=[]) (F1:=[]) (F2:=[]) ⟨rfl,rfl,hk⟩ ⟨rfl,rfl,hn⟩ ⟨rfl,rfl,hs⟩ ⟨a,cap,Fi,xs,rfl,h1,h2,hc,h4⟩,rfl⟩,hnd,hw⟩,hF⟩
theorem zfS {v:Value} {t:DTerm} (h:Is w v t):∃ a cap,v=.agg #[.int .i64 t.kind,.int .i64 t.num,.string t.name,.slice a t.kids.length cap]:=by
 obtain ⟨F,cs,hr,rfl⟩:=h
 obtain ⟨k,n,s,ks⟩:=t
 rw [show rep F w cs (DTerm.mk k n s ks)=zmX (.mk k n s ks) F w cs from rfl,zmX] at hr
 obtain ⟨a,cap,Fi,xs,rfl,_⟩:=hr
 exact ⟨a,cap,rfl⟩
theorem zrm {k:Int} {s:ByteArray} {t:DTerm} {vb ve:Value} {bs es:List DStmt} {tc:Array Value} {l0 h0 l1 h1 l2 h2:Nat} (hk:I64 k) (hs:s.size≤maxLen) (ht:OwnI l0 h0 w (.agg tc) t) (hb:OwnI l1 h1 w vb bs) (he:OwnI l2 h2 w ve es)
   (d01:h0≤l1∨h1≤l0) (d02:h0≤l2∨h2≤l0) (d12:h1≤l2∨h2≤l1) (b0:lo≤l0∧h0≤hi) (b1:lo≤l1∧h1≤hi) (b2:lo≤l2∧h2≤hi) :
   OwnI lo hi w (.agg ([Value.int .i64 k,Value.string s]++tc.toList++[vb,ve]).toArray) (DStmt.mk k s t bs es):=by
 obtain ⟨F0,⟨⟨c0,r0,e0⟩,n0,w0⟩,B0⟩:=ht
 obtain ⟨F1,⟨⟨c1,r1,e1⟩,n1,w1⟩,B1⟩:=hb
 obtain ⟨F2,⟨⟨c2,r2,e2⟩,n2,w2⟩,B2⟩:=he
 have ht0:tc.toList=c0:=by
   simp only [mkv,Rep.agg,cond_true,Value.agg.injEq] at e0
   rw [e0]
 obtain ⟨cb,rfl⟩:=zdu r1
 obtain ⟨ce,rfl⟩:=zdu r2
 simp only [mkv,Rep.agg,cond_false,List.headD_cons] at e1 e2
 subst e1 e2
 refine ⟨F0++(F1++F2),⟨⟨_,zrl (x:=.mk k s t bs es) (F0:=[]) (F1:=[]) ⟨rfl,rfl,hk⟩ ⟨rfl,rfl,hs⟩ r0 r1 r2,?_⟩,?_,w0.append (w1.append w2)⟩,fun x hx=>?_⟩
 · rw [ht0];simp [mkv,Rep.agg,DStmt.kind,DStmt.name]
 · rw [List.nodup_append,List.nodup_append]
   refine ⟨n0,⟨n1,n2,fun p hp q hq e=>?_⟩,fun p hp q hq e=>?_⟩
   · subst e;have:=B1 p hp;have:=B2 p hq;omega
   subst e
   have:=B0 p hp
   rcases List.mem_append.1 hq with hq | hq
   · have:=B1 p hq;omega
   have:=B2 p hq;omega
 rcases List.mem_append.1 hx with hx | hx
 · have:=B0 x hx;omega
 rcases List.mem_append.1 hx with hx | hx
 · have:=B1 x hx;omega
 have:=B2 x hx;omega
end
end Go.Sh
namespace Go.Sh
open Rep (rep)
def zmD (x:Int):Int:=IntKind.i64.wrap x
def zpF (a b:Int):Int:=zmD ((BitVec.ofInt 64 a &&& BitVec.ofInt 64 b).toNat:Nat)
def zv7 (a b:Int):Int:=zmD ((BitVec.ofInt 64 a ^^^ BitVec.ofInt 64 b).toNat:Nat)
def zvw (a:Int) (n:Nat):Int:=a.fdiv (2^(min n 64))
theorem zun (x:Int):I64 (zmD x):=by
 have e:zmD x=if x%18446744073709551616≥9223372036854775808 then x%18446744073709551616-18446744073709551616 else x%18446744073709551616:=by
   simp [zmD,IntKind.wrap,IntKind.signed,IntKind.bits]
 unfold I64
 rw [e]
 split<;>omega
theorem zrn {x:Int} (h:I64 x):zmD x=x:=IntWalk.i64_in _ h
theorem zkZ (a:Int) {n:Nat} (hn:n<9223372036854775808):0≤zpF a n∧zpF a n≤n:=by
 have h1:(BitVec.ofInt 64 a &&& BitVec.ofInt 64 (n:Int)).toNat≤n:=by
   rw [BitVec.toNat_and]
   refine Nat.le_trans Nat.and_le_right ?_
   rw [BitVec.ofInt_natCast,BitVec.toNat_ofNat,Nat.mod_eq_of_lt (by omega)]
   exact Nat.le_refl _
 unfold zpF
 rw [zrn (by unfold I64;omega)]
 omega
section
variable {P:Program} {w:World} {K:Value→Prop} {t:TypeId} {x y:Operand} {a b:Int}
theorem zro (k:K (.int .i64 (zmD (a+b)))):RD P (bin .add t x y (.int .i64 a) (.int .i64 b)) w K:=
 zaQ (fun w' _=>by simp [bin,eqGuard,binOp,Op.intArith,zmD]) k
theorem zuo (k:K (.int .i64 (zmD (a*b)))):RD P (bin .mul t x y (.int .i64 a) (.int .i64 b)) w K:=
 zaQ (fun w' _=>by simp [bin,eqGuard,binOp,Op.intArith,zmD]) k
theorem znD (k:K (.int .i64 (zpF a b))):RD P (bin .and t x y (.int .i64 a) (.int .i64 b)) w K:=by
 refine zaQ (fun w' _=>?_) k
 show (do eqGuard .and t x y (.int .i64 a) (.int .i64 b);binOp .and t (.int .i64 a) (.int .i64 b):Sem Value).run P w'=_
 simp only [eqGuard,binOp,Op.intBits]
 rfl
theorem zup (k:K (.int .i64 (zv7 a b))):RD P (bin .xor t x y (.int .i64 a) (.int .i64 b)) w K:=by
 refine zaQ (fun w' _=>?_) k
 show (do eqGuard .xor t x y (.int .i64 a) (.int .i64 b);binOp .xor t (.int .i64 a) (.int .i64 b):Sem Value).run P w'=_
 simp only [eqGuard,binOp,Op.intBits]
 rfl
theorem zrp {n:Nat} {ku:IntKind} (k:K (.int .i64 (zvw a n))):RD P (bin .shr t x y (.int .i64 a) (.int ku (n:Int))) w K:=by
 refine zaQ (fun w' _=>?_) k
 have e0:¬((n:Int)<0):=by omega
 show (do eqGuard .shr t x y (.int .i64 a) (.int ku (n:Int));binOp .shr t (.int .i64 a) (.int ku (n:Int)):Sem Value).run P w'=_
 simp only [eqGuard,binOp,Op.shift,e0,if_false,Int.toNat_natCast]
 rfl
theorem zrq {src dst:TypeId} {n:Nat} (hs:(P.underlying src).isSome=true) (hd:P.underlying dst=some (.int .i64)) (hn:n<256) (k:K (.int .i64 (n:Int))):RD P (convert src dst (.int .u8 (n:Int))) w K:=by
 refine zaQ (fun w' _=>?_) k
 obtain ⟨d,hd'⟩:=Option.isSome_iff_exists.mp hs
 have:IntKind.i64.wrap (n:Int)=n:=IntWalk.i64_in _ (by omega)
 simp [convert,run_underlying hd',run_underlying hd,Conv.intToInt,this]
end
theorem zrr {a n:Int} (h0:0≤a) (hn:0<n):0≤a.tmod n∧a.tmod n<n:=by
 rw [Int.tmod_eq_emod_of_nonneg h0]
 exact ⟨Int.emod_nonneg _ (by omega),Int.emod_lt_of_pos _ hn⟩
end Go.Sh
namespace Go.Proofs.YtcnglfeoglgebaaGreat
open Go Go.Sh Go.Proofs
open Rep (rep)
structure Cur where
 i:Nat
 h:Int
def zpG (h:Int):Int:=zmD (zmD (h*6364136223846793005)+1442695040888963407)
def zsW (h:Int):Int:=zpF (zv7 (zvw h 33) (zvw h 45)) 255
def zhu (bs:List UInt8) (s:Cur):Int:=match bs[s.i]? with
 | some b=>zpF (zsW (zpG s.h)+(b.toNat:Int)) 255
 | none=>zsW (zpG s.h)
def zc0 (bs:List UInt8) (s:Cur):Cur:=⟨if s.i<bs.length then s.i+1 else s.i,zpG s.h⟩
theorem zej (bs:List UInt8) (s:Cur):0≤zhu bs s∧zhu bs s≤255:=by
 unfold zhu zsW
 split
 · exact zkZ _ (n:=255) (by omega)
 exact zkZ _ (n:=255) (by omega)
def zwt (a b c d:Int):Int:=a*16777216+b*65536+c*256+d
def zbg (bs:List UInt8) (n:Int) (s:Cur):Int:=
 if n≤0 then 0 else if n≤256 then (zhu bs s).tmod n
 else (zwt (zhu bs s) (zhu bs (zc0 bs s)) (zhu bs (zc0 bs (zc0 bs s))) (zhu bs (zc0 bs (zc0 bs (zc0 bs s))))).tmod n
def zal (bs:List UInt8) (n:Int) (s:Cur):Cur:=
 if n≤0 then s else if n≤256 then zc0 bs s else zc0 bs (zc0 bs (zc0 bs (zc0 bs s)))
theorem zb8 (bs:List UInt8) {n:Int} (hn:0<n) (s:Cur):0≤zbg bs n s∧zbg bs n s<n:=by
 have h1:=zej bs s
 have h2:=zej bs (zc0 bs s)
 have h3:=zej bs (zc0 bs (zc0 bs s))
 have h4:=zej bs (zc0 bs (zc0 bs (zc0 bs s)))
 unfold zbg
 rw [if_neg (by omega)]
 split
 · exact zrr h1.1 hn
 exact zrr (by unfold zwt;omega) hn
theorem zoM (bs:List UInt8) {n:Nat} (hn:0<n) (s:Cur):(zbg bs (n:Int) s).toNat<n:=by
 have:=zb8 bs (n:=(n:Int)) (by omega) s;omega
def zct (bs:List UInt8) (l:List ByteArray) (s:Cur):ByteArray:=l.getD (zbg bs (l.length:Int) s).toNat (ByteArray.mk #[])
def zhv (bs:List UInt8) (l:List Int) (s:Cur):Int:=l.getD (zbg bs (l.length:Int) s).toNat 0
theorem zk0 {α:Type} {l:List α} {i:Nat} {d:α} (h:i<l.length):l.getD i d∈l:=by
 rw [List.getD_eq_getElem?_getD,List.getElem?_eq_getElem h];exact List.getElem_mem h
theorem zdv (bs:List UInt8) {l:List ByteArray} (h:0<l.length) (s:Cur):zct bs l s∈l:=zk0 (zoM bs h s)
theorem zi4 (bs:List UInt8) {l:List Int} (h:0<l.length) (s:Cur):zhv bs l s∈l:=zk0 (zoM bs h s)
def nX:ByteArray:=ByteArray.mk #[120]
def nY:ByteArray:=ByteArray.mk #[121]
def nZ:ByteArray:=ByteArray.mk #[122]
def nU:ByteArray:=ByteArray.mk #[117]
def nA:ByteArray:=ByteArray.mk #[97]
def nB:ByteArray:=ByteArray.mk #[98]
def nM:ByteArray:=ByteArray.mk #[109]
def nP:ByteArray:=ByteArray.mk #[112]
def nQ:ByteArray:=ByteArray.mk #[113]
def nR:ByteArray:=ByteArray.mk #[114]
def nO:ByteArray:=ByteArray.mk #[]
def zuq:List Int:=[0,1,2,3,7,999,1000,1000000000]
def zpZ:List ByteArray:=[nX,nY,nZ,nX,nU]
def opL:List Int:=[3,4,5,6,7,9]
def glb:List ByteArray:=[nX,nY,nZ,nU]
def lks:List ByteArray:=[nA,nB,nM]
def zrs:List ByteArray:=[nX,nY,nZ]
def zmc:List ByteArray:=[nP,nQ,nR]
def prc4:List ByteArray:=[zgd,nP,nQ,nR]
def zd8 (bs:List UInt8) (d:Nat) (s:Cur):Int:=if d=0∧6≤zbg bs 12 s then zbg bs 12 s-6 else zbg bs 12 s
def zaq (bs:List UInt8):Nat→Cur→DTerm×Cur
 | 0,s=>
   if zd8 bs 0 s<3 then (.mk 1 (zhv bs zuq (zal bs 12 s)) nO [],zal bs 8 (zal bs 12 s))
   else (.mk 2 0 (zct bs zpZ (zal bs 12 s)) [],zal bs 5 (zal bs 12 s))
 | d+1,s=>
   if zd8 bs (d+1) s<3 then (.mk 1 (zhv bs zuq (zal bs 12 s)) nO [],zal bs 8 (zal bs 12 s))
   else if zd8 bs (d+1) s<6 then (.mk 2 0 (zct bs zpZ (zal bs 12 s)) [],zal bs 5 (zal bs 12 s))
   else if zd8 bs (d+1) s=6 then (.mk 8 0 nO [(zaq bs d (zal bs 12 s)).1],(zaq bs d (zal bs 12 s)).2)
   else (.mk (zhv bs opL (zal bs 12 s)) 0 nO [(zaq bs d (zal bs 6 (zal bs 12 s))).1,(zaq bs d (zaq bs d (zal bs 6 (zal bs 12 s))).2).1],
     (zaq bs d (zaq bs d (zal bs 6 (zal bs 12 s))).2).2)
theorem zur (bs:List UInt8) (s:Cur):0≤zd8 bs 0 s∧zd8 bs 0 s<6:=by
 have:=zb8 bs (n:=12) (by omega) s
 unfold zd8
 split<;>omega
theorem zoN {x:ByteArray} (h:x∈zpZ):x∈glb:=by
 simp only [zpZ,List.mem_cons,List.not_mem_nil,or_false] at h
 rcases h with rfl | rfl | rfl | rfl | rfl<;>decide
theorem zk1 {x:ByteArray} (h:x∈glb):zbb x=true:=by
 simp only [glb,List.mem_cons,List.not_mem_nil,or_false] at h
 rcases h with rfl | rfl | rfl | rfl<;>decide
theorem zk2 {x:ByteArray} (h:x∈lks):zbb x=true:=by
 simp only [lks,List.mem_cons,List.not_mem_nil,or_false] at h
 rcases h with rfl | rfl | rfl<;>decide
theorem zus {n:Int} (h:n∈zuq):0≤n∧n≤1000000000:=by
 simp only [zuq,List.mem_cons,List.not_mem_nil,or_false] at h
 omega
theorem ztE {n:Int} (h:n∈opL):3≤n∧n≤9∧n≠8:=by
 simp only [opL,List.mem_cons,List.not_mem_nil,or_false] at h
 omega
theorem zrt (bs:List UInt8) (n:Nat) (s:Cur):zaL n (.mk 1 (zhv bs zuq s) nO [])=true:=by
 rw [zdI rfl]
 have:=zus (zi4 bs (l:=zuq) (by decide) s)
 simp [DTerm.num,DTerm.name,DTerm.kids,this,nO]
theorem zru (bs:List UInt8) (n:Nat) (s:Cur):zaL n (.mk 2 0 (zct bs zpZ s) [])=true:=by
 rw [zeU rfl]
 have:=zk1 (zoN (zdv bs (l:=zpZ) (by decide) s))
 simp [DTerm.num,DTerm.name,DTerm.kids,this]
theorem zgl (bs:List UInt8):∀ (d n:Nat) (s:Cur),d≤n→zaL n (zaq bs d s).1=true
 | 0,n,s,_=>by
   rw [zaq]
   split
   · exact zrt bs n _
   exact zru bs n _
 | d+1,0,s,h=>absurd h (by omega)
 | d+1,n+1,s,h=>by
   rw [zaq]
   split
   · exact zrt bs _ _
   split
   · exact zru bs _ _
   split
   · rw [zba (by show ¬(8:Int)=1;omega) (by show ¬(8:Int)=2;omega)]
     simp [DTerm.kind,DTerm.num,DTerm.name,DTerm.kids,nO,zgl bs d n _ (by omega)]
   have:=ztE (zi4 bs (l:=opL) (by decide) (zal bs 12 s))
   generalize zhv bs opL (zal bs 12 s)=k at *
   rw [zba (by simp only [DTerm.kind];omega) (by simp only [DTerm.kind];omega)]
   simp [DTerm.kind,DTerm.num,DTerm.name,DTerm.kids,nO,zgl bs d n _ (by omega:d≤n),this.1,this.2.1,this.2.2]
theorem zsX {l:List ByteArray} {s x:ByteArray} (h:x∈zpW l s):x∈l∨x=s:=by
 unfold zpW at h
 split at h
 · exact .inl h
 simpa using h
theorem zju (bs:List UInt8):∀ (d n:Nat) (s:Cur) (l:List ByteArray) (x:ByteArray),d≤n→x∈readsT n (zaq bs d s).1 l→x∈l∨x∈glb:=by
 have h1:∀ n k l x,x∈readsT n (.mk 1 k nO []) l→x∈l:=by
   intro n k l x h
   rw [zda,if_neg (by show ¬(1:Int)=2;omega)] at h
   cases n with
   | zero=>exact h
   | succ n=>exact h
 have h2:∀ n s l x,x∈readsT n (.mk 2 0 (zct bs zpZ s) []) l→x∈l∨x∈glb:=by
   intro n s l x h
   rw [zh7 rfl] at h
   rcases zsX h with h | rfl
   · exact .inl h
   exact .inr (zoN (zdv bs (by decide) s))
 intro d
 induction d with
 | zero=>
   intro n s l x _ h
   rw [zaq] at h
   split at h
   · exact .inl (h1 _ _ _ _ h)
   exact h2 _ _ _ _ h
 | succ d ih=>
   intro n s l x hd h
   obtain ⟨n,rfl⟩:∃ m,n=m+1:=⟨n-1,by omega⟩
   rw [zaq] at h
   split at h
   · exact .inl (h1 _ _ _ _ h)
   split at h
   · exact h2 _ _ _ _ h
   split at h
   · rw [zda,if_neg (by show ¬(8:Int)=2;omega)] at h
     simp only [DTerm.kids,List.foldl_cons,List.foldl_nil] at h
     exact ih n _ _ _ (by omega) h
   have hk:=ztE (zi4 bs (l:=opL) (by decide) (zal bs 12 s))
   generalize zhv bs opL (zal bs 12 s)=k at *
   rw [zda,if_neg (by show ¬k=2;omega)] at h
   simp only [DTerm.kids,List.foldl_cons,List.foldl_nil] at h
   rcases ih n _ _ _ (by omega) h with h | h
   · exact ih n _ _ _ (by omega) h
   exact .inr h
theorem zpH (k n:Int) (s:ByteArray) (l:List DTerm):wT (.mk k n s l)=s.size+(l.length+sm wT l):=by
 rw [zt3,zqr];rfl
theorem zpI (bs:List UInt8):∀ (d:Nat) (s:Cur),wT (zaq bs d s).1+2≤3*2^d:=by
 have h0:nO.size=0:=rfl
 have h2:∀ s,(zct bs zpZ s).size≤1:=fun s=>by
   have:=zdv bs (l:=zpZ) (by decide) s
   generalize zct bs zpZ s=x at *
   simp only [zpZ,List.mem_cons,List.not_mem_nil,or_false] at this
   rcases this with rfl | rfl | rfl | rfl | rfl<;>decide
 intro d
 induction d with
 | zero=>
   intro s
   rw [zaq]
   split
   · rw [zpH];simp [h0,sm]
   rw [zpH];have:=h2 (zal bs 12 s);simp [sm];omega
 | succ d ih=>
   intro s
   have hp:1≤2^d:=Nat.one_le_two_pow
   rw [zaq,Nat.pow_succ]
   split
   · rw [zpH];simp [h0,sm];omega
   split
   · rw [zpH];have:=h2 (zal bs 12 s);simp [sm];omega
   split
   · rw [zpH];have:=ih (zal bs 12 s);simp [sm,h0];omega
   rw [zpH];have:=ih (zal bs 6 (zal bs 12 s));have:=ih (zaq bs d (zal bs 6 (zal bs 12 s))).2;simp [sm,h0];omega
def TmR (gl:List ByteArray) (t:DTerm):Prop:=zaL 6 t=true∧(∀ s∈zbl t,s∈gl)∧wT t≤24
theorem zfT (bs:List UInt8) {d:Nat} (hd:d≤3) (s:Cur):TmR glb (zaq bs d s).1:=by
 have h:=zgl bs d 6 s (by omega)
 refine ⟨h,fun x hx=>?_,?_⟩
 · unfold zbl at hx
   rw [if_pos h] at hx
   rcases zju bs d 6 s [] x (by omega) hx with h | h
   · cases h
   exact h
 have h1:=zpI bs d s
 have h2:2^d≤2^3:=Nat.pow_le_pow_right (by omega) hd
 omega
def zeF (bs:List UInt8) (d:Nat) (s:Cur):Int:=if d=0∧11≤zbg bs 14 s then zbg bs 14 s-6 else zbg bs 14 s
def zfs (bs:List UInt8) (k:Int) (s:Cur):DStmt×Cur:=
 if k<4 then (.mk 1 (zct bs zrs s) (zaq bs 2 (zal bs 3 s)).1 [] [],(zaq bs 2 (zal bs 3 s)).2)
 else if k<6 then (.mk 6 (zct bs lks s) term0 [] [],zal bs 3 s)
 else if k<8 then (.mk 7 (zct bs lks s) term0 [] [],zal bs 3 s)
 else if k=8 then (.mk 4 (zct bs zmc s) term0 [] [],zal bs 3 s)
 else if k=9 then (.mk 5 (zct bs zmc s) term0 [] [],zal bs 3 s)
 else (.mk 8 nO term0 [] [],s)
def zdf (f:Cur→DStmt×Cur) (bs:List UInt8):Nat→Nat→Cur→List DStmt×Cur
 | 0,_,s=>([],s)
 | n+1,i,s=>
   if (i:Int)<zbg bs 4 s then ((f (zal bs 4 s)).1 :: (zdf f bs n (i+1) (f (zal bs 4 s)).2).1,(zdf f bs n (i+1) (f (zal bs 4 s)).2).2)
   else ([],zal bs 4 s)
def zjY (bs:List UInt8) (f:Cur→DStmt×Cur) (k:Int) (s:Cur):DStmt×Cur:=
 if k=11 then (.mk 3 nO (zaq bs 1 s).1 (zdf f bs 4 0 (zaq bs 1 s).2).1 [],(zdf f bs 4 0 (zaq bs 1 s).2).2)
 else if zbg bs 2 (zdf f bs 4 0 (zaq bs 1 s).2).2=0 then
   (.mk 2 nO (zaq bs 1 s).1 (zdf f bs 4 0 (zaq bs 1 s).2).1 (zdf f bs 4 0 (zal bs 2 (zdf f bs 4 0 (zaq bs 1 s).2).2)).1,
     (zdf f bs 4 0 (zal bs 2 (zdf f bs 4 0 (zaq bs 1 s).2).2)).2)
 else (.mk 2 nO (zaq bs 1 s).1 (zdf f bs 4 0 (zaq bs 1 s).2).1 [],zal bs 2 (zdf f bs 4 0 (zaq bs 1 s).2).2)
def zbr (bs:List UInt8):Nat→Cur→DStmt×Cur
 | 0,s=>zfs bs (zeF bs 0 s) (zal bs 14 s)
 | d+1,s=>if zeF bs (d+1) s<11 then zfs bs (zeF bs (d+1) s) (zal bs 14 s) else zjY bs (zbr bs d) (zeF bs (d+1) s) (zal bs 14 s)
def zaZ (bs:List UInt8) (d:Nat) (s:Cur):List DStmt×Cur:=zdf (zbr bs d) bs 4 0 s
theorem zut (bs:List UInt8) (s:Cur):0≤zeF bs 0 s∧zeF bs 0 s<11:=by
 have:=zb8 bs (n:=14) (by omega) s
 unfold zeF
 split<;>omega
structure Scp where
 gl:List ByteArray
 lk:List ByteArray
 pr:List ByteArray
abbrev dS (pr:List ByteArray):Scp:=⟨glb,lks,pr⟩
def St0 (c:Scp) (t:DStmt):Prop:=(t.kind=1∧t.name∈c.gl∧TmR c.gl t.term∧t.body=[]∧t.els=[])∨((t.kind=4∨t.kind=5)∧t.name∈c.pr∧t.term=term0∧t.body=[]∧t.els=[]) ∨
   ((t.kind=6∨t.kind=7)∧t.name∈c.lk∧t.term=term0∧t.body=[]∧t.els=[])∨(t.kind=8∧t.name=nO∧t.term=term0∧t.body=[]∧t.els=[])
def StR (c:Scp):Nat→DStmt→Prop
 | 0,t=>St0 c t
 | n+1,t=>St0 c t∨((t.kind=2∨t.kind=3∧t.els=[])∧t.name=nO∧TmR c.gl t.term∧(∀ x∈t.body,StR c n x)∧∀ x∈t.els,StR c n x)
theorem StR.base {c:Scp}:∀ {n:Nat} {t:DStmt},St0 c t→StR c n t
 | 0,t,h=>by rw [StR];exact h
 | n+1,t,h=>by rw [StR];exact .inl h
theorem StR.more {c:Scp} {n:Nat} {t:DStmt} (h1:t.kind=2∨t.kind=3∧t.els=[]) (h2:t.name=nO) (h3:TmR c.gl t.term) (h4:∀ x∈t.body,StR c n x) (h5:∀ x∈t.els,StR c n x):StR c (n+1) t:=by
 rw [StR];exact .inr ⟨h1,h2,h3,h4,h5⟩
theorem StR.zero {c:Scp} {t:DStmt} (h:StR c 0 t):St0 c t:=by rw [StR] at h;exact h
theorem StR.succ {c:Scp} {n:Nat} {t:DStmt} (h:StR c (n+1) t):St0 c t∨((t.kind=2∨t.kind=3∧t.els=[])∧t.name=nO∧TmR c.gl t.term∧(∀ x∈t.body,StR c n x)∧∀ x∈t.els,StR c n x):=by
 rw [StR] at h;exact h
theorem StR.mono {c:Scp}:∀ {n m:Nat} {t:DStmt},n≤m→StR c n t→StR c m t
 | 0,m,_,_,h=>StR.base h.zero
 | n+1,0,_,h,_=>absurd h (by omega)
 | n+1,m+1,t,hn,h=>by
   rcases h.succ with h | ⟨h1,h2,h3,h4,h5⟩
   · exact StR.base h
   exact StR.more h1 h2 h3 (fun x hx=>(h4 x hx).mono (by omega)) fun x hx=>(h5 x hx).mono (by omega)
theorem zoO (bs:List UInt8) (k:Int) (s:Cur):St0 (dS zmc) (zfs bs k s).1:=by
 unfold zfs
 have hs:=zdv bs (l:=zrs) (by decide) s
 have hl:=zdv bs (l:=lks) (by decide) s
 have hp:=zdv bs (l:=zmc) (by decide) s
 have hg:zct bs zrs s∈glb:=by
   generalize zct bs zrs s=x at *
   simp only [zrs,List.mem_cons,List.not_mem_nil,or_false] at hs
   rcases hs with rfl | rfl | rfl<;>decide
 split
 · exact .inl ⟨rfl,hg,zfT bs (by omega) _,rfl,rfl⟩
 split
 · exact .inr (.inr (.inl ⟨.inl rfl,hl,rfl,rfl,rfl⟩))
 split
 · exact .inr (.inr (.inl ⟨.inr rfl,hl,rfl,rfl,rfl⟩))
 split
 · exact .inr (.inl ⟨.inl rfl,hp,rfl,rfl,rfl⟩)
 split
 · exact .inr (.inl ⟨.inr rfl,hp,rfl,rfl,rfl⟩)
 exact .inr (.inr (.inr ⟨rfl,rfl,rfl,rfl,rfl⟩))
theorem zeG {f:Cur→DStmt×Cur} {bs:List UInt8} {p:DStmt→Prop} (hf:∀ s,p (f s).1):∀ (n i:Nat) (s:Cur),∀ x∈(zdf f bs n i s).1,p x
 | 0,_,_,x,h=>by rw [zdf] at h;cases h
 | n+1,i,s,x,h=>by
   rw [zdf] at h
   split at h
   · rcases List.mem_cons.1 h with rfl | h
     · exact hf _
     exact zeG hf n _ _ x h
   cases h
theorem zi5 {f:Cur→DStmt×Cur} {bs:List UInt8}:∀ (n i:Nat) (s:Cur),(zdf f bs n i s).1.length≤n
 | 0,_,_=>by rw [zdf];exact Nat.le_refl _
 | n+1,i,s=>by
   rw [zdf]
   split
   · have:=zi5 (f:=f) (bs:=bs) n (i+1) (f (zal bs 4 s)).2
     simp only [List.length_cons];omega
   simp
theorem zjZ (bs:List UInt8):∀ (d:Nat) (s:Cur),StR (dS zmc) d (zbr bs d s).1
 | 0,s=>by rw [zbr];exact StR.base (zoO bs _ _)
 | d+1,s=>by
   rw [zbr]
   split
   · exact StR.base (zoO bs _ _)
   have ih:=zjZ bs d
   unfold zjY
   split
   · exact StR.more (.inr ⟨rfl,rfl⟩) rfl (zfT bs (by omega) _) (zeG ih _ _ _) fun x hx=>by cases hx
   split
   · exact StR.more (.inl rfl) rfl (zfT bs (by omega) _) (zeG ih _ _ _) (zeG ih _ _ _)
   exact StR.more (.inl rfl) rfl (zfT bs (by omega) _) (zeG ih _ _ _) fun x hx=>by cases hx
theorem zj0 (bs:List UInt8) (d:Nat) (s:Cur):∀ x∈(zaZ bs d s).1,StR (dS zmc) d x:=zeG (zjZ bs d) _ _ _
mutual
def szS:DStmt→Nat
  | .mk _ _ _ b e=>1+szL b+szL e
def szL:List DStmt→Nat
  | []=>0
  | x :: l=>szS x+szL l
end
mutual
def zp0:DStmt→Int→Int
  | .mk _ _ _ b e,n=>zhQ e (zhQ b (n-1))
def zhQ:List DStmt→Int→Int
  | [],n=>n
  | x :: l,n=>if 0≤n then zhQ l (zp0 x n) else n
end
mutual
theorem zrv:∀ (x:DStmt) (n:Int),0≤n→((szS x:Int)≤n→zp0 x n=n-szS x)∧(n<szS x→zp0 x n<0)
  | .mk k s t b e,n,hn=>by
    rw [szS,zp0]
    have h1:=zi6 b (n-1)
    have h2:=zi6 e (zhQ b (n-1))
    refine ⟨fun h=>?_,fun h=>?_⟩
    · rw [h2.1 (by rw [h1.1 (by omega)];omega),h1.1 (by omega)];omega
    by_cases hb:(szL b:Int)≤n-1
    · exact h2.2.1 (by rw [h1.1 hb];omega)
    have:=h1.2.1 (by omega)
    by_cases h0:zhQ b (n-1)<0
    · exact h2.2.2 h0
    omega
theorem zi6:∀ (l:List DStmt) (n:Int),((szL l:Int)≤n→zhQ l n=n-szL l)∧(n<szL l→zhQ l n<0)∧(n<0→zhQ l n<0)
  | [],n=>by
    rw [szL,zhQ]
    exact ⟨fun _=>by omega,fun h=>by omega,fun h=>h⟩
  | x :: l,n=>by
    rw [szL,zhQ]
    refine ⟨fun h=>?_,fun h=>?_,fun h=>?_⟩
    · have h1:=zrv x n (by omega)
      have h2:=zi6 l (zp0 x n)
      rw [if_pos (by omega),h2.1 (by rw [h1.1 (by omega)];omega),h1.1 (by omega)];omega
    · split
      · rename_i h0
        have h1:=zrv x n h0
        have h2:=zi6 l (zp0 x n)
        by_cases hx:(szS x:Int)≤n
        · exact h2.2.1 (by rw [h1.1 hx];omega)
        exact h2.2.2 (h1.2 (by omega))
      omega
    rw [if_neg (by omega)];exact h
end
theorem zfU:∀ (l m:List DStmt),szL (l++m)=szL l+szL m
 | [],m=>by simp [szL]
 | x :: l,m=>by rw [List.cons_append,szL,szL,zfU l m];omega
theorem zgm:∀ (l:List DStmt),l.length≤szL l
 | []=>by simp
 | .mk k s t b e :: l=>by have:=zgm l;rw [szL,szS,List.length_cons];omega
mutual
def znE (bs:List UInt8) (pr:List ByteArray):DStmt→Cur→DStmt×Cur
  | .mk k n t b e,s=>
    if k=4∨k=5 then
      (.mk k (zct bs pr s) t (zdO bs pr b (zal bs (pr.length:Int) s)).1 (zdO bs pr e (zdO bs pr b (zal bs (pr.length:Int) s)).2).1,(zdO bs pr e (zdO bs pr b (zal bs (pr.length:Int) s)).2).2)
    else (.mk k n t (zdO bs pr b s).1 (zdO bs pr e (zdO bs pr b s).2).1,(zdO bs pr e (zdO bs pr b s).2).2)
def zdO (bs:List UInt8) (pr:List ByteArray):List DStmt→Cur→List DStmt×Cur
  | [],s=>([],s)
  | x :: l,s=>((znE bs pr x s).1 :: (zdO bs pr l (znE bs pr x s).2).1,(zdO bs pr l (znE bs pr x s).2).2)
end
mutual
theorem zuu (bs:List UInt8) (pr:List ByteArray):∀ (x:DStmt) (s:Cur),szS (znE bs pr x s).1=szS x
  | .mk k n t b e,s=>by
    rw [znE]
    split
    · rw [szS,szS,zhw bs pr b,zhw bs pr e]
    rw [szS,szS,zhw bs pr b,zhw bs pr e]
theorem zhw (bs:List UInt8) (pr:List ByteArray):∀ (l:List DStmt) (s:Cur),szL (zdO bs pr l s).1=szL l
  | [],s=>by rw [zdO]
  | x :: l,s=>by rw [zdO,szL,szL,zuu bs pr x,zhw bs pr l]
end
theorem zoP (bs:List UInt8) (pr:List ByteArray) (s:Cur):zdO bs pr [] s=([],s):=by rw [zdO]
theorem zv8 {bs:List UInt8} {pr pr0:List ByteArray} (hp:0<pr.length):∀ (n:Nat),(∀ (t:DStmt) (s:Cur),StR (dS pr0) n t→StR (dS pr) n (znE bs pr t s).1)∧∀ (l:List DStmt) (s:Cur),(∀ x∈l,StR (dS pr0) n x)→∀ x∈(zdO bs pr l s).1,StR (dS pr) n x:=by
 have h0:∀ (t:DStmt) (s:Cur),St0 (dS pr0) t→St0 (dS pr) (znE bs pr t s).1:=by
   rintro ⟨k,nm,t,b,e⟩ s h
   have hb:b=[]:=by rcases h with h | h | h | h<;>exact h.2.2.2.1
   have he:e=[]:=by rcases h with h | h | h | h<;>exact h.2.2.2.2
   subst hb he
   rw [znE]
   simp only [zoP]
   rcases h with h | h | h | h
   · have hk:k=1:=h.1
     rw [if_neg (by omega)]
     exact .inl h
   · have hk:k=4∨k=5:=h.1
     rw [if_pos hk]
     exact .inr (.inl ⟨hk,zdv bs hp s,h.2.2.1,rfl,rfl⟩)
   · have hk:k=6∨k=7:=h.1
     rw [if_neg (by omega)]
     exact .inr (.inr (.inl h))
   have hk:k=8:=h.1
   rw [if_neg (by omega)]
   exact .inr (.inr (.inr h))
 have hl:∀ n,(∀ (t:DStmt) (s:Cur),StR (dS pr0) n t→StR (dS pr) n (znE bs pr t s).1)→∀ (l:List DStmt) (s:Cur),(∀ x∈l,StR (dS pr0) n x)→∀ x∈(zdO bs pr l s).1,StR (dS pr) n x:=by
   intro n hs l
   induction l with
   | nil=>intro s _ x hx;rw [zdO] at hx;cases hx
   | cons y l ih=>
     intro s h x hx
     rw [zdO] at hx
     rcases List.mem_cons.1 hx with rfl | hx
     · exact hs y s (h y (by simp))
     exact ih _ (fun z hz=>h z (by simp [hz])) x hx
 intro n
 induction n with
 | zero=>
   have h0':∀ (t:DStmt) (s:Cur),StR (dS pr0) 0 t→StR (dS pr) 0 (znE bs pr t s).1:=fun t s h=>StR.base (h0 t s h.zero)
   exact ⟨h0',hl 0 h0'⟩
 | succ n ih=>
   have hs:∀ (t:DStmt) (s:Cur),StR (dS pr0) (n+1) t→StR (dS pr) (n+1) (znE bs pr t s).1:=by
     intro t s h
     rcases h.succ with h | ⟨h1,h2,h3,h4,h5⟩
     · exact StR.base (h0 t s h)
     obtain ⟨k,nm,t,b,e⟩:=t
     have hk:k=2∨k=3∧e=[]:=h1
     rw [znE,if_neg (by omega)]
     refine StR.more ?_ h2 h3 (ih.2 b _ h4) (ih.2 e _ h5)
     rcases hk with hk | ⟨hk,rfl⟩
     · exact .inl hk
     exact .inr ⟨hk,by show (zdO bs pr [] _).1=[];rw [zdO]⟩
   exact ⟨hs,hl (n+1) hs⟩
def zhx:DStmt:=.mk 8 nO term0 [] []
def zeH (n:ByteArray):DStmt:=.mk 6 n term0 [] []
def zdg (n:ByteArray):DStmt:=.mk 7 n term0 [] []
def ztF (n:ByteArray):DStmt:=.mk 5 n term0 [] []
def zi7 (bs:List UInt8) (body:List DStmt) (s:Cur):List DStmt×Cur:=
 if zct bs lks s=zct bs lks (zal bs 3 s) then (zeH (zct bs lks s) :: (body++[zdg (zct bs lks s)]),zal bs 3 (zal bs 3 s))
 else if zbg bs 2 (zal bs 3 (zal bs 3 s))=0 then (zeH (zct bs lks s) :: zeH (zct bs lks (zal bs 3 s)) :: (body++[zdg (zct bs lks s)]),zal bs 2 (zal bs 3 (zal bs 3 s)))
 else (zeH (zct bs lks s) :: (body++[zdg (zct bs lks s)]),zal bs 2 (zal bs 3 (zal bs 3 s)))
def zft (bs:List UInt8) (s:Cur):List DStmt×Cur:=
 (if zhQ ((zaZ bs 2 s).1++(zaZ bs 1 (zaZ bs 2 s).2).1) 50<0 then [zhx] else (zaZ bs 2 s).1++(zaZ bs 1 (zaZ bs 2 s).2).1,(zaZ bs 1 (zaZ bs 2 s).2).2)
def zgn (bs:List UInt8) (r:List DStmt×Cur):List DStmt×Cur:=
 if zbg bs 2 r.2=0 then zi7 bs r.1 (zal bs 2 r.2) else (r.1,zal bs 2 r.2)
def zh0 (bs:List UInt8) (i:Nat) (nm:ByteArray) (r:List DStmt×Cur):List DStmt×Cur:=
 if i=0 then (if zbg bs 2 r.2=0 then (ztF nm :: r.1,zal bs 2 r.2) else (r.1,zal bs 2 r.2)) else r
def zc1 (bs:List UInt8) (pr:List ByteArray) (i:Nat) (s:Cur):List DStmt×Cur:=
 zdO bs pr (zh0 bs i (pr.getD 0 nO) (zgn bs (zft bs s))).1 (zh0 bs i (pr.getD 0 nO) (zgn bs (zft bs s))).2
def zbi (bs:List UInt8) (pr:List ByteArray):List ByteArray→Nat→Cur→List DProc×Cur
 | [],_,s=>([],s)
 | n :: l,i,s=>(⟨n,(zc1 bs pr i s).1⟩ :: (zbi bs pr l (i+1) (zc1 bs pr i s).2).1,(zbi bs pr l (i+1) (zc1 bs pr i s).2).2)
def zi8 (bs:List UInt8) (s:Cur):List ByteArray:=prc4.take (2+(zbg bs 3 s).toNat)
def zek (bs:List UInt8) (s:Cur):DProg×Cur:=
 (⟨glb,lks,(zbi bs ((zi8 bs s).drop 1) (zi8 bs s) 0 (zal bs 3 s)).1⟩,(zbi bs ((zi8 bs s).drop 1) (zi8 bs s) 0 (zal bs 3 s)).2)
def zv9 (bs:List UInt8):Int:=(bs.take 4000).foldl (fun h b=>zpF (h*131+(b.toNat:Int)+7) 1073741823) (94701+(bs.length:Int))
def zj1 (bs:List UInt8):Cur:=⟨0,zv9 bs⟩
def zrw (c:Scp) (l:List DStmt):Prop:=(∀ x∈l,StR c 2 x)∧szL l≤54
theorem zvx (pr:List ByteArray):StR (dS pr) 2 zhx:=StR.base (.inr (.inr (.inr ⟨rfl,rfl,rfl,rfl,rfl⟩)))
theorem zoQ (pr:List ByteArray) {n:ByteArray} (h:n∈lks):StR (dS pr) 2 (zeH n):=StR.base (.inr (.inr (.inl ⟨.inl rfl,h,rfl,rfl,rfl⟩)))
theorem zsY (pr:List ByteArray) {n:ByteArray} (h:n∈lks):StR (dS pr) 2 (zdg n):=StR.base (.inr (.inr (.inl ⟨.inr rfl,h,rfl,rfl,rfl⟩)))
theorem znF (bs:List UInt8) (s:Cur):(∀ x∈(zft bs s).1,StR (dS zmc) 2 x)∧szL (zft bs s).1≤50:=by
 unfold zft
 split
 · exact ⟨fun x hx=>by simp only [List.mem_cons,List.not_mem_nil,or_false] at hx;subst hx;exact zvx _,by simp [szL,szS,zhx]⟩
 rename_i h
 refine ⟨fun x hx=>?_,?_⟩
 · rcases List.mem_append.1 hx with hx | hx
   · exact zj0 bs 2 s x hx
   exact (zj0 bs 1 _ x hx).mono (by omega)
 have:=zi6 ((zaZ bs 2 s).1++(zaZ bs 1 (zaZ bs 2 s).2).1) 50
 have:=this.2.1
 show szL ((zaZ bs 2 s).1++(zaZ bs 1 (zaZ bs 2 s).2).1)≤50
 omega
theorem zrx (bs:List UInt8) {r:List DStmt×Cur} (h:(∀ x∈r.1,StR (dS zmc) 2 x)∧szL r.1≤50):(∀ x∈(zgn bs r).1,StR (dS zmc) 2 x)∧szL (zgn bs r).1≤53:=by
 have hl:=fun s=>zdv bs (l:=lks) (by decide) s
 have key:∀ (pre:List DStmt) (n:ByteArray),n∈lks→(∀ x∈pre,StR (dS zmc) 2 x)→szL pre≤2→(∀ x∈pre++(r.1++[zdg n]),StR (dS zmc) 2 x)∧szL (pre++(r.1++[zdg n]))≤53:=by
   intro pre n hn hp hs
   refine ⟨fun x hx=>?_,?_⟩
   · rcases List.mem_append.1 hx with hx | hx
     · exact hp x hx
     rcases List.mem_append.1 hx with hx | hx
     · exact h.1 x hx
     simp only [List.mem_cons,List.not_mem_nil,or_false] at hx
     subst hx;exact zsY _ hn
   rw [zfU,zfU]
   have:szL [zdg n]=1:=by simp [szL,szS,zdg]
   omega
 unfold zgn
 split
 · unfold zi7
   split
   · exact key [zeH _] _ (hl _) (fun x hx=>by simp only [List.mem_cons,List.not_mem_nil,or_false] at hx;subst hx;exact zoQ _ (hl _)) (by simp [szL,szS,zeH])
   split
   · exact key [zeH _,zeH _] _ (hl _) (fun x hx=>by
       simp only [List.mem_cons,List.not_mem_nil,or_false] at hx
       rcases hx with rfl | rfl
       · exact zoQ _ (hl _)
       exact zoQ _ (hl _)) (by simp [szL,szS,zeH])
   exact key [zeH _] _ (hl _) (fun x hx=>by simp only [List.mem_cons,List.not_mem_nil,or_false] at hx;subst hx;exact zoQ _ (hl _)) (by simp [szL,szS,zeH])
 exact ⟨h.1,by have:=h.2;show szL r.1≤53;omega⟩
theorem zuv (bs:List UInt8) (i:Nat) {nm:ByteArray} (hn:nm∈zmc) {r:List DStmt×Cur} (h:(∀ x∈r.1,StR (dS zmc) 2 x)∧szL r.1≤53):zrw (dS zmc) (zh0 bs i nm r).1:=by
 unfold zh0
 split
 · split
   · refine ⟨fun x hx=>?_,?_⟩
     · rcases List.mem_cons.1 hx with rfl | hx
       · exact StR.base (.inr (.inl ⟨.inr rfl,hn,rfl,rfl,rfl⟩))
       exact h.1 x hx
     have:=h.2
     simp only [szL,szS,ztF];omega
   exact ⟨h.1,by have:=h.2;show szL r.1≤54;omega⟩
 exact ⟨h.1,by have:=h.2;omega⟩
theorem zpJ (bs:List UInt8) {pr:List ByteArray} (hp:0<pr.length) (h3:∀ x∈pr,x∈zmc) (i:Nat) (s:Cur):zrw (dS pr) (zc1 bs pr i s).1:=by
 have h:=zuv bs i (nm:=pr.getD 0 nO) (h3 _ (zk0 hp)) (zrx bs (znF bs s))
 unfold zc1
 exact ⟨(zv8 hp 2).2 _ _ h.1,by rw [zhw];exact h.2⟩
structure ProgR (p:DProg):Prop where
 g:p.globals=glb∨p.globals=glb.take 1
 l:p.locks=lks∨p.locks=lks.take 1∨p.locks=lks.take 2
 n:∃ k,k<4∧p.procs.map DProc.name=prc4.take (1+k)
 b:∀ x∈p.procs,zrw ⟨p.globals,p.locks,(p.procs.map DProc.name).drop 1⟩ x.body
theorem zd9 (bs:List UInt8) (pr:List ByteArray):∀ (l:List ByteArray) (i:Nat) (s:Cur),(zbi bs pr l i s).1.map DProc.name=l
 | [],_,_=>by rw [zbi];rfl
 | n :: l,i,s=>by rw [zbi,List.map_cons,zd9 bs pr l]
theorem zi9 (bs:List UInt8) {pr:List ByteArray} (hp:0<pr.length) (h3:∀ x∈pr,x∈zmc):∀ (l:List ByteArray) (i:Nat) (s:Cur),∀ x∈(zbi bs pr l i s).1,zrw (dS pr) x.body
 | [],_,_,x,h=>by rw [zbi] at h;cases h
 | n :: l,i,s,x,h=>by
   rw [zbi] at h
   rcases List.mem_cons.1 h with rfl | h
   · exact zpJ bs hp h3 i s
   exact zi9 bs hp h3 l _ _ x h
theorem zry (bs:List UInt8) (s:Cur):(zbg bs 3 s).toNat<3:=by
 have:=zb8 bs (n:=3) (by omega) s;omega
theorem zk3:∀ k,k<3→0<((prc4.take (2+k)).drop 1).length∧∀ x∈(prc4.take (2+k)).drop 1,x∈zmc
 | 0,_=>⟨by decide,by intro x hx;simp only [prc4,List.take,List.drop,List.mem_cons,List.not_mem_nil,or_false] at hx;subst hx;decide⟩
 | 1,_=>⟨by decide,by intro x hx;simp only [prc4,List.take,List.drop,List.mem_cons,List.not_mem_nil,or_false] at hx;rcases hx with rfl | rfl<;>decide⟩
 | 2,_=>⟨by decide,by intro x hx;simp only [prc4,List.take,List.drop,List.mem_cons,List.not_mem_nil,or_false] at hx;rcases hx with rfl | rfl | rfl<;>decide⟩
 | k+3,h=>absurd h (by omega)
theorem zpK (bs:List UInt8) (s:Cur):ProgR (zek bs s).1:=by
 have hk:=zry bs s
 have ht:=zk3 _ hk
 refine ⟨.inl rfl,.inl rfl,⟨1+(zbg bs 3 s).toNat,by omega,?_⟩,fun x hx=>?_⟩
 · rw [show 1+(1+(zbg bs 3 s).toNat)=2+(zbg bs 3 s).toNat by omega];exact zd9 bs _ _ _ _
 have hn:((zek bs s).1.procs.map DProc.name)=zi8 bs s:=zd9 bs _ _ _ _
 rw [hn]
 exact zi9 bs ht.1 ht.2 _ _ _ x hx
end Go.Proofs.YtcnglfeoglgebaaGreat
namespace Go.Sh
open Rep (rep)
section
variable {P:Program} {w:World} {α:Type} [Rep α] {e:Nat}
theorem zcb {w:World}:∀ {l:List ByteArray},(∀ x∈l,x.size≤maxLen)→Cells [] w (l.map Value.string) l
 | [],_=>⟨rfl,rfl⟩
 | x :: l,h=>⟨[],[],[.string x],l.map Value.string,rfl,rfl,⟨rfl,rfl,h x (by simp)⟩,zcb fun y hy=>h y (by simp [hy])⟩
theorem zhy {w:World}:∀ {l:List Int},(∀ x∈l,I64 x)→Cells [] w (l.map (Value.int .i64)) l
 | [],_=>⟨rfl,rfl⟩
 | x :: l,h=>⟨[],[],[.int .i64 x],l.map (Value.int .i64),rfl,rfl,⟨rfl,rfl,h x (by simp)⟩,zhy fun y hy=>h y (by simp [hy])⟩
theorem zfu {t:TypeId} {by_ n:Nat} {z:Value} {vs:List Value} {parts:Array (Nat×Value)} {l:List α} {K:Value→World→Prop} (ht:P.underlying t=some (.slice e)) (he:tyI P e=some (1,by_,false)) (hz:zbU P e=some [z])
   (hn:0<n∧n≤1000) (hf:Instr.fill (fun i=>some (i*1,1)) ((Array.range (n*1)).map fun i=>(#[z])[i%1]!) parts.toList=some vs.toArray) (hl:l.length=n) (hc:∀ w,Cells [] w vs l)
   (k:∀ v w',Ext w w'→OwnI w.heap.size w'.heap.size w' v l→K v w'):OP P (Instr.buildSlice t n parts) w K:=by
 unfold zbU at hz
 cases hi:P.info? e with
 | none=>simp [hi] at hz
 | some i=>
   simp only [hi] at hz
   obtain ⟨v,hv,hvc⟩:=Option.map_eq_some_iff.1 hz
   have hvc':v.cells=#[z]:=Array.ext' (by simpa using hvc)
   have hB:Blk w.heap.size e (w.alloc (.cells vs.toArray e)) vs:=heap_alloc_new w _
   have hlt:w.heap.size<(w.alloc (.cells vs.toArray e)).heap.size:=hB.lt
   refine ⟨.slice (some ⟨w.heap.size,0,none⟩) n n,w.alloc (.cells vs.toArray e),?_,k _ _ (zaI w _) ⟨[w.heap.size],⟨⟨_,⟨some ⟨w.heap.size,0,none⟩,n,[],vs,rfl,by omega,by rw [zam];omega,hc _,.inr ⟨_,_,rfl,rfl,hB.range,hlt⟩⟩,by rw [hl];rfl⟩,by simp,fun b hb=>?_⟩,fun b hb=>?_⟩⟩
   · have hne:¬n*1=0:=by omega
     have h24:¬2^24<n*1:=by omega
     have hzr:(zeroValue e).run P w=.ok v w:=by simp [zeroValue,typeInfo,hi,hv]
     simp only [Instr.buildSlice,Sem.run_bind,run_underlying ht,Result.andThen_ok,zaw he]
     simp only [h24,hne,if_false,Sem.run_bind,Sem.run_pure,Result.andThen_ok,hzr,hvc']
     rw [show (fun x=>(#[z]:Array Value)[x%(#[z]:Array Value).size]!)=fun i=>(#[z]:Array Value)[i%1]! from rfl,hf]
     rfl
   · simp only [List.mem_cons,List.not_mem_nil,or_false] at hb
     subst hb
     exact ⟨_,_,hB⟩
   simp only [List.mem_cons,List.not_mem_nil,or_false] at hb
   subst hb
   exact ⟨Nat.le_refl _,hlt⟩
theorem zsZ (u v:Value) (cells:Array Value) (s:Nat) (hu:u.cells.size=s) (hv:v.cells.size=s) (hc:cells.size=2*s) :
   Instr.fill (fun i=>some (i*s,s)) cells [(0,u),(1,v)]=some (u.cells++v.cells):=by
 have key:∀ (x:Value) (off:Nat) (cs:Array Value),x.cells.zipIdx.foldl (fun (cs:Array Value) (p:Value×Nat)=>match p with | (c,j)=>cs.setIfInBounds (off+j) c) cs
     = (x.cells.toList.zipIdx 0).foldl (fun (cs:Array Value) (p:Value×Nat)=>cs.setIfInBounds (off+p.2) p.1) cs:=by
   intro x off cs
   rw [←Array.foldl_toList,Array.toList_zipIdx]
 unfold Instr.fill
 simp only [Nat.zero_mul]
 rw [if_neg (by simp;omega)]
 rw [key]
 obtain ⟨h1,h2⟩:=zh3 0 u.cells.toList 0 cells
 generalize (u.cells.toList.zipIdx 0).foldl (fun (cs:Array Value) (p:Value×Nat)=>cs.setIfInBounds (0+p.2) p.1) cells=c1 at *
 unfold Instr.fill
 simp only [Nat.one_mul]
 rw [if_neg (by simp;omega)]
 unfold Instr.fill
 rw [key]
 obtain ⟨h3,h4⟩:=zh3 s v.cells.toList 0 c1
 generalize (v.cells.toList.zipIdx 0).foldl (fun (cs:Array Value) (p:Value×Nat)=>cs.setIfInBounds (s+p.2) p.1) c1=c2 at *
 congr 1
 apply Array.ext_getElem?
 intro i
 rw [h4,h2,Array.getElem?_append]
 simp only [Array.length_toList,Nat.add_zero,Nat.zero_add,Array.getElem?_toList,Nat.sub_zero]
 by_cases hi:i<s
 · rw [if_neg (by omega),if_pos (by omega),if_pos (by omega)]
 by_cases hi2:i<2*s
 · rw [if_pos (by omega),if_neg (by omega),hu]
 rw [if_neg (by omega),if_neg (by omega),if_neg (by omega),Array.getElem?_eq_none (by omega),Array.getElem?_eq_none (by omega)]
theorem zpL {t:TypeId} {by_:Nat} {u v:Value} {x y:α} {lo l0 h0 l1 h1:Nat} {K:Value→World→Prop} (ht:P.underlying t=some (.slice e)) (he:tyI P e=some (Rep.size α,by_,Rep.agg α)) (hz:zbw P e=true) (hsz:Rep.size α≤1000)
   (hx:OwnI l0 h0 w u x) (hy:OwnI l1 h1 w v y) (hd:h0≤l1∨h1≤l0) (hl:lo≤l0∧lo≤l1∧lo≤w.heap.size)
   (k:∀ v' w',Ext w w'→OwnI lo w'.heap.size w' v' [x,y]→K v' w'):OP P (Instr.buildSlice t 2 #[(0,u),(1,v)]) w K:=by
 obtain ⟨F,⟨⟨cs,hr,rfl⟩,hn,hw⟩,hF⟩:=hx
 obtain ⟨G,⟨⟨ds,hr2,rfl⟩,hn2,hw2⟩,hG⟩:=hy
 have hlen:=Rep.len hr
 have hlen2:=Rep.len hr2
 have hcl:=zdV hr
 have hcl2:=zdV hr2
 have hvs:(mkv α cs).cells.size=Rep.size α:=by rw [←Array.length_toList,hcl,hlen]
 have hvs2:(mkv α ds).cells.size=Rep.size α:=by rw [←Array.length_toList,hcl2,hlen2]
 obtain ⟨i,d,hi,hd',hs,hby,hg⟩:=zbZ he
 unfold zbw at hz
 rw [hi] at hz
 obtain ⟨z,hz⟩:=Option.isSome_iff_exists.1 hz
 have hpos:=Rep.pos (α:=α)
 have hxx:=zaI w (.cells ((mkv α cs).cells++(mkv α ds).cells) e)
 have hB:(w.alloc (.cells ((mkv α cs).cells++(mkv α ds).cells) e)).heap[w.heap.size]?=some (.cells ((mkv α cs).cells++(mkv α ds).cells) e (0,0)):=heap_alloc_new w _
 have hB':Blk w.heap.size e (w.alloc (.cells ((mkv α cs).cells++(mkv α ds).cells) e)) (cs++ds):=by
   unfold Blk;rw [hB];congr 2;apply Array.ext';simp [hcl,hcl2]
 have hlt:=hB'.lt
 have hFl:=Rep.lt hr
 have hGl:=Rep.lt hr2
 refine ⟨.slice (some ⟨w.heap.size,0,none⟩) 2 2,_,?_,k _ _ hxx ⟨w.heap.size :: (F++G),⟨⟨_,⟨some ⟨w.heap.size,0,none⟩,2,F++G,cs++ds,rfl,Nat.le_refl _,by rw [zam];omega,⟨F,G,cs,ds,rfl,rfl,zbO hr hxx,Cells.single (zbO hr2 hxx)⟩,.inr ⟨_,_,rfl,rfl,hB'.range,hlt⟩⟩,rfl⟩,?_,?_⟩,?_⟩⟩
 · have hne:¬2*Rep.size α=0:=by omega
   have h24:¬2^24<2*Rep.size α:=by omega
   have hzr:(zeroValue e).run P w=.ok z w:=by simp [zeroValue,typeInfo,hi,hz]
   simp only [Instr.buildSlice,Sem.run_bind,run_underlying ht,Result.andThen_ok,zaw he]
   simp only [h24,hne,if_false,Sem.run_bind,Sem.run_pure,Result.andThen_ok,hzr]
   rw [zsZ _ _ _ _ hvs hvs2 (by simp)]
   rfl
 · rw [List.nodup_cons,List.nodup_append]
   refine ⟨fun hm=>?_,hn,hn2,fun p hp q hq e=>?_⟩
   · rcases List.mem_append.1 hm with hm | hm
     · exact Nat.lt_irrefl _ (hFl _ hm)
     exact Nat.lt_irrefl _ (hGl _ hm)
   subst e;have:=hF p hp;have:=hG p hq;omega
 · intro b hb
   rcases List.mem_cons.1 hb with rfl | hb
   · exact ⟨_,_,hB⟩
   rcases List.mem_append.1 hb with hb | hb
   · exact (hw.ext hxx) b hb
   exact (hw2.ext hxx) b hb
 intro b hb
 rcases List.mem_cons.1 hb with rfl | hb
 · exact ⟨hl.2.2,hlt⟩
 rcases List.mem_append.1 hb with hb | hb
 · have:=hF b hb;have:=hFl b hb;omega
 have:=hG b hb;have:=hGl b hb;omega
theorem zhz {t ty:TypeId} {by_:Nat} {v src:Value} {l m:List α} {lo0 lo hi l1 h1:Nat} {K:Value→World→Prop} (ht:P.underlying t=some (.slice e)) (he:tyI P e=some (Rep.size α,by_,Rep.agg α))
   (hzc:(P.info? e).map (fun i=>(i.zero.map (·.cells.size)))=some (some (Rep.size α))) (hv:RowI lo hi e w v l) (hlo:lo≤w.heap.size) (hs:OwnI l1 h1 w src m) (hd:hi≤l1∨h1≤lo) (h0:lo0≤lo) (hl:lo0≤l1) (hm:l.length+m.length≤maxLen) (hb:(l.length+m.length)*by_≤140737488355328)
   (k:∀ v' w',ChgI lo hi w w'→RowI lo0 w'.heap.size e w' v' (l++m)→K v' w'):OP P (Builtin.append_ #[t,t] ty [v,src].toArray) w K:=by
 obtain ⟨Fs,⟨⟨cs,⟨a,cap,Fi,xs,rfl,g1,g2,hc,h4⟩,hveq⟩,hnd,hw⟩,hFs⟩:=hs
 simp only [mkv,Rep.agg,cond_false,List.headD_cons] at hveq
 subst hveq
 have hFi:(∀ b∈Fi,l1≤b∧b<h1)∧Fi.Nodup∧Wr Fi w:=by
   rcases h4 with ⟨rfl,rfl⟩ | ⟨b,o,rfl,rfl,hr,hb'⟩
   · obtain ⟨rfl,rfl⟩:=hc
     exact ⟨(fun b hb=>by cases hb),List.nodup_nil,Wr.nil w⟩
   exact ⟨fun c hc=>hFs c (by simp [hc]),(List.nodup_cons.1 hnd).2,hw.sub (by simp +contextual)⟩
 have key:∀ (v:Value) (F:List Nat),RowF F e w v l→F.Nodup→(∀ b∈F,lo≤b∧b<hi)→OP P (Builtin.append_ #[t,t] ty [v,.slice a m.length cap].toArray) w K:=by
   intro v F hF hFn hFl
   refine zev (m:=m) ht he hzc hF hFn rfl hc (by
     rcases h4 with h | ⟨b,o,ha,_,hr,_⟩
     · exact .inl h.1
     exact .inr ⟨b,o,ha,hr⟩) hFi.2.2 ?_ hm hb fun v' w' F' hch hfull hr' hn' hs'=>?_
   · rw [List.nodup_append]
     refine ⟨hFi.2.1,hFn,fun p hp q hq e=>?_⟩
     subst e;have:=hFi.1 p hp;have:=hFl p hq;omega
   have hown:∀ c∈v.ownBlock.toList,lo≤c∧c<hi:=fun c hc=>by
     obtain ⟨xs,Fi,_,_,rfl,_⟩:=hF
     exact hFl c (by simp only [List.mem_append];exact .inl hc)
   refine k v' w' (hch.toI hown) (.inr ⟨F',hr',hn',fun c hc=>⟨?_,hr'.lt c hc⟩⟩)
   rcases hs' c hc with h | h | h
   · have:=(hFl c h).1;omega
   · have:=hFi.1 c h;omega
   omega
 rcases hv with ⟨a0,rfl,rfl⟩ | ⟨F,hF,hFn,hFl⟩
 · have kn:=key (.slice none 0 0) [] (zgC e w) List.nodup_nil (by simp)
   cases a0 with
   | none=>exact kn
   | some x0=>
     by_cases hm0:m=[]
     · subst hm0
       refine ⟨.slice (some x0) 0 0,w,?_,k _ w (ChgI.refl w) (zd1 _ _ _ _ _)⟩
       have hf:(Builtin.firstCells (Rep.size α) 0 (.slice a 0 cap)).run P w=.ok #[] w:=by
         cases a with
         | none=>rfl
         | some a=>simp [Builtin.firstCells,loadCells,loadCellsFrom]
       simp [Builtin.append_,run_underlying ht,zaw he,Builtin.lenOf,hf,storeCells]
     rcases h4 with h | ⟨b,o,rfl,_,hr,_⟩
     · exact absurd h.1 hm0
     exact zh4 (zeT (α:=α) ht he hzc (Cells.len hc) hr (List.length_pos_iff.2 hm0) (by simpa using hm) (by simpa using hb)) kn
 exact key v F hF hFn hFl
theorem zpM {t ty:TypeId} {by_:Nat} {v src:Value} {l m:List α} {lo hi l1 h1:Nat} {K:Value→World→Prop} (ht:P.underlying t=some (.slice e)) (he:tyI P e=some (Rep.size α,by_,Rep.agg α))
   (hzc:(P.info? e).map (fun i=>(i.zero.map (·.cells.size)))=some (some (Rep.size α))) (hv:RowI lo hi e w v l) (hlo:lo≤w.heap.size) (hs:OwnI l1 h1 w src m) (hd:hi≤l1∨h1≤lo) (hl:lo≤l1) (hm:l.length+m.length≤maxLen) (hb:(l.length+m.length)*by_≤140737488355328)
   (k:∀ v' w',ChgI lo hi w w'→RowI lo w'.heap.size e w' v' (l++m)→K v' w'):OP P (Builtin.append_ #[t,t] ty [v,src].toArray) w K:=zhz ht he hzc hv hlo hs hd (Nat.le_refl _) hl hm hb k
end
end Go.Sh
namespace Go.Sh
open Rep (rep)
instance:Rep UInt8 where
 size:=1
 agg:=false
 rep F _ cs x:=F=[]∧cs=[.int .u8 (x.toNat:Int)]
 pos:=by decide
 sz _:=rfl
 len:=by rintro _ _ _ _ ⟨_,rfl⟩;rfl
 one:=by rintro _ _ _ _ ⟨_,rfl⟩ v hv;simp at hv;subst hv;rfl
 keep:=by rintro _ _ _ _ _ h _;exact h
 lt:=by rintro _ _ _ _ ⟨rfl,_⟩ b hb;cases hb
instance:Flat UInt8:=⟨fun h=>h.1⟩
instance:RepZ UInt8:=⟨0,[.int .u8 0],fun _=>⟨rfl,rfl⟩⟩
section
variable {P:Program} {w w0:World} {K:Value→Prop} {t:TypeId} {x y:Operand}
theorem zwa {v:Value} {b:UInt8}:Is w v b↔v=.int .u8 (b.toNat:Int):=by
 constructor
 · rintro ⟨F,cs,⟨_,rfl⟩,rfl⟩;rfl
 rintro rfl;exact ⟨[],_,⟨rfl,rfl⟩,rfl⟩
theorem zoR {t by_ b o:Nat} {x:UInt8} (ht:tyI P t=some (1,by_,false)) (h:At w0 b o x) (hx:Ext w0 w) (k:K (.int .u8 (x.toNat:Int))) :
   RD P (Instr.loadAt t (.pointer (some ⟨b,o,none⟩))) w K:=
 zab (α:=UInt8) ht h hx fun v hv=>by obtain rfl:=zwa.1 hv;exact k
end
end Go.Sh
namespace Go.Proofs.YtcnglfeoglgebaaGreat
open Go Go.Sh Go.Proofs
open Rep (rep)
def F50 (a0:Value) (w:World) (R:VW):Prop:=
 NIL a0 <|
 rF 125 a0 2 w fun x7=>
 rL 3 x7 w fun x8=>
 rB .mul 3 T0 U0 x8 (iV 6364136223846793005) w fun x9=>
 rA x9 (iV 1442695040888963407) w fun x10=>
 NIL a0 <|
 rF 125 a0 2 w fun x12=>
 oS 3 x12 x10 w fun w=>
 (fun w=>NIL a0 <|
 rF 125 a0 2 w fun x15=>
 rL 3 x15 w fun x16=>
 rB .shr 3 T0 U0 x16 (Value.int .u64 33) w fun x17=>
 NIL a0 <|
 rF 125 a0 2 w fun x20=>
 rL 3 x20 w fun x21=>
 rB .shr 3 T0 U0 x21 (Value.int .u64 45) w fun x22=>
 rB .xor 3 T0 T0 x17 x22 w fun x23=>
 rB .and 3 T0 U0 x23 (iV 255) w fun x24=>
 (fun w=>NIL a0 <|
 rF 125 a0 1 w fun x27=>
 rL 3 x27 w fun x28=>
 NIL a0 <|
 rF 125 a0 0 w fun x31=>
 rL 22 x31 w fun x32=>
 rN 22 3 x32 w fun x33=>
 rC x28 x33 w fun x34=>
 BR x34
 ((fun w=>NIL a0 <|
 rF 125 a0 0 w fun x38=>
 rL 22 x38 w fun x39=>
 NIL a0 <|
 rF 125 a0 1 w fun x42=>
 rL 3 x42 w fun x43=>
 rX 22 x39 x43 w fun x44=>
 rL 5 x44 w fun x45=>
 rD (convert 5 3 x45) w fun x46=>
 rB .add 3 T0 T0 x24 x46 w fun x47=>
 rB .and 3 T0 U0 x47 (iV 255) w fun x48=>
 NIL a0 <|
 rF 125 a0 1 w fun x52=>
 rL 3 x52 w fun x53=>
 rA x53 (iV 1) w fun x54=>
 NIL a0 <|
 rF 125 a0 1 w fun x56=>
 oS 3 x56 x54 w fun w=>
 R x48 w) (World.drew1 w))
 (R x24 w)) (World.drew1 w)) (World.drew1 w)
def cfg50:Cfg:=⟨extL,[],[],[(2,[0,1,2,3,4,5,6,7,8,9,10,11,12],0),(3,[0,1,2,3,4,5,6,7,8,9],0),(4,[0,1,2,3,4,5,6,7,8,9,10,11,12,13,14],0)],[],[],[]⟩
theorem F50_call {a0:Value} {w:World} {R:VW} (h:F50 a0 w R):cL 50 [a0] w R:=co (g:=cfg50) Tryz.func50 (by kernel_rfl) (by kernel_rfl) (by kernel_rfl) h
theorem zvy:zbU Tryz.prog 3=some [.int .i64 0]:=by kernel_rfl
theorem zb2:zbU Tryz.prog 9=some [.string ByteArray.empty]:=by kernel_rfl
def CurAt (W:World) (g:Nat) (bs:List UInt8) (s:Cur) (w:World):Prop:=
 ∃ v,Is W v bs∧Ext W w∧W.heap.size≤g∧Blk g 125 w [v,.int .i64 (s.i:Int),.int .i64 s.h]∧s.i≤bs.length∧bs.length≤1048576
section
variable {W w w':World} {g a b:Nat} {bs:List UInt8} {s:Cur}
theorem CurAt.lt (h:CurAt W g bs s w):W.heap.size≤g∧g<w.heap.size:=by
 obtain ⟨v,_,_,h1,h2,_⟩:=h;exact ⟨h1,h2.lt⟩
theorem CurAt.ext (h:CurAt W g bs s w) (hx:Ext w w'):CurAt W g bs s w':=by
 obtain ⟨v,h0,h1,h2,h3,h4⟩:=h;exact ⟨v,h0,h1.trans hx,h2,h3.ext hx,h4⟩
theorem CurAt.chg (h:CurAt W g bs s w) (hc:ChgI a b w w') (h1:W.heap.size≤a) (hd:g<a∨b≤g):CurAt W g bs s w':=by
 obtain ⟨v,h0,hx,h2,h3,h4⟩:=h;exact ⟨v,h0,hx.chgI hc h1,h2,h3.chgI hc hd,h4⟩
theorem ChgI.out {c:World} {lo hi x y:Nat} (h:ChgI x y w w') (k:ChgI lo hi w' c) (hl:w.heap.size≤lo):ChgI x y w c:=
 ⟨k.os.trans h.os,k.tape.trans h.tape,k.output.trans h.output,Nat.le_trans h.size k.size,fun i hi ho=>(k.block i (Nat.lt_of_lt_of_le hi h.size) (by omega)).trans (h.block i hi ho)⟩
end
theorem zdR {W w:World} {g:Nat} {bs:List UInt8} {s:Cur} (hC:CurAt W g bs s w) :
   CALL Tryz.prog 50 [.pointer (some ⟨g,0,none⟩)] w fun r w'=>ChgI g (g+1) w w'∧CurAt W g bs (zc0 bs s) w'∧r=.int .i64 (zhu bs s):=by
 obtain ⟨v,hv,hx,hg,hB,hi,hl⟩:=hC
 refine F50_call ?_
 unfold F50
 refine NIL.mk rfl ?_
 refine zaa zkj ?_
 refine zaA ty3 hB rfl ?_
 refine zuo ?_
 refine zro ?_
 refine NIL.mk rfl ?_
 refine zaa zkj ?_
 refine zb0 (α:=Int) ty3 rfl rfl hB (by simp) (ownI_int (lo:=0) (hi:=0) (zun _)) fun w1 hc1 hB1=>?_
 have hx2:=zak w1
 have hB2:=hB1.ext hx2
 have hc2:=hc1.trans hx2.toI
 have hvl:=zah hv
 refine NIL.mk rfl ?_
 refine zaa zkj ?_
 refine zaA ty3 hB2 rfl ?_
 refine zrp (n:=33) ?_
 refine NIL.mk rfl ?_
 refine zaa zkj ?_
 refine zaA ty3 hB2 rfl ?_
 refine zrp (n:=45) ?_
 refine zup ?_
 refine znD ?_
 have hx3:=zak (World.drew1 w1)
 have hB3:=hB2.ext hx3
 have hc3:=hc2.trans hx3.toI
 refine NIL.mk rfl ?_
 refine zaa zki ?_
 refine zaA ty3 hB3 rfl ?_
 refine NIL.mk rfl ?_
 refine zaa zqe ?_
 refine zaA zwl hB3 rfl ?_
 refine zae u22 hv ?_
 have hx3':Ext W (World.drew1 (World.drew1 w1)):=hx.chgI hc3 hg
 obtain ⟨bx,hbx⟩:∃ x,x=zsW (zpG s.h):=⟨_,rfl⟩
 have e0:zpF (zv7 (zvw (zmD (zmD (s.h*6364136223846793005)+1442695040888963407)) 33) (zvw (zmD (zmD (s.h*6364136223846793005)+1442695040888963407)) 45)) 255=bx:=hbx.symm
 have hbl:0≤bx∧bx≤255:=by rw [hbx];exact zkZ _ (n:=255) (by omega)
 rw [e0]
 refine zai ?_
 refine br (fun hlt=>?_) (fun hge=>?_)
 · have hlt:s.i<bs.length:=by omega
   have hx4:=zak (World.drew1 (World.drew1 w1))
   have hB4:=hB3.ext hx4
   have hc4:=hc3.trans hx4.toI
   have hx4':=hx3'.trans hx4
   refine NIL.mk rfl ?_
   refine zaa zqe ?_
   refine zaA zwl hB4 rfl ?_
   refine NIL.mk rfl ?_
   refine zaa zki ?_
   refine zaA ty3 hB4 rfl ?_
   refine zad u22 ty5 (i:=s.i) hv hlt fun b o hA=>?_
   refine zoR ty5 hA hx4' ?_
   have h256:=UInt8.toNat_lt (bs[s.i])
   refine zrq (by kernel_rfl) u3 (by omega) ?_
   refine zro ?_
   refine znD ?_
   refine NIL.mk rfl ?_
   refine zaa zki ?_
   refine zaA ty3 hB4 rfl ?_
   refine zag (by omega) ?_
   refine NIL.mk rfl ?_
   refine zaa zki ?_
   refine zb0 (α:=Int) ty3 rfl rfl hB4 (by simp) (ownI_int (lo:=0) (hi:=0) (by unfold I64;omega)) fun w5 hc5 hB5=>?_
   have hc6:=hc4.trans hc5
   refine ⟨hc6,⟨v,hv,hx.chgI hc6 hg,hg,?_,?_,hl⟩,?_⟩
   rotate_left 2
   · have hq:zhu bs s=zpF (bx+(bs[s.i].toNat:Int)) 255:=by
       unfold zhu;rw [List.getElem?_eq_getElem hlt,hbx]
     rw [hq,zrn (by unfold I64;omega)]
   · have:zc0 bs s=⟨s.i+1,zpG s.h⟩:=by unfold zc0;rw [if_pos hlt]
     rw [this];exact hB5
   show (if s.i<bs.length then s.i+1 else s.i)≤_
   rw [if_pos hlt];omega
 have hge:¬s.i<bs.length:=by omega
 refine ⟨hc3,⟨v,hv,hx3',hg,?_,?_,hl⟩,?_⟩
 rotate_left 2
 · have hq:zhu bs s=bx:=by
     unfold zhu;rw [List.getElem?_eq_none (by omega),hbx]
   rw [hq]
 · have:zc0 bs s=⟨s.i,zpG s.h⟩:=by unfold zc0;rw [if_neg hge]
   rw [this];exact hB3
 show (if s.i<bs.length then s.i+1 else s.i)≤_
 rw [if_neg hge];exact hi
def F51 (a0 a1:Value) (w:World) (R:VW):Prop:=
 rB .leq 3 T0 U0 a1 (iV 0) w fun x10=>
 BR x10
 (R (iV 0) w)
 (rB .leq 3 T0 U0 a1 (iV 256) w fun x12=>
 BR x12
 (cL 50 [a0] w fun x14 w=>
 rB .rem 3 T0 T0 x14 a1 w fun x16=>
 R x16 w)
 (cL 50 [a0] w fun x18 w=>
 cL 50 [a0] w fun x20 w=>
 cL 50 [a0] w fun x22 w=>
 cL 50 [a0] w fun x24 w=>
 rB .mul 3 T0 U0 x18 (iV 16777216) w fun x26=>
 rB .mul 3 T0 U0 x20 (iV 65536) w fun x28=>
 rB .add 3 T0 T0 x26 x28 w fun x29=>
 rB .mul 3 T0 U0 x22 (iV 256) w fun x31=>
 rB .add 3 T0 T0 x29 x31 w fun x32=>
 rB .add 3 T0 T0 x32 x24 w fun x34=>
 rB .rem 3 T0 T0 x34 a1 w fun x36=>
 R x36 w))
def cfg51:Cfg:=⟨extL,[],[],[],[],[],[]⟩
theorem F51_call {a0 a1:Value} {w:World} {R:VW} (h:F51 a0 a1 w R):cL 51 [a0,a1] w R:=co (g:=cfg51) Tryz.func51 (by kernel_rfl) (by kernel_rfl) (by kernel_rfl) h
theorem zb3 {w:World} {W:World} {g:Nat} {bs:List UInt8} {s:Cur} {n:Int}  (hC:CurAt W g bs s w) (hn:n≤1000000000000) :
   CALL Tryz.prog 51 [.pointer (some ⟨g,0,none⟩),.int .i64 n] w fun r w'=>ChgI g (g+1) w w'∧(CurAt W g bs (zal bs n s) w'∧r=.int .i64 (zbg bs n s)):=by
 refine F51_call ?_
 unfold F51
 have hgl:=hC.lt
 have b1:=zej bs s
 have b2:=zej bs (zc0 bs s)
 have b3:=zej bs (zc0 bs (zc0 bs s))
 have b4:=zej bs (zc0 bs (zc0 bs (zc0 bs s)))
 refine zdD ?_
 refine br (fun c1=>?_) (fun c1=>?_)
 · refine ⟨(ChgI.refl w),?_⟩
   unfold zal zbg
   rw [if_pos c1,if_pos c1]
   exact ⟨hC,rfl⟩
 refine zdD ?_
 refine br (fun c2=>?_) (fun c2=>?_)
 · refine (zdR hC).mono ?_
   rintro _ w1_ ⟨hc1_,hC1_,rfl⟩
   have hs_hc1_:=hc1_.size
   have hs_hc1_:=hc1_.size
   refine zip (by omega) ?_
   refine ⟨hc1_,?_⟩
   unfold zal zbg
   rw [if_neg c1,if_neg c1,if_pos c2,if_pos c2]
   exact ⟨hC1_,rfl⟩
 refine (zdR hC).mono ?_
 rintro _ w2_ ⟨hc2_,hC2_,rfl⟩
 have hs_hc2_:=hc2_.size
 have hs_hc2_:=hc2_.size
 refine (zdR hC2_).mono ?_
 rintro _ w3_ ⟨hc3_,hC3_,rfl⟩
 have hs_hc3_:=hc3_.size
 have hs_hc3_:=hc3_.size
 refine (zdR hC3_).mono ?_
 rintro _ w4_ ⟨hc4_,hC4_,rfl⟩
 have hs_hc4_:=hc4_.size
 have hs_hc4_:=hc4_.size
 refine (zdR hC4_).mono ?_
 rintro _ w5_ ⟨hc5_,hC5_,rfl⟩
 have hs_hc5_:=hc5_.size
 have hs_hc5_:=hc5_.size
 refine zjC (by unfold I64;omega) ?_
 refine zjC (by unfold I64;omega) ?_
 refine zc4 (by unfold I64;omega) ?_
 refine zjC (by unfold I64;omega) ?_
 refine zc4 (by unfold I64;omega) ?_
 refine zc4 (by unfold I64;omega) ?_
 refine zip (by omega) ?_
 refine ⟨(ChgI.trans (ChgI.trans (ChgI.trans hc2_ hc3_) hc4_) hc5_),?_⟩
 unfold zal zbg
 rw [if_neg c1,if_neg c1,if_neg c2,if_neg c2]
 exact ⟨hC5_,rfl⟩
def F93 (a0 a1:Value) (w:World) (R:VW):Prop:=
 cL 51 [a0,a1] w fun x7 w=>
 rB .eql 3 T0 U0 x7 (iV 0) w fun x8=>
 R x8 w
def cfg93:Cfg:=⟨extL,[],[],[],[],[],[]⟩
theorem F93_call {a0 a1:Value} {w:World} {R:VW} (h:F93 a0 a1 w R):cL 93 [a0,a1] w R:=co (g:=cfg93) Tryz.func93 (by kernel_rfl) (by kernel_rfl) (by kernel_rfl) h
theorem zfV {w:World} {W:World} {g:Nat} {bs:List UInt8} {s:Cur} {n:Int}  (hC:CurAt W g bs s w) (hn:n≤1000000000000) :
   CALL Tryz.prog 93 [.pointer (some ⟨g,0,none⟩),.int .i64 n] w fun r w'=>ChgI g (g+1) w w'∧(CurAt W g bs (zal bs n s) w'∧r=.bool (decide (zbg bs n s=0))):=by
 refine F93_call ?_
 unfold F93
 refine (zb3 hC (by omega)).mono ?_
 rintro _ w1_ ⟨hc1_,hC1_,rfl⟩
 refine zaf ?_
 refine ⟨hc1_,?_⟩
 exact ⟨hC1_,rfl⟩
theorem zea {α:Type} {l:List α} {i:Nat} {d:α} (h:i<l.length):l[i]=l.getD i d:=by rw [List.getD_eq_getElem?_getD,List.getElem?_eq_getElem h];rfl
def F129 (a0 a1:Value) (w:World) (R:VW):Prop:=
 rN 24 3 a1 w fun x8=>
 cL 51 [a0,x8] w fun x9 w=>
 rX 24 a1 x9 w fun x10=>
 rL 9 x10 w fun x11=>
 R x11 w
def cfg129:Cfg:=⟨extL,[],[],[],[],[],[]⟩
theorem F129_call {a0 a1:Value} {w:World} {R:VW} (h:F129 a0 a1 w R):cL 129 [a0,a1] w R:=co (g:=cfg129) Tryz.func129 (by kernel_rfl) (by kernel_rfl) (by kernel_rfl) h
theorem zcO {w:World} {W:World} {g:Nat} {bs:List UInt8} {s:Cur} {v1:Value} {lo1 hi1:Nat} {l:(List ByteArray)}  (hC:CurAt W g bs s w) (h1:OwnI lo1 hi1 w v1 l) (hlo1:lo1≤w.heap.size) (hhi1:hi1≤w.heap.size) (hg1:g<lo1∨hi1≤g) (h0:0<l.length) (hn:l.length≤1000) :
   CALL Tryz.prog 129 [.pointer (some ⟨g,0,none⟩),v1] w fun r w'=>ChgI g (g+1) w w'∧(CurAt W g bs (zal bs (l.length:Int) s) w'∧r=.string (zct bs l s)∧(zct bs l s).size≤maxLen):=by
 refine F129_call ?_
 unfold F129
 have hgl:=hC.lt
 have hbx:=zb8 bs (n:=(l.length:Int)) (by omega) s
 have hln8:=zah h1.is
 refine zae u24 h1.is ?_
 refine (zb3 hC (by omega)).mono ?_
 rintro _ w1_ ⟨hc1_,hC1_,rfl⟩
 have hs_hc1_:=hc1_.size
 have hs_hc1_:=hc1_.size
 have h1_c1:=(h1.ext (Ext.refl w)).chg hc1_ (by omega)
 refine zav u24 ty9 h1_c1.is (by omega) (by omega) fun b10 o10 h10=>?_
 refine zas ty9 h10 (Ext.refl w1_) fun hS11=>?_
 refine ⟨hc1_,?_⟩
 refine ⟨hC1_,?_,?_⟩
 · unfold zct;rw [←zea (by omega)]
 unfold zct;rw [←zea (by omega)];assumption
def F128 (a0 a1:Value) (w:World) (R:VW):Prop:=
 rN 33 3 a1 w fun x8=>
 cL 51 [a0,x8] w fun x9 w=>
 rX 33 a1 x9 w fun x10=>
 rL 3 x10 w fun x11=>
 R x11 w
def cfg128:Cfg:=⟨extL,[],[],[],[],[],[]⟩
theorem F128_call {a0 a1:Value} {w:World} {R:VW} (h:F128 a0 a1 w R):cL 128 [a0,a1] w R:=co (g:=cfg128) Tryz.func128 (by kernel_rfl) (by kernel_rfl) (by kernel_rfl) h
theorem zg3 {w:World} {W:World} {g:Nat} {bs:List UInt8} {s:Cur} {v1:Value} {lo1 hi1:Nat} {l:(List Int)}  (hC:CurAt W g bs s w) (h1:OwnI lo1 hi1 w v1 l) (hlo1:lo1≤w.heap.size) (hhi1:hi1≤w.heap.size) (hg1:g<lo1∨hi1≤g) (h0:0<l.length) (hn:l.length≤1000) :
   CALL Tryz.prog 128 [.pointer (some ⟨g,0,none⟩),v1] w fun r w'=>ChgI g (g+1) w w'∧(CurAt W g bs (zal bs (l.length:Int) s) w'∧r=.int .i64 (zhv bs l s)∧I64 (zhv bs l s)):=by
 refine F128_call ?_
 unfold F128
 have hgl:=hC.lt
 have hbx:=zb8 bs (n:=(l.length:Int)) (by omega) s
 have hln8:=zah h1.is
 refine zae u33 h1.is ?_
 refine (zb3 hC (by omega)).mono ?_
 rintro _ w1_ ⟨hc1_,hC1_,rfl⟩
 have hs_hc1_:=hc1_.size
 have hs_hc1_:=hc1_.size
 have h1_c1:=(h1.ext (Ext.refl w)).chg hc1_ (by omega)
 refine zav u33 ty3 h1_c1.is (by omega) (by omega) fun b10 o10 h10=>?_
 refine zac ty3 h10 (Ext.refl w1_) fun hI11=>?_
 refine ⟨hc1_,?_⟩
 refine ⟨hC1_,?_,?_⟩
 · unfold zhv;rw [←zea (by omega)]
 unfold zhv;rw [←zea (by omega)];assumption
section
variable {w:World} {lo hi l0 h0 l1 h1:Nat} {K:Value→Prop}
theorem zeI {α:Type} [Rep α] {v:Value} {l:List α} (h:OwnI lo hi w v l):∃ a cap,v=.slice a l.length cap:=by
 obtain ⟨F,⟨⟨cs,⟨a,cap,Fi,xs,rfl,_⟩,hv⟩,_⟩,_⟩:=h
 exact ⟨a,cap,by simpa [mkv,Rep.agg] using hv⟩
theorem zb9 {α:Type} [Rep α]:OwnI (α:=List α) lo hi w (.slice none 0 0) []:=zb6 none
theorem zja:I64 0:=by unfold I64;omega
theorem zhA:nO.size≤maxLen:=by decide
theorem znG {a b:Int} (ha:I64 a) (hb:I64 b) (k:∀ v,OwnI lo hi w v (DTerm.mk a b nO [])→K v):RD Tryz.prog (Instr.build 53 #[(0,.int .i64 a),(1,.int .i64 b)]) w K:=
 zaT (cells:=#[.int .i64 a,.int .i64 b,.string nO,.slice none 0 0]) (by kernel_rfl) (k _ (zfr ha hb zhA zb9))
theorem znH {a:Int} {s:ByteArray} (ha:I64 a) (hs:s.size≤maxLen) (k:∀ v,OwnI lo hi w v (DTerm.mk a 0 s [])→K v):RD Tryz.prog (Instr.build 53 #[(0,.int .i64 a),(2,.string s)]) w K:=
 zaT (cells:=#[.int .i64 a,.int .i64 0,.string s,.slice none 0 0]) (by kernel_rfl) (k _ (zfr ha zja hs zb9))
theorem zjb {a:Int} {u:Value} {l:List DTerm} (ha:I64 a) (hu:OwnI lo hi w u l) (k:∀ v,OwnI lo hi w v (DTerm.mk a 0 nO l)→K v):RD Tryz.prog (Instr.build 53 #[(0,.int .i64 a),(3,u)]) w K:=by
 obtain ⟨p,q,rfl⟩:=zeI hu
 exact zaT (cells:=#[.int .i64 a,.int .i64 0,.string nO,.slice p l.length q]) (by kernel_rfl) (k _ (zfr ha zja zhA hu))
theorem zeJ:OwnI lo hi w (.agg #[.int .i64 0,.int .i64 0,.string nO,.slice none 0 0]) term0:=zfr zja zja zhA zb9
theorem mkS {k:Int} {s:ByteArray} {t:DTerm} {c0 c1 c2 c3 vb ve:Value} {bs es:List DStmt} {l0 h0 l1 h1 l2 h2:Nat} (hk:I64 k) (hs:s.size≤maxLen) (ht:OwnI l0 h0 w (.agg #[c0,c1,c2,c3]) t) (hb:OwnI l1 h1 w vb bs) (he:OwnI l2 h2 w ve es)
   (d01:h0≤l1∨h1≤l0) (d02:h0≤l2∨h2≤l0) (d12:h1≤l2∨h2≤l1) (b0:lo≤l0∧h0≤hi) (b1:lo≤l1∧h1≤hi) (b2:lo≤l2∧h2≤hi) :
   OwnI lo hi w (.agg #[.int .i64 k,.string s,c0,c1,c2,c3,vb,ve]) (DStmt.mk k s t bs es):=zrm hk hs ht hb he d01 d02 d12 b0 b1 b2
theorem zhB {a:Int} (hl:lo≤hi) (ha:I64 a) (k:∀ v,OwnI lo hi w v (DStmt.mk a nO term0 [] [])→K v):RD Tryz.prog (Instr.build 56 #[(0,.int .i64 a)]) w K:=
 zaT (cells:=#[.int .i64 a,.string nO,.int .i64 0,.int .i64 0,.string nO,.slice none 0 0,.slice none 0 0,.slice none 0 0]) (by kernel_rfl)
   (k _ (mkS (l0:=lo) (h0:=lo) (l1:=lo) (h1:=lo) (l2:=lo) (h2:=lo) ha zhA zeJ zb9 zb9 (by omega) (by omega) (by omega) (by omega) (by omega) (by omega)))
theorem zcu {a:Int} {s:ByteArray} (hl:lo≤hi) (ha:I64 a) (hs:s.size≤maxLen) (k:∀ v,OwnI lo hi w v (DStmt.mk a s term0 [] [])→K v):RD Tryz.prog (Instr.build 56 #[(0,.int .i64 a),(1,.string s)]) w K:=
 zaT (cells:=#[.int .i64 a,.string s,.int .i64 0,.int .i64 0,.string nO,.slice none 0 0,.slice none 0 0,.slice none 0 0]) (by kernel_rfl)
   (k _ (mkS (l0:=lo) (h0:=lo) (l1:=lo) (h1:=lo) (l2:=lo) (h2:=lo) ha hs zeJ zb9 zb9 (by omega) (by omega) (by omega) (by omega) (by omega) (by omega)))
theorem zmd {a:Int} {s:ByteArray} {u:Value} {t:DTerm} (hl:lo≤hi) (ha:I64 a) (hs:s.size≤maxLen) (hu:OwnI lo hi w u t) (k:∀ v,OwnI lo hi w v (DStmt.mk a s t [] [])→K v):RD Tryz.prog (Instr.build 56 #[(0,.int .i64 a),(1,.string s),(2,u)]) w K:=by
 obtain ⟨p,q,rfl⟩:=zfS hu.is
 exact zaT (cells:=#[.int .i64 a,.string s,.int .i64 t.kind,.int .i64 t.num,.string t.name,.slice p t.kids.length q,.slice none 0 0,.slice none 0 0]) (by kernel_rfl)
   (k _ (mkS (l1:=lo) (h1:=lo) (l2:=lo) (h2:=lo) ha hs hu zb9 zb9 (by omega) (by omega) (by omega) (by omega) (by omega) (by omega)))
theorem zhR {a:Int} {u v1:Value} {t:DTerm} {bs:List DStmt} (ha:I64 a) (hu:OwnI l0 h0 w u t) (hv:OwnI l1 h1 w v1 bs) (d:h0≤l1∨h1≤l0) (b0:lo≤l0∧h0≤hi) (b1:lo≤l1∧h1≤hi) (hl:lo≤hi)
   (k:∀ v,OwnI lo hi w v (DStmt.mk a nO t bs [])→K v):RD Tryz.prog (Instr.build 56 #[(0,.int .i64 a),(2,u),(3,v1)]) w K:=by
 obtain ⟨p,q,rfl⟩:=zfS hu.is
 obtain ⟨p2,q2,rfl⟩:=zeI hv
 refine zaT (cells:=#[.int .i64 a,.string nO,.int .i64 t.kind,.int .i64 t.num,.string t.name,.slice p t.kids.length q,.slice p2 bs.length q2,.slice none 0 0]) (by kernel_rfl) (k _ ?_)
 rcases d with d | d
 · exact mkS (l2:=min lo l0) (h2:=min lo l0) ha zhA hu hv zb9 (.inl d) (by omega) (by omega) b0 b1 (by omega)
 exact mkS (l2:=min lo l0) (h2:=min lo l0) ha zhA hu hv zb9 (.inr d) (by omega) (by omega) b0 b1 (by omega)
end
section
variable {bs:List UInt8} {n:Nat} {s:Cur}
theorem zme (h:zd8 bs n s<3):zaq bs n s=(.mk 1 (zhv bs zuq (zal bs 12 s)) nO [],zal bs 8 (zal bs 12 s)):=by
 cases n with
 | zero=>rw [zaq,if_pos h]
 | succ n=>rw [zaq,if_pos h]
theorem zmf (h:¬zd8 bs n s<3) (h2:zd8 bs n s<6):zaq bs n s=(.mk 2 0 (zct bs zpZ (zal bs 12 s)) [],zal bs 5 (zal bs 12 s)):=by
 cases n with
 | zero=>rw [zaq,if_neg h]
 | succ n=>rw [zaq,if_neg h,if_pos h2]
theorem zel (h2:¬zd8 bs n s<6):0<n:=by
 cases n with
 | zero=>have:=zur bs s;omega
 | succ n=>omega
theorem zmg (h:¬zd8 bs n s<3) (h2:¬zd8 bs n s<6) (h3:zd8 bs n s=6):zaq bs n s=(.mk 8 0 nO [(zaq bs (n-1) (zal bs 12 s)).1],(zaq bs (n-1) (zal bs 12 s)).2):=by
 have:=zel h2
 obtain ⟨m,rfl⟩:∃ m,n=m+1:=⟨n-1,by omega⟩
 rw [zaq,if_neg h,if_neg h2,if_pos h3];rfl
theorem zmh (h:¬zd8 bs n s<3) (h2:¬zd8 bs n s<6) (h3:¬zd8 bs n s=6):zaq bs n s=(.mk (zhv bs opL (zal bs 12 s)) 0 nO [(zaq bs (n-1) (zal bs 6 (zal bs 12 s))).1,(zaq bs (n-1) (zaq bs (n-1) (zal bs 6 (zal bs 12 s))).2).1],
     (zaq bs (n-1) (zaq bs (n-1) (zal bs 6 (zal bs 12 s))).2).2):=by
 have:=zel h2
 obtain ⟨m,rfl⟩:∃ m,n=m+1:=⟨n-1,by omega⟩
 rw [zaq,if_neg h,if_neg h2,if_neg h3];rfl
end
def ztG (n:Nat):Prop:=∀ {W w:World} {g:Nat} {bs:List UInt8} {s:Cur} {d:Int},CurAt W g bs s w→d=(n:Int) →
 CALL Tryz.prog 60 [.pointer (some ⟨g,0,none⟩),.int .i64 d] w fun r w'=>ChgI g (g+1) w w'∧CurAt W g bs (zaq bs n s).2 w'∧OwnI w.heap.size w'.heap.size w' r (zaq bs n s).1
def F60 (a0 a1:Value) (w:World) (R:VW):Prop:=
 oP (Instr.alloc 53 true (.tuple #[])) w fun x4 w=>
 cL 51 [a0,(iV 12)] w fun x7 w=>
 JOIN [5] (fun J4=>
 rB .leq 3 T0 U0 a1 (iV 0) w fun x9=>
 BR x9
 (rB .geq 3 T0 U0 x7 (iV 6) w fun x12=>
 BR x12
 (rB .sub 3 T0 U0 x7 (iV 6) w fun x15=>
 J4 [x15] w)
 (J4 [x7] w))
 (J4 [x7] w)) (fun u4 w=>
 rB .lss 3 T0 U0 (u4 5) (iV 3) w fun x18=>
 BR x18
 (oP (Instr.buildSlice 33 8 #[(0,(iV 0)),(1,(iV 1)),(2,(iV 2)),(3,(iV 3)),(4,(iV 7)),(5,(iV 999)),(6,(iV 1000)),(7,(iV 1000000000))]) w fun x20 w=>
 cL 128 [a0,x20] w fun x21 w=>
 rD (Instr.build 53 #[(0,(iV 1)),(1,x21)]) w fun x22=>
 oS 53 x4 x22 w fun w=>
 rD (zax 53 x4) w fun r4=>R r4 w)
 (rB .lss 3 T0 U0 (u4 5) (iV 6) w fun x25=>
 BR x25
 (oP (Instr.buildSlice 24 5 #[(0,(Value.string (ByteArray.mk #[120]))),(1,(Value.string (ByteArray.mk #[121]))),(2,(Value.string (ByteArray.mk #[122]))),(3,(Value.string (ByteArray.mk #[120]))),(4,(Value.string (ByteArray.mk #[117])))]) w fun x27 w=>
 cL 129 [a0,x27] w fun x28 w=>
 rD (Instr.build 53 #[(0,(iV 2)),(2,x28)]) w fun x29=>
 oS 53 x4 x29 w fun w=>
 rD (zax 53 x4) w fun r4=>R r4 w)
 (rB .eql 3 T0 U0 (u4 5) (iV 6) w fun x32=>
 BR x32
 (rB .sub 3 T0 U0 a1 (iV 1) w fun x35=>
 cL 60 [a0,x35] w fun x36 w=>
 oP (Instr.buildSlice 51 1 #[(0,x36)]) w fun x37 w=>
 rD (Instr.build 53 #[(0,(iV 8)),(3,x37)]) w fun x38=>
 oS 53 x4 x38 w fun w=>
 rD (zax 53 x4) w fun r4=>R r4 w)
 (oP (Instr.buildSlice 33 6 #[(0,(iV 3)),(1,(iV 4)),(2,(iV 5)),(3,(iV 6)),(4,(iV 7)),(5,(iV 9))]) w fun x40 w=>
 cL 128 [a0,x40] w fun x41 w=>
 rB .sub 3 T0 U0 a1 (iV 1) w fun x44=>
 cL 60 [a0,x44] w fun x45 w=>
 rB .sub 3 T0 U0 a1 (iV 1) w fun x48=>
 cL 60 [a0,x48] w fun x49 w=>
 oP (Instr.buildSlice 51 2 #[(0,x45),(1,x49)]) w fun x50 w=>
 rD (Instr.build 53 #[(0,x41),(3,x50)]) w fun x51=>
 oS 53 x4 x51 w fun w=>
 rD (zax 53 x4) w fun r4=>R r4 w))))
def cfg60:Cfg:=⟨extL,[(4,65312,[5])],[],[],[],[],[]⟩
theorem F60_call {a0 a1:Value} {w:World} {R:VW} (h:F60 a0 a1 w R):cL 60 [a0,a1] w R:=co (g:=cfg60) Tryz.func60 (by kernel_rfl) (by kernel_rfl) (by kernel_rfl) h
theorem zmi {w:World} {W:World} {g:Nat} {bs:List UInt8} {s:Cur} {d:Int} {n:Nat} (hC:CurAt W g bs s w) (hd:d=(n:Int)) (ih:∀ m,m+1=n→ztG m) (hn:n≤10) :
   CALL Tryz.prog 60 [.pointer (some ⟨g,0,none⟩),.int .i64 d] w fun r w'=>ChgI g (g+1) w w'∧(CurAt W g bs (zaq bs n s).2 w'∧OwnI w.heap.size w'.heap.size w' r (zaq bs n s).1):=by
 refine F60_call ?_
 unfold F60
 have hgl:=hC.lt
 have hb12:=zb8 bs (n:=12) (by omega) s
 refine zcB (α:=DTerm) zuU fun w1_ hx1_ hv4=>?_
 have hg4:=hv4.lt
 have hs_hx1_:=hx1_.size
 refine (zb3 (CurAt.ext hC hx1_) (by omega)).mono ?_
 rintro _ w2_ ⟨hc2_,hC2_,rfl⟩
 have hs_hc2_:=hc2_.size
 have hs_hc2_:=hc2_.size
 have hv4_c2:=(hv4.ext (Ext.refl w1_)).chg hc2_ (by omega) (by omega)
 refine JOIN.mk (fun us w'=>us=[.int .i64 (zd8 bs n s)]∧Ext w2_ w'∧(True)) ?_ ?_
 · refine zdD ?_
   refine br (fun c1=>?_) (fun c1=>?_)
   · refine zb5 ?_
     refine br (fun c2=>?_) (fun c2=>?_)
     · refine za3 (by unfold I64;omega) ?_
       refine ⟨by unfold zd8;rw [if_pos (by omega)],Ext.refl w2_,?_⟩
       trivial
     refine ⟨by unfold zd8;rw [if_neg (by omega)],Ext.refl w2_,?_⟩
     trivial
   refine ⟨by unfold zd8;rw [if_neg (by omega)],Ext.refl w2_,?_⟩
   trivial
 rintro uj4 w3_ ⟨hu,hx3_,_⟩
 have hs_hx3_:=hx3_.size
 simp only [List.map_cons,List.map_nil,List.cons.injEq,and_true] at hu
 try rw [hu]
 try clear hu
 refine zai ?_
 refine br (fun c3=>?_) (fun c3=>?_)
 · refine zfu (vs:=([0,1,2,3,7,999,1000,1000000000]:List Int).map (Value.int .i64)) u33 ty3 zvy (by decide) (by kernel_rfl) rfl (fun w=>zhy (by simp [I64])) fun v20 w4_ hx4_ o20=>?_
   have hs_hx4_:=hx4_.size
   refine (zg3 (CurAt.ext (CurAt.ext hC2_ hx3_) hx4_) (o20.ext (Ext.refl w4_)) (by omega) (by omega) (by omega) (by decide) (by decide)).mono ?_
   rintro _ w5_ ⟨hc5_,hC5_,rfl,hI21⟩
   have hs_hc5_:=hc5_.size
   have hs_hc5_:=hc5_.size
   have hv4_c5:=(hv4_c2.ext (hx3_.trans hx4_)).chg hc5_ (by omega) (by omega)
   have o20_c5:=(o20.ext (Ext.refl w4_)).chg hc5_ (by omega)
   refine znG (lo:=w5_.heap.size) (hi:=w5_.heap.size) (by first | assumption | (unfold I64;omega)) (by first | assumption | (unfold I64;omega)) fun v22 o22=>?_
   refine zaF zcd (hv4_c5.ext (Ext.refl w5_)) (o22.ext (Ext.refl w5_)) (by omega) fun w6_ hc6_ hv4_s6=>?_
   have hs_hc6_:=hc6_.size
   have o20_c6:=(o20_c5.ext (Ext.refl w5_)).chg hc6_ (by omega)
   have o22_c6:=(o22.ext (Ext.refl w5_)).chg hc6_ (by omega)
   refine zbh zcd hv4_s6 (Ext.refl w6_) fun r4 hr4=>?_
   replace hr4:=hr4.ext (Ext.refl w6_)
   refine ⟨(ChgI.out (ChgI.trans (ChgI.trans (ChgI.trans (ChgI.trans (Ext.toI hx1_) hc2_) (Ext.toI hx3_)) (Ext.toI hx4_)) hc5_) hc6_ (by omega)),?_⟩
   rw [zme (by omega)]
   exact ⟨(CurAt.chg hC5_ hc6_ (by omega) (by omega)),hr4.mono (by omega) (by omega)⟩
 refine zai ?_
 refine br (fun c4=>?_) (fun c4=>?_)
 · refine zfu (vs:=([ByteArray.mk #[120],ByteArray.mk #[121],ByteArray.mk #[122],ByteArray.mk #[120],ByteArray.mk #[117]]:List ByteArray).map Value.string) u24 ty9 zb2 (by decide) (by kernel_rfl) rfl (fun w=>zcb (by decide)) fun v27 w7_ hx7_ o27=>?_
   have hs_hx7_:=hx7_.size
   refine (zcO (CurAt.ext (CurAt.ext hC2_ hx3_) hx7_) (o27.ext (Ext.refl w7_)) (by omega) (by omega) (by omega) (by decide) (by decide)).mono ?_
   rintro _ w8_ ⟨hc8_,hC8_,rfl,hS28⟩
   have hs_hc8_:=hc8_.size
   have hs_hc8_:=hc8_.size
   have hv4_c8:=(hv4_c2.ext (hx3_.trans hx7_)).chg hc8_ (by omega) (by omega)
   have o27_c8:=(o27.ext (Ext.refl w7_)).chg hc8_ (by omega)
   refine znH (lo:=w8_.heap.size) (hi:=w8_.heap.size) (by first | assumption | (unfold I64;omega)) (by first | assumption | decide) fun v29 o29=>?_
   refine zaF zcd (hv4_c8.ext (Ext.refl w8_)) (o29.ext (Ext.refl w8_)) (by omega) fun w9_ hc9_ hv4_s9=>?_
   have hs_hc9_:=hc9_.size
   have o27_c9:=(o27_c8.ext (Ext.refl w8_)).chg hc9_ (by omega)
   have o29_c9:=(o29.ext (Ext.refl w8_)).chg hc9_ (by omega)
   refine zbh zcd hv4_s9 (Ext.refl w9_) fun r4 hr4=>?_
   replace hr4:=hr4.ext (Ext.refl w9_)
   refine ⟨(ChgI.out (ChgI.trans (ChgI.trans (ChgI.trans (ChgI.trans (Ext.toI hx1_) hc2_) (Ext.toI hx3_)) (Ext.toI hx7_)) hc8_) hc9_ (by omega)),?_⟩
   rw [zmf (by omega) (by omega)]
   exact ⟨(CurAt.chg hC8_ hc9_ (by omega) (by omega)),hr4.mono (by omega) (by omega)⟩
 refine zaf ?_
 refine br (fun c5=>?_) (fun c5=>?_)
 · refine za3 (by unfold I64;omega) ?_
   have hnp:=zel (show ¬zd8 bs n s<6 by omega)
   refine (ih (n-1) (by omega) (CurAt.ext hC2_ hx3_) (by omega)).mono ?_
   rintro r36 w10_ ⟨hc10_,hC10_,o36⟩
   have hs_hc10_:=hc10_.size
   have hs_hc10_:=hc10_.size
   have hv4_c10:=(hv4_c2.ext hx3_).chg hc10_ (by omega) (by omega)
   refine zey (α:=DTerm) u51 zcd z53 (by decide) (o36.ext (Ext.refl w10_)) (by omega) fun v37 w11_ hx11_ o37=>?_
   have hs_hx11_:=hx11_.size
   refine zjb (lo:=w3_.heap.size) (hi:=w11_.heap.size) (by first | assumption | (unfold I64;omega)) (o37.ext (Ext.refl w11_)) fun v38 o38=>?_
   refine zaF zcd (hv4_c10.ext hx11_) (o38.ext (Ext.refl w11_)) (by omega) fun w12_ hc12_ hv4_s12=>?_
   have hs_hc12_:=hc12_.size
   have o36_c12:=(o36.ext hx11_).chg hc12_ (by omega)
   have o37_c12:=(o37.ext (Ext.refl w11_)).chg hc12_ (by omega)
   have o38_c12:=(o38.ext (Ext.refl w11_)).chg hc12_ (by omega)
   refine zbh zcd hv4_s12 (Ext.refl w12_) fun r4 hr4=>?_
   replace hr4:=hr4.ext (Ext.refl w12_)
   refine ⟨(ChgI.out (ChgI.trans (ChgI.trans (ChgI.trans (ChgI.trans (Ext.toI hx1_) hc2_) (Ext.toI hx3_)) hc10_) (Ext.toI hx11_)) hc12_ (by omega)),?_⟩
   rw [zmg (by omega) (by omega) (by omega)]
   exact ⟨(CurAt.chg (CurAt.ext hC10_ hx11_) hc12_ (by omega) (by omega)),hr4.mono (by omega) (by omega)⟩
 refine zfu (vs:=([3,4,5,6,7,9]:List Int).map (Value.int .i64)) u33 ty3 zvy (by decide) (by kernel_rfl) rfl (fun w=>zhy (by simp [I64])) fun v40 w13_ hx13_ o40=>?_
 have hs_hx13_:=hx13_.size
 refine (zg3 (CurAt.ext (CurAt.ext hC2_ hx3_) hx13_) (o40.ext (Ext.refl w13_)) (by omega) (by omega) (by omega) (by decide) (by decide)).mono ?_
 rintro _ w14_ ⟨hc14_,hC14_,rfl,hI41⟩
 have hs_hc14_:=hc14_.size
 have hs_hc14_:=hc14_.size
 have hv4_c14:=(hv4_c2.ext (hx3_.trans hx13_)).chg hc14_ (by omega) (by omega)
 have o40_c14:=(o40.ext (Ext.refl w13_)).chg hc14_ (by omega)
 refine za3 (by unfold I64;omega) ?_
 have hnp:=zel (show ¬zd8 bs n s<6 by omega)
 refine (ih (n-1) (by omega) hC14_ (by omega)).mono ?_
 rintro r45 w15_ ⟨hc15_,hC15_,o45⟩
 have hs_hc15_:=hc15_.size
 have hs_hc15_:=hc15_.size
 have hv4_c15:=(hv4_c14.ext (Ext.refl w14_)).chg hc15_ (by omega) (by omega)
 have o40_c15:=(o40_c14.ext (Ext.refl w14_)).chg hc15_ (by omega)
 refine za3 (by unfold I64;omega) ?_
 refine (ih (n-1) (by omega) hC15_ (by omega)).mono ?_
 rintro r49 w16_ ⟨hc16_,hC16_,o49⟩
 have hs_hc16_:=hc16_.size
 have hs_hc16_:=hc16_.size
 have hv4_c16:=(hv4_c15.ext (Ext.refl w15_)).chg hc16_ (by omega) (by omega)
 have o40_c16:=(o40_c15.ext (Ext.refl w15_)).chg hc16_ (by omega)
 have o45_c16:=(o45.ext (Ext.refl w15_)).chg hc16_ (by omega)
 refine zpL (α:=DTerm) (lo:=w14_.heap.size) u51 zcd z53 (by decide) (o45_c16.ext (Ext.refl w16_)) (o49.ext (Ext.refl w16_)) (by omega) (by omega) fun v50 w17_ hx17_ o50=>?_
 have hs_hx17_:=hx17_.size
 refine zjb (lo:=w14_.heap.size) (hi:=w17_.heap.size) (by first | assumption | (unfold I64;omega)) (o50.ext (Ext.refl w17_)) fun v51 o51=>?_
 refine zaF zcd (hv4_c16.ext hx17_) (o51.ext (Ext.refl w17_)) (by omega) fun w18_ hc18_ hv4_s18=>?_
 have hs_hc18_:=hc18_.size
 have o40_c18:=(o40_c16.ext hx17_).chg hc18_ (by omega)
 have o45_c18:=(o45_c16.ext hx17_).chg hc18_ (by omega)
 have o49_c18:=(o49.ext hx17_).chg hc18_ (by omega)
 have o50_c18:=(o50.ext (Ext.refl w17_)).chg hc18_ (by omega)
 have o51_c18:=(o51.ext (Ext.refl w17_)).chg hc18_ (by omega)
 refine zbh zcd hv4_s18 (Ext.refl w18_) fun r4 hr4=>?_
 replace hr4:=hr4.ext (Ext.refl w18_)
 refine ⟨(ChgI.out (ChgI.trans (ChgI.trans (ChgI.trans (ChgI.trans (ChgI.trans (ChgI.trans (ChgI.trans (Ext.toI hx1_) hc2_) (Ext.toI hx3_)) (Ext.toI hx13_)) hc14_) hc15_) hc16_) (Ext.toI hx17_)) hc18_ (by omega)),?_⟩
 rw [zmh (by omega) (by omega) (by omega)]
 exact ⟨(CurAt.chg (CurAt.ext hC16_ hx17_) hc18_ (by omega) (by omega)),hr4.mono (by omega) (by omega)⟩
theorem zfW:∀ (n:Nat),n≤10→ztG n
 | n,hn=>by
   intro h hd
   exact zmi h hd (fun m hm=>zfW m (by omega)) hn
end Go.Proofs.YtcnglfeoglgebaaGreat
