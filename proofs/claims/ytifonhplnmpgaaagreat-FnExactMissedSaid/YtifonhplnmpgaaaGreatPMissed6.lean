/-
  Parts of the proof, put together by program.
-/
import Derived.Test.YtifonhplnmpgaaaGreatPMissed5
set_option linter.unusedVariables false
set_option linter.unusedSimpArgs false
set_option linter.unusedSectionVars false
namespace Go.Proofs.YtifonhplnmpgaaaGreat
open Go Go.Sh Go.Proofs
open Rep (rep)
theorem zhg {lo hi:Nat} {w:World} {x:DTouch} (h1:I64 x.at_) (h2:I64 x.global) (h3:I64 x.held):OwnI lo hi w (.agg #[.int .i64 x.at_,.int .i64 x.global,.bool x.write,.int .i64 x.held]) x:=
 ⟨[],zrB h1 h2 h3,by simp⟩
def zcr (c:DCode) (a:Int) (held:Int) (i:DIns):Nat→List DTouch
 | 0=>[]
 | k+1=>zcr c a held i k++(if c.globals.getD k ByteArray.empty∈zcb i.term then [⟨a,k,false,held⟩] else [])++(if i.op=1∧i.arg=k then [⟨a,k,true,held⟩] else [])
def zcs (c:DCode) (a:Int) (held:Int):List DTouch:=
 if (zal c a.toNat).op=1∨(zal c a.toNat).op=2 then zcr c a held (zal c a.toNat) c.globals.length else []
theorem zfi (c:DCode) (a held:Int) (i:DIns):∀ k,(zcr c a held i k).length≤2*k
 | 0=>by simp [zcr]
 | k+1=>by
   have:=zfi c a held i k;rw [zcr,List.length_append,List.length_append];split<;>split<;>simp<;>omega
theorem zjF (c:DCode) (a held:Int):(zcs c a held).length≤2*c.globals.length:=by
 unfold zcs;split
 · exact zfi _ _ _ _ _
 simp
def F114 (a0 a1 a2:Value) (w:World) (R:VW):Prop:=
 oX 32 a0 w λx3 w=>
 rF 32 x3 4 w λx12=>
 rL 30 x12 w λx13=>
 rX 30 x13 a1 w λx15=>
 rL 111 x15 w λx16=>
 oP (aL 111) w λx7 w=>
 oS 111 x7 x16 w λw=>
 JOIN [] (λJ4=>
 rF 111 x7 0 w λx17=>
 rL 3 x17 w λx18=>
 rB .neq 3 T0 U0 x18 (iV 1) w λx19=>
 BR x19
 (rF 111 x7 0 w λx21=>
 rL 3 x21 w λx22=>
 rB .neq 3 T0 U0 x22 (iV 2) w λx23=>
 BR x23
 (R (Value.slice none 0 0) w)
 (J4 [] w))
 (J4 [] w)) (λu4 w=>
 rF 111 x7 2 w λx25=>
 rL 109 x25 w λx26=>
 cL 168 [x26] w λx27 w=>
 rF 32 x3 0 w λx28=>
 rL 22 x28 w λx29=>
 rN 22 3 x29 w λx30=>
 LOOPI [9,31] [(Value.slice none 0 0),(iV 0)] w λu7 w n7=>
 rC (u7 31) x30 w λx32=>
 BR x32
 (rX 22 x29 (u7 31) w λx34=>
 rL 9 x34 w λx35=>
 JOIN [9] (λJ11=>
 cL 169 [x27,x35] w λx38 w=>
 BR x38
 (rD (Instr.build 134 #[(0,a1),(1,(u7 31)),(3,a2)]) w λx43=>
 oP (bS 130 x43) w λx44 w=>
 oP (aP 130 (u7 9) x44) w λx45 w=>
 J11 [x45] w)
 (J11 [(u7 9)] w)) (λu11 w=>
 rF 111 x7 0 w λx46=>
 rL 3 x46 w λx47=>
 rQ x47 (iV 1) w λx48=>
 BR x48
 (rF 111 x7 1 w λx50=>
 rL 3 x50 w λx51=>
 rB .eql 3 T0 T0 x51 (u7 31) w λx53=>
 BR x53
 (rD (Instr.build 134 #[(0,a1),(1,(u7 31)),(2,vT),(3,a2)]) w λx59=>
 oP (bS 130 x59) w λx60 w=>
 oP (aP 130 (u11 9) x60) w λx61 w=>
 rI (u7 31) w λx62=>
 n7 [x61,x62] w)
 (rI (u7 31) w λx62=>
 n7 [(u11 9),x62] w))
 (rI (u7 31) w λx62=>
 n7 [(u11 9),x62] w)))
 (R (u7 9) w))
theorem F114_call {a0 a1 a2 w R} (h:F114 a0 a1 a2 w R):cL 114 [a0,a1,a2] w R:=co (g:=(kf [(4,33423424,[]),(11,70300024701440,[9])] [(7,9223372034707295744,[9,31])] [])) Tryz.func114 h
theorem zib {w:World} {v0:Value} {W0:World} {c:DCode} {a:Int} {held:Int}  (h0:Is W0 v0 c) (e0:Ext W0 w) (hc:CodeR c) (ha:0≤a) (ha2:a<c.ins.length) (hh:I64 held) :
   CALL tp 114 [v0,.int .i64 a,.int .i64 held] w λr w'=>Ext w w'∧(Own w.heap.size w' r (zcs c a held)):=by
 refine F114_call ?_;unfold F114;have hil:=hc.f.ins;have hg6:c.globals.length≤6:=by have h1:=hc.1.1;simp only [Bool.and_eq_true,decide_eq_true_eq] at h1;omega
 have σe0:=e0.size;refine zar zbq rfl h0 e0 λw1_ η1 hA3 hV3=>?_;have σ1:=η1.size;refine zab zaD ?_;refine zaa zcu (zai hA3) (Ext.refl w1_) λv13 h13=>?_;refine zaW u30 zaO h13 (by omega) (by omega) λb15 o15 h15=>?_;rw [zaz] at h15;obtain ⟨i,hi⟩:∃ i,i=zal c a.toNat:=⟨_,rfl⟩;rw [←hi] at h15;refine zaa zaO h15 (Ext.refl w1_) λv16 h16=>?_;refine zb7 zfx rfl zaO rfl h16 (Ext.refl w1_) λw2_ η2 hA7 hV7=>?_;have σ2:=η2.size;have hg7:=hV7.lt;refine JOIN.mk (λus w'=>us=[]∧Ext w2_ w'∧(i.op=1∨i.op=2)) ?_ ?_
 · refine zab zaM ?_
   refine zad ty3 (zav hA7) (Ext.refl w2_) λhI18=>?_;refine zaB ?_;refine br (λc1=>?_) (λc1=>?_)
   · refine zab zaM ?_
     refine zad ty3 (zav hA7) (Ext.refl w2_) λhI22=>?_;refine zaB ?_;refine br (λc2=>?_) (λc2=>?_)
     · refine ⟨(η1.t η2),?_⟩
       unfold zcs;rw [←hi,if_neg (by omega)];exact zkZ rfl
     refine ⟨by simp,Ext.refl w2_,?_⟩;omega
   refine ⟨by simp,Ext.refl w2_,?_⟩;omega
 rintro uj4 w3_ ⟨hu,η3,hop⟩;have σ3:=η3.size;try replace hu:=zbi hu
 clear hu;refine zab zcf ?_;refine zaa zbB (zbG hA7) η3 λv26 h26=>?_;refine (zeF h26 η3).mono ?_;rintro r27 w4_ ⟨η4,h27⟩;have σ4:=η4.size;refine zab zdi ?_;refine zaa zb1 (za8 hA3) (η2.t (η3.t η4)) λv29 h29=>?_;have hln30:=zah h29;refine zae u22 h29 ?_;refine zam (c.globals.length) (λk us w'=>∃ v:Value,us=[v,.int .i64 (k:Int)]∧Ext w4_ w'∧(RowI w4_.heap.size w'.heap.size 134 w' v (zcr c a held i k))) (0) (by omega) ⟨_,rfl,Ext.refl w4_,zcv _ _ _ _⟩ ?_;rintro k m7 uu7 w5_ hk7 ⟨v9,hu,η5,hrow⟩;have σ5:=η5.size;obtain ⟨hu0,hu1⟩:=zbL hu;clear hu;try rw [hu0]
 try rw [hu1]
 try clear hu0 hu1
 have hrl:=zfi c a held i k;refine zag ?_;refine br (λc3=>?_) (λc3=>?_)
 · refine zac u22 ty9 h29 (by omega) λb34 o34 h34=>?_
   refine zaS ty9 h34 (η2.t (η3.t (η4.t η5))) λhS35=>?_;refine JOIN.mk (λus w'=>∃ v:Value,us=[v]∧Ext w4_ w'∧(RowI w4_.heap.size w'.heap.size 134 w' v (zcr c a held i k++(if c.globals.getD k ByteArray.empty∈zcb i.term then [⟨a,k,false,held⟩] else [])))) ?_ ?_
   · have hgk:c.globals[k]'(by omega)=c.globals.getD k ByteArray.empty:=by rw [List.getD_eq_getElem?_getD,List.getElem?_eq_getElem (by omega)];rfl
     refine (zco h27 η5).mono ?_;rintro _ w7_ ⟨η7,rfl⟩;have σ7:=η7.size;refine br (λc4=>?_) (λc4=>?_)
     · refine zch (cells:=#[.int .i64 a,.int .i64 (k:Int),.bool false,.int .i64 held]) (by kernel_rfl) ?_
       have o43:OwnI w7_.heap.size w7_.heap.size w7_ (.agg #[.int .i64 a,.int .i64 (k:Int),.bool false,.int .i64 held]) (⟨a,k,false,held⟩:DTouch):=zhg (x:=⟨a,k,false,held⟩) (by show I64 a;unfold I64;omega) (by show I64 (k:Int);unfold I64;omega) hh;refine zbF (α:=DTouch) zhr zb2 zwN zpX (by decide) (hrow.ext η7) (by omega) (o43.ext (Ext.refl w7_)) (by omega) (by omega) (by rw [zan];omega) (by omega) λv45 w8_ hc8_ o45=>?_;have σhc8_:=hc8_.size;have o43_c8:=(o43.ext (Ext.refl w7_)).chg hc8_ (by omega);refine ⟨_,rfl,(Ext.chgI (η5.t η7) hc8_ (by omega)),?_⟩;rw [if_pos (by rw [←hgk];exact c4)];exact o45
     refine ⟨_,rfl,(η5.t η7),?_⟩;rw [if_neg (by rw [←hgk];exact c4),List.append_nil];exact (hrow.ext η7).mono (by omega) (by omega)
   rintro uj11 w6_ ⟨v11,hu,η8,hrow2⟩;have σ8:=η8.size;try replace hu:=zbi hu
   try rw [hu]
   try clear hu
   refine zab zaM ?_;refine zad ty3 (zav hA7) (η3.t (η4.t η8)) λhI47=>?_;refine zao ?_;refine br (λc5=>?_) (λc5=>?_)
   · refine zab zaK ?_
     refine zad ty3 (zat hA7) (η3.t (η4.t η8)) λhI51=>?_;refine zao ?_;refine br (λc6=>?_) (λc6=>?_)
     · refine zch (cells:=#[.int .i64 a,.int .i64 (k:Int),.bool true,.int .i64 held]) (by kernel_rfl) ?_
       have o59:OwnI w6_.heap.size w6_.heap.size w6_ (.agg #[.int .i64 a,.int .i64 (k:Int),.bool true,.int .i64 held]) (⟨a,k,true,held⟩:DTouch):=zhg (x:=⟨a,k,true,held⟩) (by show I64 a;unfold I64;omega) (by show I64 (k:Int);unfold I64;omega) hh;refine zbF (α:=DTouch) zhr zb2 zwN zpX (by decide) (hrow2.ext (Ext.refl w6_)) (by omega) (o59.ext (Ext.refl w6_)) (by omega) (by omega) (by rw [zan,List.length_append];split<;>simp<;>omega) (by rw [List.length_append];split<;>simp<;>omega) λv61 w9_ hc9_ o61=>?_;have σhc9_:=hc9_.size;have o59_c9:=(o59.ext (Ext.refl w6_)).chg hc9_ (by omega);refine zas ?_;refine ⟨m7-1,by omega,k+1,by omega,_,rfl,(Ext.chgI η8 hc9_ (by omega)),?_⟩;rw [zcr,if_pos (c:=i.op=1∧i.arg=k) ⟨by omega,by omega⟩];exact o61
     refine zas ?_;refine ⟨m7-1,by omega,k+1,by omega,_,rfl,η8,?_⟩;rw [zcr,if_neg (c:=i.op=1∧i.arg=k) (λh=>c6 h.2),List.append_nil];exact (hrow2.ext (Ext.refl w6_)).mono (by omega) (by omega)
   refine zas ?_;refine ⟨m7-1,by omega,k+1,by omega,_,rfl,η8,?_⟩;rw [zcr,if_neg (c:=i.op=1∧i.arg=k) (λh=>c5 h.1),List.append_nil];exact (hrow2.ext (Ext.refl w6_)).mono (by omega) (by omega)
 refine ⟨(η1.t (η2.t (η3.t (η4.t η5)))),?_⟩;unfold zcs;rw [←hi,if_pos hop,←show k=c.globals.length by omega];exact hrow.own.own.mono (by omega)
def F100 (a0 a1 a2:Value) (w:World) (R:VW):Prop:=
 oX 32 a0 w λx3 w=>
 oP (Instr.buildSlice 130 0 #[]) w λx11 w=>
 rF 32 x3 4 w λx12=>
 rL 30 x12 w λx13=>
 rX 30 x13 a1 w λx15=>
 rL 111 x15 w λx16=>
 oP (aL 111) w λx8 w=>
 oS 111 x8 x16 w λw=>
 JOIN [] (λJ5=>
 rF 111 x8 0 w λx17=>
 rL 3 x17 w λx18=>
 rB .neq 3 T0 U0 x18 (iV 1) w λx19=>
 BR x19
 (rF 111 x8 0 w λx21=>
 rL 3 x21 w λx22=>
 rB .neq 3 T0 U0 x22 (iV 2) w λx23=>
 BR x23
 (R x11 w)
 (J5 [] w))
 (J5 [] w)) (λu5 w=>
 rF 111 x8 2 w λx26=>
 rL 109 x26 w λx27=>
 cL 127 [x27] w λx28 w=>
 LOOPI [7,10] [x11,(iV 0)] w λu7 w n7=>
 rF 32 x3 0 w λx30=>
 rL 22 x30 w λx31=>
 rN 22 3 x31 w λx32=>
 rC (u7 10) x32 w λx33=>
 BR x33
 (JOIN [7] (λJ11=>
 rF 32 x3 0 w λx37=>
 rL 22 x37 w λx38=>
 rX 22 x38 (u7 10) w λx40=>
 rL 9 x40 w λx41=>
 cL 155 [x28,x41] w λx42 w=>
 BR x42
 (rD (Instr.build 134 #[(0,a1),(1,(u7 10)),(3,a2)]) w λx47=>
 oP (bS 130 x47) w λx48 w=>
 oP (aP 130 (u7 7) x48) w λx49 w=>
 J11 [x49] w)
 (J11 [(u7 7)] w)) (λu11 w=>
 rF 111 x8 0 w λx50=>
 rL 3 x50 w λx51=>
 rQ x51 (iV 1) w λx52=>
 BR x52
 (rF 111 x8 1 w λx54=>
 rL 3 x54 w λx55=>
 rB .eql 3 T0 T0 x55 (u7 10) w λx57=>
 BR x57
 (rD (Instr.build 134 #[(0,a1),(1,(u7 10)),(2,vT),(3,a2)]) w λx63=>
 oP (bS 130 x63) w λx64 w=>
 oP (aP 130 (u11 7) x64) w λx65 w=>
 rI (u7 10) w λx35=>
 n7 [x65,x35] w)
 (rI (u7 10) w λx35=>
 n7 [(u11 7),x35] w))
 (rI (u7 10) w λx35=>
 n7 [(u11 7),x35] w)))
 (R (u7 7) w))
theorem F100_call {a0 a1 a2 w R} (h:F100 a0 a1 a2 w R):cL 100 [a0,a1,a2] w R:=co (g:=(kf [(5,66977856,[]),(11,1125831187366016,[7])] [(7,73786976294301336704,[7,10])] [])) Tryz.func100 h
theorem zlJ {w:World} {v0:Value} {W0:World} {c:DCode} {a:Int} {held:Int}  (h0:Is W0 v0 c) (e0:Ext W0 w) (hc:CodeR c) (ha:0≤a) (ha2:a<c.ins.length) (hh:I64 held) :
   CALL tp 100 [v0,.int .i64 a,.int .i64 held] w λr w'=>Ext w w'∧(Own w.heap.size w' r (zcs c a held)):=by
 refine F100_call ?_;unfold F100;have hil:=hc.f.ins;have hg6:c.globals.length≤6:=by have h1:=hc.1.1;simp only [Bool.and_eq_true,decide_eq_true_eq] at h1;omega
 have σe0:=e0.size;refine zar zbq rfl h0 e0 λw1_ η1 hA3 hV3=>?_;have σ1:=η1.size;refine zaH (α:=DTouch) zhr zb2 λv11 w2_ η2 o11=>?_;have σ2:=η2.size;refine zab zaD ?_;refine zaa zcu (zai hA3) η2 λv13 h13=>?_;refine zaW u30 zaO h13 (by omega) (by omega) λb15 o15 h15=>?_;rw [zaz] at h15;obtain ⟨i,hi⟩:∃ i,i=zal c a.toNat:=⟨_,rfl⟩;rw [←hi] at h15;refine zaa zaO h15 η2 λv16 h16=>?_;refine zb7 zfx rfl zaO rfl h16 η2 λw3_ η3 hA8 hV8=>?_;have σ3:=η3.size;have hg8:=hV8.lt;refine JOIN.mk (λus w'=>us=[]∧Ext w3_ w'∧(i.op=1∨i.op=2)) ?_ ?_
 · refine zab zaM ?_
   refine zad ty3 (zav hA8) (Ext.refl w3_) λhI18=>?_;refine zaB ?_;refine br (λc1=>?_) (λc1=>?_)
   · refine zab zaM ?_
     refine zad ty3 (zav hA8) (Ext.refl w3_) λhI22=>?_;refine zaB ?_;refine br (λc2=>?_) (λc2=>?_)
     · refine ⟨(η1.t (η2.t η3)),?_⟩
       unfold zcs;rw [←hi,if_neg (by omega)];exact (o11.ext η3).own.own.mono (by omega)
     refine ⟨by simp,Ext.refl w3_,?_⟩;omega
   refine ⟨by simp,Ext.refl w3_,?_⟩;omega
 rintro uj5 w4_ ⟨hu,η4,hop⟩;have σ4:=η4.size;try replace hu:=zbi hu
 clear hu;refine zab zcf ?_;refine zaa zbB (zbG hA8) η4 λv27 h27=>?_;refine (zeG h27 η4).mono ?_;rintro r28 w5_ ⟨η5,h28⟩;have σ5:=η5.size;refine zam (c.globals.length) (λk us w'=>∃ v:Value,us=[v,.int .i64 (k:Int)]∧Ext w5_ w'∧(RowI w5_.heap.size w'.heap.size 134 w' v (zcr c a held i k))) (0) (by omega) ⟨_,rfl,Ext.refl w5_,zb8 _ _ _ _ _⟩ ?_;rintro k m7 uu7 w6_ hk7 ⟨v7,hu,η6,hrow⟩;have σ6:=η6.size;obtain ⟨hu0,hu1⟩:=zbL hu;clear hu;try rw [hu0]
 try rw [hu1]
 try clear hu0 hu1
 have hrl:=zfi c a held i k;refine zab zdi ?_;refine zaa zb1 (za8 hA3) (η2.t (η3.t (η4.t (η5.t η6)))) λv31 h31=>?_;have hln32:=zah h31;refine zae u22 h31 ?_;refine zag ?_;refine br (λc3=>?_) (λc3=>?_)
 · refine JOIN.mk (λus w'=>∃ v:Value,us=[v]∧Ext w5_ w'∧(RowI w5_.heap.size w'.heap.size 134 w' v (zcr c a held i k++(if c.globals.getD k ByteArray.empty∈zcb i.term then [⟨a,k,false,held⟩] else [])))) ?_ ?_
   · refine zab zdi ?_
     refine zaa zb1 (za8 hA3) (η2.t (η3.t (η4.t (η5.t η6)))) λv38 h38=>?_;refine zac u22 ty9 h38 (by omega) λb40 o40 h40=>?_;refine zaS ty9 h40 (η2.t (η3.t (η4.t (η5.t η6)))) λhS41=>?_;have hgk:c.globals[k]'(by omega)=c.globals.getD k ByteArray.empty:=by rw [List.getD_eq_getElem?_getD,List.getElem?_eq_getElem (by omega)];rfl
     refine (zmI h28 η6).mono ?_;rintro _ w8_ ⟨η8,rfl⟩;have σ8:=η8.size;refine br (λc4=>?_) (λc4=>?_)
     · refine zch (cells:=#[.int .i64 a,.int .i64 (k:Int),.bool false,.int .i64 held]) (by kernel_rfl) ?_
       have o47:OwnI w8_.heap.size w8_.heap.size w8_ (.agg #[.int .i64 a,.int .i64 (k:Int),.bool false,.int .i64 held]) (⟨a,k,false,held⟩:DTouch):=zhg (x:=⟨a,k,false,held⟩) (by show I64 a;unfold I64;omega) (by show I64 (k:Int);unfold I64;omega) hh;refine zbF (α:=DTouch) zhr zb2 zwN zpX (by decide) (hrow.ext η8) (by omega) (o47.ext (Ext.refl w8_)) (by omega) (by omega) (by rw [zan];omega) (by omega) λv49 w9_ hc9_ o49=>?_;have σhc9_:=hc9_.size;have o11_c9:=(o11.ext (η3.t (η4.t (η5.t (η6.t η8))))).chg hc9_ (by omega);have o47_c9:=(o47.ext (Ext.refl w8_)).chg hc9_ (by omega);refine ⟨_,rfl,(Ext.chgI (η6.t η8) hc9_ (by omega)),?_⟩;rw [if_pos (by rw [←hgk];exact c4)];exact o49
     refine ⟨_,rfl,(η6.t η8),?_⟩;rw [if_neg (by rw [←hgk];exact c4),List.append_nil];exact (hrow.ext η8).mono (by omega) (by omega)
   rintro uj11 w7_ ⟨v11,hu,η9,hrow2⟩;have σ9:=η9.size;try replace hu:=zbi hu
   try rw [hu]
   try clear hu
   refine zab zaM ?_;refine zad ty3 (zav hA8) (η4.t (η5.t η9)) λhI51=>?_;refine zao ?_;refine br (λc5=>?_) (λc5=>?_)
   · refine zab zaK ?_
     refine zad ty3 (zat hA8) (η4.t (η5.t η9)) λhI55=>?_;refine zao ?_;refine br (λc6=>?_) (λc6=>?_)
     · refine zch (cells:=#[.int .i64 a,.int .i64 (k:Int),.bool true,.int .i64 held]) (by kernel_rfl) ?_
       have o63:OwnI w7_.heap.size w7_.heap.size w7_ (.agg #[.int .i64 a,.int .i64 (k:Int),.bool true,.int .i64 held]) (⟨a,k,true,held⟩:DTouch):=zhg (x:=⟨a,k,true,held⟩) (by show I64 a;unfold I64;omega) (by show I64 (k:Int);unfold I64;omega) hh;refine zbF (α:=DTouch) zhr zb2 zwN zpX (by decide) (hrow2.ext (Ext.refl w7_)) (by omega) (o63.ext (Ext.refl w7_)) (by omega) (by omega) (by rw [zan,List.length_append];split<;>simp<;>omega) (by rw [List.length_append];split<;>simp<;>omega) λv65 w10_ hc10_ o65=>?_;have σhc10_:=hc10_.size;have o11_c10:=(o11.ext (η3.t (η4.t (η5.t η9)))).chg hc10_ (by omega);have o63_c10:=(o63.ext (Ext.refl w7_)).chg hc10_ (by omega);refine zas ?_;refine ⟨m7-1,by omega,k+1,by omega,_,rfl,(Ext.chgI η9 hc10_ (by omega)),?_⟩;rw [zcr,if_pos (c:=i.op=1∧i.arg=k) ⟨by omega,by omega⟩];exact o65
     refine zas ?_;refine ⟨m7-1,by omega,k+1,by omega,_,rfl,η9,?_⟩;rw [zcr,if_neg (c:=i.op=1∧i.arg=k) (λh=>c6 h.2),List.append_nil];exact (hrow2.ext (Ext.refl w7_)).mono (by omega) (by omega)
   refine zas ?_;refine ⟨m7-1,by omega,k+1,by omega,_,rfl,η9,?_⟩;rw [zcr,if_neg (c:=i.op=1∧i.arg=k) (λh=>c5 h.1),List.append_nil];exact (hrow2.ext (Ext.refl w7_)).mono (by omega) (by omega)
 refine ⟨(η1.t (η2.t (η3.t (η4.t (η5.t η6))))),?_⟩;unfold zcs;rw [←hi,if_pos hop,←show k=c.globals.length by omega];exact hrow.own.own.mono (by omega)
def F110 (a0 a1:Value) (w:World) (R:VW):Prop:=
 oX 134 a0 w λx2 w=>
 oX 134 a1 w λx3 w=>
 oP (aL 79) w λx4 w=>
 rF 134 x2 1 w λx5=>
 rL 3 x5 w λx6=>
 rF 134 x2 0 w λx7=>
 rL 3 x7 w λx8=>
 rF 134 x3 0 w λx9=>
 rL 3 x9 w λx10=>
 rD (Builtin.min_ #[3,3] 3 [x8,x10].toArray) w λx11=>
 rF 134 x2 0 w λx12=>
 rL 3 x12 w λx13=>
 rF 134 x3 0 w λx14=>
 rL 3 x14 w λx15=>
 rD (Builtin.max_ #[3,3] 3 [x13,x15].toArray) w λx16=>
 rD (Instr.build 79 #[(0,x6),(1,x11),(2,x16)]) w λx17=>
 oS 79 x4 x17 w λw=>
 rD (zea 79 x4) w λr4=>R r4 w
theorem F110_call {a0 a1 w R} (h:F110 a0 a1 w R):cL 110 [a0,a1] w R:=co (g:=(kf [] [] [])) Tryz.func110 h
def F162 (a0:Value) (w:World) (R:VW):Prop:=
 rB .geq 3 T0 U0 a0 (iV 0) w λx4=>
 BR x4
 (rB .leq 3 T0 U0 a0 (iV 63) w λx7=>
 R x7 w)
 (R vF w)
theorem F162_call {a0 w R} (h:F162 a0 w R):cL 162 [a0] w R:=co (g:=(kf [] [] [])) Tryz.func162 h
theorem zpq {w:World} {n:Int}    :
   CALL tp 162 [.int .i64 n] w λr w'=>Ext w w'∧(r=.bool (decide (0≤n∧n≤63))):=by
 refine F162_call ?_;unfold F162;refine zb0 ?_;refine br (λc1=>?_) (λc1=>?_)
 · refine zdV ?_
   refine ⟨Ext.refl w,?_⟩;simp [c1]
 refine ⟨Ext.refl w,?_⟩;simp [c1]
def zdb (a b:DTouch):Prop:=a.global=b.global∧(a.write=true∨b.write=true)∧(0≤a.held∧a.held≤63)∧(0≤b.held∧b.held≤63)∧a.held.toNat &&& b.held.toNat=0
instance (a b:DTouch):Decidable (zdb a b):=by unfold zdb;infer_instance
def F108 (a0 a1:Value) (w:World) (R:VW):Prop:=
 oX 134 a0 w λx2 w=>
 oX 134 a1 w λx3 w=>
 JOIN [] (λJ3=>
 rF 134 x2 1 w λx5=>
 rL 3 x5 w λx6=>
 rF 134 x3 1 w λx7=>
 rL 3 x7 w λx8=>
 rB .neq 3 T0 T0 x6 x8 w λx9=>
 BR x9
 (R vF w)
 (rF 134 x2 2 w λx11=>
 rL 4 x11 w λx12=>
 rT x12 w λx13=>
 GBR x13
 (rF 134 x3 2 w λx15=>
 rL 4 x15 w λx16=>
 rT x16 w λx17=>
 BR x17
 (R vF w)
 (J3 [] w))
 (J3 [] w)
 (BR undef
 (BR undef
 (R vF w)
 (J3 [] w))
 (J3 [] w)))) (λu3 w=>
 rF 134 x2 3 w λx20=>
 rL 3 x20 w λx21=>
 cL 162 [x21] w λx22 w=>
 BR x22
 (rF 134 x3 3 w λx24=>
 rL 3 x24 w λx25=>
 cL 162 [x25] w λx26 w=>
 BR x26
 (rF 134 x2 3 w λx29=>
 rL 3 x29 w λx30=>
 rF 134 x3 3 w λx31=>
 rL 3 x31 w λx32=>
 rB .and 3 T0 T0 x30 x32 w λx33=>
 rQ x33 (iV 0) w λx34=>
 R x34 w)
 (R vF w))
 (R vF w))
theorem F108_call {a0 a1 w R} (h:F108 a0 a1 w R):cL 108 [a0,a1] w R:=co (g:=(kf [(3,1048560,[])] [] [])) Tryz.func108 h
theorem zpr {w:World} {v0:Value} {W0:World} {a:DTouch} {v1:Value} {W1:World} {b:DTouch}  (h0:Is W0 v0 a) (e0:Ext W0 w) (h1:Is W1 v1 b) (e1:Ext W1 w)  :
   CALL tp 108 [v0,v1] w λr w'=>Ext w w'∧(r=.bool (decide (zdb a b))):=by
 refine F108_call ?_;unfold F108;refine zar zb2 rfl h0 e0 λw1_ η1 hA2 hV2=>?_;refine zar zb2 rfl h1 (e1.trans η1) λw2_ η2 hA3 hV3=>?_;refine JOIN.mk (λus w'=>us=[]∧Ext w2_ w'∧(a.global=b.global∧(a.write=true∨b.write=true))) ?_ ?_
 · refine zab ze6 ?_
   refine zad ty3 (zci hA2) η2 λhI6=>?_;refine zab ze6 ?_;refine zad ty3 (zci hA3) (Ext.refl w2_) λhI8=>?_;refine zaB ?_;refine br (λc1=>?_) (λc1=>?_)
   · refine ⟨(η1.t η2),?_⟩
     have:¬zdb a b:=λh=>c1 h.1;simp only [this,decide_false]
   refine zab zhz ?_;refine zay ty4 (zdB hA2) η2 ?_;refine zaX ?_;refine zti (λc2=>?_) (λc2=>?_)
   · refine zab zhz ?_
     refine zay ty4 (zdB hA3) (Ext.refl w2_) ?_;refine zaX ?_;refine zbz (λc3=>?_) (λc3=>?_)
     · refine ⟨(η1.t η2),?_⟩
       have:¬zdb a b:=λh=>by rcases h.2.1 with h | h<;>simp_all
       simp only [this,decide_false]
     refine ⟨by simp,Ext.refl w2_,?_⟩;exact ⟨by omega,.inr (by simpa using c3)⟩
   refine ⟨by simp,Ext.refl w2_,?_⟩;exact ⟨by omega,.inl (by simpa using c2)⟩
 rintro uj3 w3_ ⟨hu,η3,hgl,hwr⟩;try replace hu:=zbi hu
 clear hu;refine zab zhA ?_;refine zad ty3 (zdC hA2) (η2.t η3) λhI21=>?_;refine (zpq ).mono ?_;rintro _ w4_ ⟨η4,rfl⟩;refine br (λc4=>?_) (λc4=>?_)
 · refine zab zhA ?_
   refine zad ty3 (zdC hA3) (η3.t η4) λhI25=>?_;refine (zpq ).mono ?_;rintro _ w5_ ⟨η5,rfl⟩;refine br (λc5=>?_) (λc5=>?_)
   · refine zab zhA ?_
     refine zad ty3 (zdC hA2) (η2.t (η3.t (η4.t η5))) λhI30=>?_;refine zab zhA ?_;refine zad ty3 (zdC hA3) (η3.t (η4.t η5)) λhI32=>?_;obtain ⟨m,hm⟩:=Int.eq_ofNat_of_zero_le c4.1;obtain ⟨n,hn⟩:=Int.eq_ofNat_of_zero_le c5.1;rw [hm,hn];refine zdW (by omega) (by omega) ?_;refine zao ?_;refine ⟨(η1.t (η2.t (η3.t (η4.t η5)))),?_⟩
     have:zdb a b↔m &&& n=0:=by
       have e1:a.held.toNat=m:=by omega
       have e2:b.held.toNat=n:=by omega
       unfold zdb;rw [e1,e2];exact ⟨λh=>h.2.2.2.2,λh=>⟨hgl,hwr,c4,c5,h⟩⟩
     congr 1;rw [decide_eq_decide,this];omega
   refine ⟨(η1.t (η2.t (η3.t (η4.t η5)))),?_⟩;have:¬zdb a b:=λh=>c5 h.2.2.2.1;simp only [this,decide_false]
 refine ⟨(η1.t (η2.t (η3.t η4))),?_⟩;have:¬zdb a b:=λh=>c4 h.2.2.1;simp only [this,decide_false]
def zdr (a b:DTouch):DRace:=⟨a.global,min a.at_ b.at_,max a.at_ b.at_⟩
theorem zmZ {w W0 W1:World} {v0 v1:Value} {a b:DTouch} (h0:Is W0 v0 a) (e0:Ext W0 w) (h1:Is W1 v1 b) (e1:Ext W1 w) :
   CALL tp 110 [v0,v1] w λr w'=>Ext w w'∧∀ lo hi,OwnI lo hi w' r (zdr a b):=by
 refine F110_call ?_;unfold F110;refine zbj h0 e0 λw1 hx1 hA=>?_;refine zbj h1 (e1.trans hx1) λw2 hx2 hB=>?_;refine zeD (α:=DRace) zwM λw3 hx3 hv=>?_;have hs1:=hx1.size;have hs2:=hx2.size;have hs3:=hx3.size;have hx23:=hx2.t hx3;refine zab ze6 ?_;refine zad ty3 (zci hA) hx23 λhI6=>?_;refine zab zeE ?_;refine zad ty3 (zbY hA) hx23 λhI8=>?_;refine zab zeE ?_;refine zad ty3 (zbY hB) hx3 λhI10=>?_;refine zws ?_;refine zab zeE ?_;refine zad ty3 (zbY hA) hx23 λ_=>?_;refine zab zeE ?_;refine zad ty3 (zbY hB) hx3 λ_=>?_;refine zuC ?_;have hm:∀ (w:World) lo hi,OwnI lo hi w (.agg #[.int .i64 a.global,.int .i64 (min a.at_ b.at_),.int .i64 (max a.at_ b.at_)]) (zdr a b):=λw lo hi=>⟨[],zmj (x:=zdr a b) hI6 (by unfold I64 zdr at *;simp only;omega) (by unfold I64 zdr at *;simp only;omega),by simp⟩;refine zch (cells:=#[.int .i64 a.global,.int .i64 (min a.at_ b.at_),.int .i64 (max a.at_ b.at_)]) (by kernel_rfl) ?_;have hg:=hv.lt;refine ze5 (lo:=w3.heap.size) (hi:=w3.heap.size) zbX hv (hm w3 _ _) (by omega) λw4 hc4 hv4=>?_;have hs4:=hc4.size;refine zip zbX hv4 (Ext.refl _) λr hr=>?_;refine ⟨Ext.chgI (hx1.t hx23) hc4 (by omega),λlo hi=>?_⟩;obtain ⟨F,hM,_⟩:=hr;obtain ⟨cs,h,_⟩:=hM.own;have hF:=Flat.flat h;subst hF;exact ⟨[],hM,by simp⟩
instance (x y:DRace):Decidable (ltR x y):=by unfold ltR;infer_instance
def F154 (a0 a1:Value) (w:World) (R:VW):Prop:=
 oX 79 a0 w λx2 w=>
 oX 79 a1 w λx3 w=>
 rF 79 x2 0 w λx5=>
 rL 3 x5 w λx6=>
 rF 79 x3 0 w λx7=>
 rL 3 x7 w λx8=>
 rB .neq 3 T0 T0 x6 x8 w λx9=>
 BR x9
 (rF 79 x2 0 w λx10=>
 rL 3 x10 w λx11=>
 rF 79 x3 0 w λx12=>
 rL 3 x12 w λx13=>
 rC x11 x13 w λx14=>
 R x14 w)
 (rF 79 x2 1 w λx15=>
 rL 3 x15 w λx16=>
 rF 79 x3 1 w λx17=>
 rL 3 x17 w λx18=>
 rB .neq 3 T0 T0 x16 x18 w λx19=>
 BR x19
 (rF 79 x2 1 w λx20=>
 rL 3 x20 w λx21=>
 rF 79 x3 1 w λx22=>
 rL 3 x22 w λx23=>
 rC x21 x23 w λx24=>
 R x24 w)
 (rF 79 x2 2 w λx25=>
 rL 3 x25 w λx26=>
 rF 79 x3 2 w λx27=>
 rL 3 x27 w λx28=>
 rC x26 x28 w λx29=>
 R x29 w))
theorem F154_call {a0 a1 w R} (h:F154 a0 a1 w R):cL 154 [a0,a1] w R:=co (g:=(kf [] [] [])) Tryz.func154 h
theorem zjG {w:World} {v0:Value} {W0:World} {x:DRace} {v1:Value} {W1:World} {y:DRace}  (h0:Is W0 v0 x) (e0:Ext W0 w) (h1:Is W1 v1 y) (e1:Ext W1 w)  :
   CALL tp 154 [v0,v1] w λr w'=>Ext w w'∧(r=.bool (decide (ltR x y))):=by
 refine F154_call ?_;unfold F154;refine zar zbX rfl h0 e0 λw1_ η1 hA2 hV2=>?_;refine zar zbX rfl h1 (e1.trans η1) λw2_ η2 hA3 hV3=>?_;refine zab zgc ?_;refine zad ty3 (zdx hA2) η2 λhI6=>?_;refine zab zgc ?_;refine zad ty3 (zdx hA3) (Ext.refl w2_) λhI8=>?_;refine zaB ?_;refine br (λc1=>?_) (λc1=>?_)
 · refine zab zgc ?_
   refine zad ty3 (zdx hA2) η2 λhI11=>?_;refine zab zgc ?_;refine zad ty3 (zdx hA3) (Ext.refl w2_) λhI13=>?_;refine zag ?_;refine ⟨(η1.t η2),?_⟩;congr 1;rw [decide_eq_decide];unfold ltR;omega
 refine zab zfw ?_;refine zad ty3 (zdy hA2) η2 λhI16=>?_;refine zab zfw ?_;refine zad ty3 (zdy hA3) (Ext.refl w2_) λhI18=>?_;refine zaB ?_;refine br (λc2=>?_) (λc2=>?_)
 · refine zab zfw ?_
   refine zad ty3 (zdy hA2) η2 λhI21=>?_;refine zab zfw ?_;refine zad ty3 (zdy hA3) (Ext.refl w2_) λhI23=>?_;refine zag ?_;refine ⟨(η1.t η2),?_⟩;congr 1;rw [decide_eq_decide];unfold ltR;omega
 refine zab zgU ?_;refine zad ty3 (zeP hA2) η2 λhI26=>?_;refine zab zgU ?_;refine zad ty3 (zeP hA3) (Ext.refl w2_) λhI28=>?_;refine zag ?_;refine ⟨(η1.t η2),?_⟩;congr 1;rw [decide_eq_decide];unfold ltR;omega
theorem zf3 (x:DRace):¬ltR x x:=by unfold ltR;omega
theorem zhh {x y z:DRace} (h:ltR x y) (k:ltR y z):ltR x z:=by unfold ltR at *;omega
theorem zjH {x y:DRace} (h:¬ltR x y) (k:¬ltR y x):x=y:=by
 unfold ltR at *;exact DRace.ext_iff.2 ⟨by omega,by omega,by omega⟩
def zjI (r:DRace):List DRace→List DRace
 | []=>[r]
 | x :: l=>if ltR x r then x :: zjI r l else if x=r then x :: l else r :: x :: l
def ahd (r:DRace):List DRace→Nat
 | []=>0
 | x :: l=>if ltR x r then ahd r l+1 else 0
theorem zlK (r:DRace):∀ l,zjI r l=if h:ahd r l<l.length then (if l[ahd r l]=r then l else l.take (ahd r l)++(r :: l.drop (ahd r l))) else l++[r]
 | []=>rfl
 | x :: l=>by
   rw [zjI];by_cases h:ltR x r
   · have e:ahd r (x :: l)=ahd r l+1:=by rw [ahd,if_pos h]
     rw [if_pos h,zlK r l];by_cases h2:ahd r l<l.length
     · rw [dif_pos h2,dif_pos (by rw [e];simpa using h2)]
       have e2:(x :: l)[ahd r (x :: l)]'(by rw [e];simpa using h2)=l[ahd r l]:=by simp [e]
       rw [e2];split
       · rfl
       simp [e]
     rw [dif_neg h2,dif_neg (by rw [e];simpa using h2)];rfl
   have e:ahd r (x :: l)=0:=by rw [ahd,if_neg h]
   rw [if_neg h,dif_pos (by rw [e];simp)];have e2:(x :: l)[ahd r (x :: l)]'(by rw [e];simp)=x:=by simp [e]
   rw [e2];split
   · rfl
   simp [e]
theorem zm0 {r:DRace}:∀ {l:List DRace} {k:Nat} (hk:k≤l.length),(∀ j (h:j<k),ltR (l[j]'(by omega)) r)→(∀ h:k<l.length,¬ltR l[k] r)→ahd r l=k
 | [],0,_,_,_=>rfl
 | x :: l,0,_,_,h=>by
   have h':¬ltR x r:=h (by simp);rw [ahd,if_neg h']
 | x :: l,k+1,hk,h1,h2=>by
   have e:ltR x r:=h1 0 (by omega);rw [ahd,if_pos e,zm0 (k:=k) (by simpa using hk) (λj hj=>h1 (j+1) (by omega)) λh=>h2 (by simpa using h)]
theorem zlL {r x:DRace}:∀ {l:List DRace},x∈zjI r l↔x=r∨x∈l
 | []=>by simp [zjI]
 | y :: l=>by
   rw [zjI];split
   · rw [List.mem_cons,zlL,List.mem_cons];exact ⟨λh=>by rcases h with h | h | h<;>simp [h],λh=>by rcases h with h | h | h<;>simp [h]⟩
   split
   · rename_i h;subst h;simp
   simp
theorem zjJ {r:DRace}:∀ {l:List DRace},l.Pairwise ltR→(zjI r l).Pairwise ltR
 | [],_=>by simp [zjI]
 | y :: l,h=>by
   rw [List.pairwise_cons] at h;rw [zjI];split
   · rename_i hy
     refine List.pairwise_cons.2 ⟨λz hz=>?_,zjJ h.2⟩;rcases zlL.1 hz with rfl | hz
     · exact hy
     exact h.1 z hz
   rename_i hy
   split
   · exact List.pairwise_cons.2 h
   rename_i hne
   have hry:ltR r y:=Decidable.byContradiction λhc=>hne (zjH hy hc);refine List.pairwise_cons.2 ⟨λz hz=>?_,List.pairwise_cons.2 h⟩;rcases List.mem_cons.1 hz with rfl | hz
   · exact hry
   exact zhh hry (h.1 z hz)
theorem zhS:∀ {l m:List DRace},l.Pairwise ltR→m.Pairwise ltR→(∀ x,x∈l↔x∈m)→l=m
 | [],[],_,_,_=>rfl
 | [],y :: m,_,_,h=>by have:=(h y).2 (by simp);cases this
 | x :: l,[],_,_,h=>by have:=(h x).1 (by simp);cases this
 | x :: l,y :: m,h1,h2,h=>by
   rw [List.pairwise_cons] at h1 h2
   have hxy:x=y:=by
     rcases List.mem_cons.1 ((h x).1 (by simp)) with e | hm
     · exact e
     rcases List.mem_cons.1 ((h y).2 (by simp)) with e | hl
     · exact e.symm
     exact absurd (zhh (h1.1 y hl) (h2.1 x hm)) (zf3 x)
   subst hxy;congr 1;refine zhS h1.2 h2.2 λz=>⟨λhz=>?_,λhz=>?_⟩
   · rcases List.mem_cons.1 ((h z).1 (by simp [hz])) with rfl | h'
     · exact absurd (h1.1 z hz) (zf3 z)
     exact h'
   rcases List.mem_cons.1 ((h z).2 (by simp [hz])) with rfl | h'
   · exact absurd (h2.1 z hz) (zf3 z)
   exact h'
end Go.Proofs.YtifonhplnmpgaaaGreat
namespace Go.Proofs.YtifonhplnmpgaaaGreat
open Go Go.Sh Go.Proofs Go.Sort
open Rep (rep)
instance:Inhabited DRace:=⟨⟨0,0,0⟩⟩
def zv8 (x:DRace):List Value:=[.int .i64 x.g,.int .i64 x.a,.int .i64 x.b]
theorem ztX:∀ {F:List Nat} {w:World} {cs:List Value} {x:DRace},Rep.rep F w cs x→cs=zv8 x:=by
 intro F w cs x h;obtain ⟨F1,F2,c1,c2,rfl,rfl,⟨rfl,rfl,_⟩,⟨F3,F4,c3,c4,rfl,rfl,⟨rfl,rfl,_⟩,⟨rfl,rfl,_⟩⟩⟩:=h;rfl
theorem zel {x y:DRace}:ltOf ztS x y=decide (ltR x y):=by
 unfold ltOf;rw [decide_eq_decide];exact zvw
theorem zvB:SWO (ltOf ztS):=by
 refine ⟨λx=>?_,λx y z h k=>?_,λx y z h k=>?_⟩
 · rw [zel,decide_eq_false_iff_not];exact zf3 x
 · rw [zel,decide_eq_true_eq] at *;exact zhh h k
 rw [zel,decide_eq_false_iff_not] at *;intro hc;unfold ltR at *;omega
def srt (l:List DRace):List DRace:=l.mergeSort λx y=>!(ltOf ztS) y x
theorem zps (l:List DRace):(srt l).Perm l:=List.mergeSort_perm l _
theorem zob (l:List DRace):(srt l).length=l.length:=(zps l).length_eq
theorem zwy (l:List DRace):(srt l).Pairwise λx y=>¬ltR y x:=by
 have:=List.pairwise_mergeSort (le:=λx y=>!(ltOf ztS) y x) (λa b c h1 h2=>by
   simp only [zel,Bool.not_eq_true',decide_eq_false_iff_not] at *;unfold ltR at *;omega) (λa b=>by
   simp only [zel,Bool.or_eq_true,Bool.not_eq_true',decide_eq_false_iff_not];unfold ltR;omega) l
 exact this.imp λh=>by simpa [zel] using h
theorem zpt {w:World} {lo hi:Nat} {v:Value} {l:List DRace} (h:OwnI lo hi w v l) (hn:l.length≤1073741824) :
   CALL tp 164 [v,.func (.func 165) #[] #[]] w λr w'=>ChgI lo hi w w'∧OwnI lo hi w' v (srt l):=by
 obtain ⟨F,hM,hF⟩:=h;by_cases hne:l=[]
 · subst hne
   obtain ⟨a,cap,hv⟩:∃ a cap,v=.slice a 0 cap:=by
     obtain ⟨cs,⟨a,cap,G,xs,h,_⟩,hv⟩:=hM.own;exact ⟨a,cap,by rw [hv,h];rfl⟩
   subst hv;refine ⟨(AnyF.slices_SortFunc_none Tryz.sortRace a cap _ w).mono ?_⟩;rintro e w' ⟨he,rfl⟩;refine ⟨_,he,ChgI.refl _,F,?_,hF⟩;have:srt []=[]:=List.eq_nil_of_length_eq_zero (by rw [zob];rfl);rw [this];exact hM
 obtain ⟨b,o,cap,xs,rfl,rfl,h1,h2,hcc,hrr,hww⟩:=zda hM hne;have henc:=@ztX;have hk:∀ x,(zv8 x).length=Rep.size DRace:=λ_=>rfl;obtain ⟨c,e,hbe⟩:=hww;have hb:b<w.heap.size:=(Array.getElem?_eq_some_iff.1 hbe).1
 have hcmp:CmpLays tp 165 #[] zv8 3 ztS b o l.toArray.size w:=λm os dk _ x y=>by
   have:=zjA (w:=sortWorldK zv8 3 w b o m dk os) (x:=x) (y:=y);obtain ⟨h⟩:=this;refine h.mono ?_;rintro e w' ⟨v,he,hv,q,os',hw'⟩;exact ⟨by rw [he,hv],q,os',hw'⟩
 refine ⟨(AnyQ.slices_SortFunc_total Tryz.sortRace 3 Tryz.isAgg79 Tryz.sizeOf79 zv8 (λ_=>rfl) (λx v hv=>by
     simp only [zv8,List.mem_cons,List.not_mem_nil,or_false] at hv;rcases hv with rfl | rfl | rfl<;>rfl) ztS zvB 165 #[] b o cap l.toArray w (zdK (ent 165 (by decide) (by kernel_rfl))) hcmp (zjv henc hk ⟨c,e,hbe⟩ hcc hrr) hb (by simp;omega) (λx y h k=>by
     rw [zel,decide_eq_false_iff_not] at *;exact zjH h k)).mono ?_⟩
 rintro ex w' ⟨he,n,os,hw'⟩;have hs:=zjw henc hk (cap:=cap) hw' ⟨c,e,hbe⟩ hcc hrr h1 h2 (by simp) (λx hx=>by simpa [List.mem_mergeSort] using hx);refine ⟨_,he,?_,[b],?_,hF⟩
 · exact hs.1.toI (λi hi=>hF i hi)
 exact hs.2
def F98 (a0 a1:Value) (w:World) (R:VW):Prop:=
 oX 79 a1 w λx3 w=>
 JOIN [5] (λJ4=>
 LOOPI [5] [(iV 0)] w λu2 w n2=>
 (λw=>rN 43 3 a0 w λx9=>
 rC (u2 5) x9 w λx10=>
 BR x10
 (rX 43 a0 (u2 5) w λx14=>
 rL 79 x14 w λx15=>
 rL 79 x3 w λx16=>
 cL 154 [x15,x16] w λx17 w=>
 BR x17
 (rI (u2 5) w λx20=>
 n2 [x20] w)
 (J4 [(u2 5)] w))
 (J4 [(u2 5)] w)) (World.drew1 w)) (λu4 w=>
 JOIN [] (λJ6=>
 (λw=>rN 43 3 a0 w λx23=>
 rC (u4 5) x23 w λx24=>
 BR x24
 (rX 43 a0 (u4 5) w λx28=>
 rL 79 x28 w λx29=>
 rL 79 x3 w λx30=>
 rB .eql 79 T0 T0 x29 x30 w λx31=>
 BR x31
 (R a0 w)
 (J6 [] w))
 (J6 [] w)) (World.drew1 w)) (λu6 w=>
 oP (Instr.buildSlice 43 0 #[]) w λx34 w=>
 rD (Instr.sliceAt 43 a0 none (some (u4 5)) none) w λx37=>
 oP (aP 43 x34 x37) w λx38 w=>
 rL 79 x3 w λx40=>
 oP (bS 43 x40) w λx41 w=>
 oP (aP 43 x38 x41) w λx42 w=>
 rD (Instr.sliceAt 43 a0 (some (u4 5)) none none) w λx46=>
 oP (aP 43 x42 x46) w λx47 w=>
 R x47 w))
theorem F98_call {a0 a1 w R} (h:F98 a0 a1 w R):cL 98 [a0,a1] w R:=co (g:=(kf [(4,2097056,[5]),(6,17177772048,[])] [(2,2097056,[5])] [(2,[0,1,2,3,4,5,6,7,8,9,10,11],0),(4,[0,1,2,3,4,5,6,7,8,9,10,11],0)])) Tryz.func98 h
theorem zdH {α:Type} [Rep α] [Flat α] {w:World} {lo hi:Nat} {v:Value} {x:α} (h:Is w v x):OwnI lo hi w v x:=by
 obtain ⟨F,cs,hr,hv⟩:=h;have hF:=Flat.flat hr;subst hF;exact ⟨[],⟨⟨cs,hr,hv⟩,List.nodup_nil,Wr.nil w⟩,by simp⟩
theorem zm1 {w W1:World} {lo:Nat} {v v1:Value} {l:List DRace} {x:DRace} (h:OwnI lo w.heap.size w v l) (hlo:lo≤w.heap.size) (h1:Is W1 v1 x) (e1:Ext W1 w) (hn:l.length≤1000000) :
   CALL tp 98 [v,v1] w λr w'=>Ext w w'∧OwnI lo w'.heap.size w' r (zjI x l):=by
 refine F98_call ?_;unfold F98;have hI:=h.is;refine zbj h1 e1 λw1 hx1 hA=>?_;refine JOIN.mk (λus w'=>∃ k:Nat,us=[.int .i64 (k:Int)]∧Ext w1 w'∧k≤l.length∧ahd x l=k) ?_ ?_
 · refine zam l.length (λk us w'=>us=[.int .i64 (k:Int)]∧Ext w1 w'∧k≤l.length∧∀ j (h:j<k) (h2:j<l.length),ltR l[j] x) 0 (z0 _) ⟨rfl,Ext.refl w1,z0 _,λj h=>by omega⟩ ?_
   rintro k mk u w2 hkm ⟨hu,hx2,hkl,hlt⟩;try replace hu:=zbi hu
   rw [hu];have hx3:=zaj w2;have hx23:=hx2.t hx3;generalize World.drew1 w2=w3 at *;refine zae u43 hI ?_;refine zag ?_;refine br (λhk=>?_) (λhk=>?_)
   · have hk':k<l.length:=by omega
     refine zac u43 zbX hI hk' λb1 o1 hA1=>?_;refine zaa zbX hA1 (hx1.t hx23) λv15 h15=>?_;refine zaa zbX hA hx23 λv16 h16=>?_;refine (zjG h15 (hx1.t hx23) h16 hx23).mono ?_;rintro _ w4 ⟨hx4,rfl⟩;refine zbz (λhc=>?_) (λhc=>?_)
     · refine zas ?_
       refine ⟨mk-1,by omega,k+1,by omega,rfl,hx23.t hx4,by omega,λj hj hj2=>?_⟩;by_cases hjk:j<k
       · exact hlt j hjk hj2
       have:j=k:=by omega
       subst this;simpa using hc
     exact ⟨k,rfl,hx23.t hx4,hkl,zm0 hkl (λj hj=>hlt j hj (by omega)) λh=>by simpa using hc⟩
   exact ⟨k,rfl,hx23,hkl,zm0 hkl (λj hj=>hlt j hj (by omega)) λh=>by omega⟩
 rintro u w2 ⟨k,hu,hx2,hkl,hak⟩;try replace hu:=zbi hu
 rw [hu];have hput:=zlK x l;rw [hak] at hput;refine JOIN.mk (λus w'=>Ext w1 w'∧zjI x l=l.take k++(x :: l.drop k)) ?_ ?_
 · have hx3:=zaj w2
   have hx23:=hx2.t hx3;generalize World.drew1 w2=w3 at *;refine zae u43 hI ?_;refine zag ?_;refine br (λhk=>?_) (λhk=>?_)
   · have hk':k<l.length:=by omega
     rw [dif_pos hk'] at hput;refine zac u43 zbX hI hk' λb1 o1 hA1=>?_;refine zaa zbX hA1 (hx1.t hx23) λv15 h15=>?_;refine zaa zbX hA hx23 λv16 h16=>?_;refine zek h15 h16 ?_;refine br (λhc=>?_) (λhc=>?_)
     · rw [if_pos hc] at hput
       have hx:=hx1.t hx23;exact ⟨hx,by rw [hput];exact (h.ext hx).mono (lr _) hx.size⟩
     rw [if_neg hc] at hput;exact ⟨hx23,hput⟩
   have hk':k=l.length:=by omega
   subst hk';rw [dif_neg (by omega)] at hput;exact ⟨hx23,by rw [hput];simp⟩
 rintro u6 w3 ⟨hx3,hpe⟩;rw [hpe];have hx03:=hx1.t hx3;have hs03:=hx03.size;refine zaH (α:=DRace) u43 zbX λa w4 hx4 hr4=>?_;have hs4:=hx4.size;refine zgo (i:=(k:Int)) u43 zbX hI (by omega) (by omega) λv37 h37=>?_;refine zc6 u43 zbX zre hr4 (lr _) h37 (hx03.t hx4) (by simp [maxLen];omega) (by simp;omega) λv38 w5 hc5 hr5=>?_;have hs5:=hc5.size;have hx5:=(Ext.refl w4).chgI hc5 (lr _);refine zaa zbX hA (hx3.t (hx4.t hx5)) λv40 h40=>?_;refine zbF (lo2:=w5.heap.size) (hi2:=w5.heap.size) u43 zbX z79 zre (by decide) hr5 (by omega) (zdH (h40.ext (hx3.t (hx4.t hx5)))) (lr _) (by omega) (by simp [maxLen];omega) (by simp;omega) λv42 w6 hc6 hr6=>?_;have hs6:=hc6.size;refine zd0 (i:=(k:Int)) u43 zbX hI (by omega) (by omega) λv46 h46=>?_;have hx6:Ext w w6:=(hx03.t (hx4.t hx5)).chgI hc6 (by omega);refine zc6 u43 zbX zre hr6 (by omega) h46 hx6 (by simp [maxLen];omega) (by simp;omega) λv47 w7 hc7 hr7=>?_;have hs7:=hc7.size;refine ⟨hx6.chgI hc7 (by omega),?_⟩;have:=hr7.own.mono (lo':=lo) (by omega) (lr _);simpa using this
def F111 (a0:Value) (w:World) (R:VW):Prop:=
 cL 163 [a0] w λx5 w=>
 cL 164 [x5,(Value.func (.func 165) #[] #[])] w λx7 w=>
 cL 167 [x5] w λx9 w=>
 cL 166 [x9] w λx10 w=>
 R x10 w
theorem F111_call {a0 w R} (h:F111 a0 w R):cL 111 [a0] w R:=co (g:=(kf [] [] [])) Tryz.func111 h
theorem zoc {z:DRace}:∀ {l:List DRace} {x:DRace},z∈x :: ddg x l↔z∈x :: l
 | [],x=>Iff.rfl
 | y :: l,x=>by
   rw [ddg];split
   · rename_i h
     subst h;rw [zoc (l:=l)];simp
   rw [List.mem_cons,zoc (l:=l),List.mem_cons (a:=z) (b:=x)]
theorem zsb:∀ {l:List DRace} {x:DRace},(x :: l).Pairwise (λa b=>¬ltR b a)→(x :: ddg x l).Pairwise ltR
 | [],x,_=>by simp [ddg]
 | y :: l,x,h=>by
   rw [ddg];rw [List.pairwise_cons] at h;have hy:=h.2;rw [List.pairwise_cons] at hy;split
   · rename_i e
     subst e;exact zsb h.2
   rename_i hne
   have ih:=zsb h.2;have hxy:ltR x y:=Decidable.byContradiction λhc=>hne (zjH (h.1 y (by simp)) hc);refine List.pairwise_cons.2 ⟨λz hz=>?_,ih⟩;rcases List.mem_cons.1 hz with rfl | hz
   · exact hxy
   exact zhh hxy ((List.pairwise_cons.1 ih).1 z hz)
theorem zvC {l:List DRace} {z:DRace}:z∈ddp l↔z∈l:=by
 cases l with
 | nil=>exact Iff.rfl
 | cons x l=>exact zoc
theorem zwz {l:List DRace} (h:l.Pairwise (λa b=>¬ltR b a)):(ddp l).Pairwise ltR:=by
 cases l with
 | nil=>exact List.Pairwise.nil
 | cons x l=>exact zsb h
def zcO (l:List DRace):List DRace:=l.foldl (λacc r=>zjI r acc) []
theorem zkE (l:List DRace) (r:DRace):zcO (l++[r])=zjI r (zcO l):=by simp [zcO]
theorem zkF {x:DRace}:∀ {l acc:List DRace},x∈l.foldl (λacc r=>zjI r acc) acc↔x∈acc∨x∈l
 | [],acc=>by simp
 | y :: l,acc=>by
   rw [List.foldl_cons,zkF,zlL,List.mem_cons];constructor
   · rintro ((h | h) | h)<;>simp [h]
   rintro (h | h | h)<;>simp [h]
theorem zjK {x:DRace} {l:List DRace}:x∈zcO l↔x∈l:=by unfold zcO;rw [zkF];simp
theorem zm2:∀ {l acc:List DRace},acc.Pairwise ltR→(l.foldl (λacc r=>zjI r acc) acc).Pairwise ltR
 | [],acc,h=>h
 | y :: l,acc,h=>by
   rw [List.foldl_cons];exact zm2 (zjJ h)
theorem zlM (l:List DRace):(zcO l).Pairwise ltR:=zm2 List.Pairwise.nil
theorem zpu (r:DRace):∀ l:List DRace,(zjI r l).length≤l.length+1
 | []=>by simp [zjI]
 | x :: l=>by
   have:=zpu r l;rw [zjI];split
   · simpa using this
   split<;>simp
theorem zkG:∀ (l acc:List DRace),(l.foldl (λacc r=>zjI r acc) acc).length≤acc.length+l.length
 | [],acc=>by simp
 | y :: l,acc=>by
   have h1:=zkG l (zjI y acc);have h2:=zpu y acc;rw [List.foldl_cons,List.length_cons];omega
theorem zjL (l:List DRace):(zcO l).length≤l.length:=by have:=zkG l [];simpa [zcO] using this
theorem zod {l m:List DRace} (h:∀ x,x∈l↔x∈m):zcO l=zcO m:=zhS (zlM l) (zlM m) λx=>by rw [zjK,zjK,h]
theorem zsc (l:List DRace):ddp (srt l)=zcO l:=zhS (zwz (zwy l)) (zlM l) λx=>by rw [zvC,zjK,(zps l).mem_iff]
def clR (a b:DTouch):List DRace:=if zdb a b then [zdr a b] else []
def gB (a:DTouch) (bs:List DTouch):List DRace:=bs.flatMap (clR a)
def gL (Ls:List (List DTouch)) (a:DTouch):List DRace:=Ls.flatMap (gB a)
def gA (Ls:List (List DTouch)) (xs:List DTouch):List DRace:=xs.flatMap (gL Ls)
def zic (T:Nat→List DTouch) (t:Nat):List (List DTouch):=(List.range t).map T
def gT (T:Nat→List DTouch) (n:Nat):List DRace:=(List.range n).flatMap λt=>gA (zic T t) (T t)
def hA (bs xs:List DTouch):List DRace:=xs.flatMap λa=>gB a bs
def hU (T:Nat→List DTouch) (xs:List DTouch) (t:Nat):List DRace:=(List.range t).flatMap λu=>hA (T u) xs
def hT (T:Nat→List DTouch) (n:Nat):List DRace:=(List.range n).flatMap λt=>hU T (T t) t
theorem ztY (T:Nat→List DTouch) (n:Nat):zcO (gT T n)=zcO (hT T n):=by
 refine zod λx=>?_;simp only [gT,hT,gA,hU,gL,hA,zic,List.mem_flatMap,List.mem_range,List.mem_map];constructor
 · rintro ⟨t,ht,a,ha,L,⟨u,hu,rfl⟩,hx⟩
   exact ⟨t,ht,u,hu,a,ha,hx⟩
 rintro ⟨t,ht,u,hu,a,ha,hx⟩;exact ⟨t,ht,a,ha,T u,⟨u,hu,rfl⟩,hx⟩
theorem zdc {α β:Type} {f:α→List β} {k:Nat}:∀ {l:List α},(∀ x∈l,(f x).length≤k)→(l.flatMap f).length≤l.length*k
 | [],_=>by simp
 | x :: l,h=>by
   have h1:=h x (by simp);have h2:=zdc (l:=l) λy hy=>h y (by simp [hy]);rw [List.flatMap_cons,List.length_append,List.length_cons,Nat.add_mul];omega
theorem zbA {α β:Type} {f:α→List β} {l:List α} {k:Nat} (h:k<l.length):(l.take (k+1)).flatMap f=(l.take k).flatMap f++f l[k]:=by
 rw [tk h,List.flatMap_append];simp
theorem zdD {β:Type} {f:Nat→List β} (n:Nat):(List.range (n+1)).flatMap f=(List.range n).flatMap f++f n:=by
 rw [List.range_succ,List.flatMap_append];simp
theorem zvD (a b:DTouch):(clR a b).length≤1:=by unfold clR;split<;>simp
theorem zpv (a:DTouch) {bs:List DTouch} (h:bs.length≤12):(gB a bs).length≤12:=by
 have:=zdc (f:=clR a) (l:=bs) (k:=1) λx _=>zvD a x;unfold gB;omega
theorem zuN {Ls:List (List DTouch)} (a:DTouch) (h:Ls.length≤6) (h2:∀ L∈Ls,L.length≤12):(gL Ls a).length≤72:=by
 have:=zdc (f:=gB a) (l:=Ls) (k:=12) λx hx=>zpv a (h2 x hx);unfold gL;omega
theorem zuO {Ls:List (List DTouch)} {xs:List DTouch} (h:Ls.length≤6) (h2:∀ L∈Ls,L.length≤12) (h3:xs.length≤12):(gA Ls xs).length≤864:=by
 have:=zdc (f:=gL Ls) (l:=xs) (k:=72) λx hx=>zuN x h h2;unfold gA;omega
theorem zsd {T:Nat→List DTouch} (h:∀ t,(T t).length≤12) {n:Nat} (hn:n≤6):(gT T n).length≤5184:=by
 have:=zdc (f:=λt=>gA (zic T t) (T t)) (l:=List.range n) (k:=864) λt ht=>by
   have ht':=List.mem_range.1 ht
   exact zuO (by simp [zic];omega) (λL hL=>by
     simp only [zic,List.mem_map] at hL;obtain ⟨u,_,rfl⟩:=hL;exact h u) (h t)
 unfold gT;rw [List.length_range] at this;omega
theorem zuP {bs xs:List DTouch} (h:bs.length≤12) (h2:xs.length≤12):(hA bs xs).length≤144:=by
 have:=zdc (f:=λa=>gB a bs) (l:=xs) (k:=12) λx hx=>zpv x h;unfold hA;omega
theorem zuQ {T:Nat→List DTouch} (h:∀ t,(T t).length≤12) {xs:List DTouch} (h2:xs.length≤12) {t:Nat} (ht:t≤6):(hU T xs t).length≤864:=by
 have:=zdc (f:=λu=>hA (T u) xs) (l:=List.range t) (k:=144) λu _=>zuP (h u) h2;rw [List.length_range] at this;unfold hU;omega
theorem zwA {T:Nat→List DTouch} (h:∀ t,(T t).length≤12) {n:Nat} (hn:n≤6):(hT T n).length≤5184:=by
 have:=zdc (f:=λt=>hU T (T t) t) (l:=List.range n) (k:=864) λt ht=>zuQ h (h t) (by have:=List.mem_range.1 ht;omega);rw [List.length_range] at this;unfold hT;omega
def tA (c:DCode) (s:DState) (t:Nat):List DTouch:=if 0≤zd7 s t then zcs c (zd7 s t) 0 else []
theorem zkH {c:DCode} {a held:Int} {i:DIns} {x:DTouch}:∀ {k:Nat},x∈zcr c a held i k→x.at_=a∧x.held=held
 | 0,h=>by simp [zcr] at h
 | k+1,h=>by
   rw [zcr,List.mem_append,List.mem_append] at h;rcases h with (h | h) | h
   · exact zkH h
   · split at h
     · simp only [List.mem_cons,List.not_mem_nil,or_false] at h;subst h;exact ⟨rfl,rfl⟩
     simp at h
   split at h
   · simp only [List.mem_cons,List.not_mem_nil,or_false] at h;subst h;exact ⟨rfl,rfl⟩
   simp at h
theorem zd9 {c:DCode} {a held:Int} {x:DTouch} (h:x∈zcs c a held):x.at_=a∧x.held=held:=by
 unfold zcs at h;split at h
 · exact zkH h
 simp at h
theorem zwB {c:DCode} {s:DState} {t:Nat} {x:DTouch} (h:x∈tA c s t):x.at_=zd7 s t∧x.held=0:=by
 unfold tA at h;split at h
 · exact zd9 h
 simp at h
theorem zse {c:DCode} (s:DState) (hc:CodeR c) (t:Nat):(tA c s t).length≤12:=by
 unfold tA;split
 · have h1:=zjF c (zd7 s t) 0
   have h2:=hc.1.1;simp only [Bool.and_eq_true,decide_eq_true_eq] at h2;omega
 simp
def zem (c:DCode) (s:DState):List DRace:=zcO (gT (tA c s) s.stacks.length)
theorem zvE (c:DCode) (s:DState):zcO (hT (tA c s) s.stacks.length)=zem c s:=(ztY _ _).symm
theorem zjM {c:DCode} (s:DState) (hc:CodeR c) (hs:zbc c s):(zem c s).length≤5184:=
 Nat.le_trans (zjL _) (zsd (zse s hc) hs.2.2.1.2)
theorem zqo {w w0:World} {v:Value} {l:List DRace} (h:Is w0 v l) (hx:Ext w0 w) (hn:l.length≤1000000) :
   CALL tp 111 [v] w λr w'=>Ext w w'∧Own w.heap.size w' r (zcO l):=by
 refine F111_call ?_;unfold F111;refine (zmY h hx (by omega)).mono ?_;rintro v1 w1 ⟨hx1,ho1⟩;refine (zpt ho1.toI (by omega)).mono ?_;rintro _ w2 ⟨hc2,ho2⟩;refine (zkD ho2 (by rw [zob];omega)).mono ?_;rintro v3 w3 ⟨hc3,ho3⟩;refine (zpp ho3).mono ?_;rintro v4 w4 ⟨hx4,ho4⟩;rw [zsc] at ho4;exact ⟨((hx1.chgI hc2 (lr _)).chgI hc3 (lr _)).trans hx4,ho4.own⟩
def OrdP (c:DCode) (fr to i:Nat):Prop:=MetP c i∧(zal c i).op=6∧agN c i=to∧MayP c i fr
def mkO (fr to i:Nat):DOrder:=⟨fr,to,i⟩
theorem MayP.locks {c:DCode} (hc:CodeR c) {i l:Nat} (h:MayP c i l):l<c.locks.length:=by
 induction h with
 | lock hm ho ha hj=>subst ha;exact (zcN hc (hm.lt hc) (.inl ho)).2.1
 | pass _ _ _ _ _ ih=>exact ih
 | call _ _ _ ih=>exact ih
 | back _ _ _ _ _ ih=>exact ih
open Classical in
noncomputable def zfo (c:DCode) (fr to i:Nat):List DOrder:=if OrdP c fr to i then [mkO fr to i] else []
noncomputable def zjN (c:DCode) (fr to:Nat):List DOrder:=(List.range c.ins.length).flatMap (zfo c fr to)
noncomputable def zhi (c:DCode) (fr:Nat):List DOrder:=(List.range c.locks.length).flatMap (zjN c fr)
noncomputable def zd4 (c:DCode):List DOrder:=(List.range c.locks.length).flatMap (zhi c)
theorem zfL {c:DCode} {fr to i:Nat} {x:DOrder}:x∈zfo c fr to i↔OrdP c fr to i∧x=mkO fr to i:=by
 unfold zfo;split
 · rename_i h;simp [h]
 rename_i h;simp [h]
theorem ziB {c:DCode} (hc:CodeR c) {x:DOrder}:x∈zd4 c↔∃ fr to i,OrdP c fr to i∧x=mkO fr to i:=by
 unfold zd4 zhi zjN;simp only [List.mem_flatMap,List.mem_range,zfL];constructor
 · rintro ⟨fr,_,to,_,i,_,h⟩;exact ⟨fr,to,i,h⟩
 rintro ⟨fr,to,i,h,e⟩;have hi:=h.1.lt hc;exact ⟨fr,h.2.2.2.locks hc,to,h.2.2.1▸(zcN hc hi (.inl h.2.1)).2.1,i,hi,h,e⟩
theorem zhT {α β:Type} {f:α→List β} {B:Nat}:∀ {l:List α},(∀ a∈l,(f a).length≤B)→(l.flatMap f).length≤l.length*B
 | [],_=>by simp
 | a :: l,h=>by
   have h1:=h a (by simp);have h2:=zhT (l:=l) λb hb=>h b (by simp [hb]);simp only [List.flatMap_cons,List.length_append,List.length_cons,Nat.add_mul];omega
theorem zsf (c:DCode) (fr to i:Nat):(zfo c fr to i).length≤1:=by unfold zfo;split<;>simp
theorem zm3 (c:DCode) (fr to k:Nat):((List.range k).flatMap (zfo c fr to)).length≤k:=by
 have:=zhT (l:=List.range k) λa _=>zsf c fr to a;simpa using this
theorem zm4 {c:DCode} (hn:c.ins.length≤1500) (fr k:Nat):((List.range k).flatMap (zjN c fr)).length≤k*1500:=by
 have:=zhT (l:=List.range k) (f:=zjN c fr) (B:=1500) λa _=>Nat.le_trans (zm3 c fr a _) hn;rw [List.length_range] at this;exact this
theorem zm5 {c:DCode} (hn:c.ins.length≤1500) (hl:c.locks.length≤6) (k:Nat):((List.range k).flatMap (zhi c)).length≤k*9000:=by
 have:=zhT (l:=List.range k) (f:=zhi c) (B:=9000) λa _=>by
   have:=zm4 hn a c.locks.length;unfold zhi;omega
 rw [List.length_range] at this;exact this
theorem zpw {c:DCode} (hc:CodeR c):(zd4 c).length≤54000:=by
 have h6:=hc.1.locks6;exact Nat.le_trans (zm5 hc.f.ins h6 _) (by omega)
theorem zoe (c:DCode):(zd4 c).Pairwise ltO:=by
 unfold zd4 zhi zjN;have hr:∀ n,(List.range n).Pairwise (λa b=>a<b):=λn=>List.pairwise_lt_range;refine List.pairwise_flatMap.2 ⟨λfr _=>List.pairwise_flatMap.2 ⟨λto _=>List.pairwise_flatMap.2 ⟨λi _=>?_,(hr _).imp ?_⟩,(hr _).imp ?_⟩,(hr _).imp ?_⟩
 · unfold zfo;split<;>simp
 · intro a b hab x hx y hy
   obtain ⟨_,rfl⟩:=zfL.1 hx;obtain ⟨_,rfl⟩:=zfL.1 hy;exact .inr ⟨rfl,.inr ⟨rfl,Int.ofNat_lt.2 hab⟩⟩
 · intro a b hab x hx y hy
   simp only [List.mem_flatMap,zfL] at hx hy;obtain ⟨_,_,_,rfl⟩:=hx;obtain ⟨_,_,_,rfl⟩:=hy;exact .inr ⟨rfl,.inl (Int.ofNat_lt.2 hab)⟩
 intro a b hab x hx y hy;simp only [List.mem_flatMap,zfL] at hx hy;obtain ⟨_,_,_,_,_,rfl⟩:=hx;obtain ⟨_,_,_,_,_,rfl⟩:=hy;exact .inl (Int.ofNat_lt.2 hab)
def zuR (c:DCode) (i:Nat) (l:Int):DOrder:=⟨l,agN c i,i⟩
open Classical in
noncomputable def zqS (c:DCode) (i:Nat):List DOrder:=if MetP c i∧(zal c i).op=6 then (zbn (zax (zmR c) i)).map (zuR c i) else []
noncomputable def znz (c:DCode) (k:Nat):List DOrder:=(List.range k).flatMap (zqS c)
theorem zm6 {m:Nat} (hm:m<64) {x:Int}:x∈zbn m↔∃ i:Nat,x=(i:Int)∧m.testBit i=true:=by
 unfold zbn;rw [zc7];constructor
 · rintro ⟨i,_,h⟩;exact ⟨i,h⟩
 rintro ⟨i,h,hb⟩;exact ⟨i,by have:=zfe hm hb;omega,h,hb⟩
theorem zjO (m:Nat):∀ k,(zcD m k).Pairwise (λa b=>a<b)
 | 0=>by simp [zcD]
 | k+1=>by
   rw [zcD];split
   · refine List.pairwise_append.2 ⟨zjO m k,by simp,λa ha b hb=>?_⟩
     obtain ⟨i,hi,rfl,_⟩:=zc7.1 ha;simp only [List.mem_singleton] at hb;omega
   exact zjO m k
theorem zpx {c:DCode} {i:Nat} {x:DOrder} (hi:i<c.ins.length):x∈zqS c i↔∃ fr to,OrdP c fr to i∧fr<6∧x=mkO fr to i:=by
 unfold zqS;split
 · rename_i h
   rw [zn8 hi];simp only [List.mem_map,zm6 zjt,zkB];constructor
   · rintro ⟨_,⟨l,rfl,h6,hm⟩,rfl⟩;exact ⟨l,agN c i,⟨h.1,h.2,rfl,hm⟩,h6,rfl⟩
   rintro ⟨fr,to,hp,h6,rfl⟩;refine ⟨fr,⟨fr,rfl,h6,hp.2.2.2⟩,?_⟩;unfold zuR mkO;rw [hp.2.2.1]
 rename_i h
 constructor
 · intro h;cases h
 rintro ⟨fr,to,hp,_⟩;exact absurd ⟨hp.1,hp.2.1⟩ h
theorem ztZ {c:DCode} {i:Nat}:(zqS c i).length≤64:=by
 unfold zqS;split
 · rw [List.length_map];exact zdA _ 64
 simp
theorem zt0 (c:DCode) (k:Nat):(znz c k).length≤k*64:=by
 have:=zhT (l:=List.range k) λa _=>ztZ (c:=c) (i:=a);rw [List.length_range] at this;exact this
theorem zqp (x y:DOrder):ltO x y∨x=y∨ltO y x:=by
 by_cases h1:ltO x y
 · exact .inl h1
 by_cases h2:ltO y x
 · exact .inr (.inr h2)
 exact .inr (.inl (zmX h1 h2))
theorem zsg {c:DCode} (hc:CodeR c):zvz (znz c c.ins.length)=zd4 c:=by
 have hmem:∀ x,x∈znz c c.ins.length↔x∈zd4 c:=λx=>by
   rw [ziB hc];unfold znz;simp only [List.mem_flatMap,List.mem_range];constructor
   · rintro ⟨i,hi,hx⟩
     obtain ⟨fr,to,h,_,e⟩:=(zpx hi).1 hx;exact ⟨fr,to,i,h,e⟩
   rintro ⟨fr,to,i,h,e⟩;have hi:=h.1.lt hc;have:=h.2.2.2.locks hc;have h6:=hc.1.locks6;exact ⟨i,hi,(zpx hi).2 ⟨fr,to,h,by omega,e⟩⟩
 have hnd:(znz c c.ins.length).Pairwise (λx y=>x≠y):=by
   unfold znz;refine List.pairwise_flatMap.2 ⟨λi _=>?_,List.pairwise_lt_range.imp ?_⟩
   · unfold zqS;split
     · refine List.pairwise_map.2 ((zjO _ _).imp λ{a b} h e=>?_)
       have:=congrArg DOrder.fr e;unfold zuR at this;simp only at this;omega
     simp
   intro a b hab x hx y hy e
   have h1:∀ {i:Nat} {x:DOrder},x∈zqS c i→x.at_=i:=λ{i x} hx=>by
     unfold zqS at hx;split at hx
     · obtain ⟨l,_,rfl⟩:=List.mem_map.1 hx;rfl
     cases hx
   have:=h1 hx;have h2:=h1 hy;rw [e,h2] at this;omega
 refine zjD ?_ (zoe c) λx=>(zjE _).mem_iff.trans (hmem x);have h1:=zvA (znz c c.ins.length);have h2:(zvz (znz c c.ins.length)).Pairwise (λx y=>x≠y):=(zjE _).symm.pairwise hnd (λh e=>h e.symm);refine (List.pairwise_and_iff.2 ⟨h1,h2⟩).imp λ{x y} h=>?_;rcases zqp x y with h3 | h3 | h3
 · exact h3
 · exact absurd h3 h.2
 exact absurd h3 h.1
end Go.Proofs.YtifonhplnmpgaaaGreat
namespace Go.Proofs.YtifonhplnmpgaaaGreat
open Go Go.Sh Go.Proofs Go.Sort
open Rep (rep)
def F83 (a0 a1:Value) (w:World) (R:VW):Prop:=
 (λw=>rX 23 a0 (iV 0) w λx6=>
 rL 3 x6 w λx7=>
 rX 23 a1 (iV 0) w λx9=>
 rL 3 x9 w λx10=>
 rB .sub 3 T0 T0 x7 x10 w λx11=>
 R x11 w) (World.drew1 w)
theorem F83_call {a0 a1 w R} (h:F83 a0 a1 w R):cL 83 [a0,a1] w R:=co (g:=(kf [] [] [(1,[0,1,2,3,4,5,6,7],0)])) Tryz.func83 h
open Rep (rep)
def hd0 (l:List Int):Int:=l.headD 0
theorem zgy {w:World}:∀ {l:List (List Int)} {F:List Nat} {xs:List Value},Cells F w xs l→∃ Z:List (List Nat×Value×List Int),F=Z.flatMap (·.1)∧xs=Z.map (·.2.1)∧l=Z.map (·.2.2)∧∀ z∈Z,rep z.1 w [z.2.1] z.2.2
 | [],_,_,⟨h1,h2⟩=>⟨[],h1,h2,rfl,by simp⟩
 | y :: ys,_,_,⟨F1,F2,c1,c2,hF,hx,h1,h2⟩=>by
   obtain ⟨Z,e1,e2,e3,e4⟩:=zgy h2;obtain ⟨v,rfl⟩:∃ v,c1=[v]:=List.length_eq_one_iff.1 (Rep.len h1);refine ⟨(F1,v,y) :: Z,by simp [hF,e1],by simp [hx,e2],by simp [e3],λz hz=>?_⟩;rcases List.mem_cons.1 hz with rfl | hz
   · exact h1
   exact e4 z hz
theorem zjP {w:World}:∀ {Z:List (List Nat×Value×List Int)},(∀ z∈Z,rep z.1 w [z.2.1] z.2.2)→Cells (Z.flatMap (·.1)) w (Z.map (·.2.1)) (Z.map (·.2.2))
 | [],_=>⟨rfl,rfl⟩
 | z :: Z,h=>⟨z.1,Z.flatMap (·.1),[z.2.1],Z.map (·.2.1),by simp,by simp,h z (by simp),zjP λy hy=>h y (by simp [hy])⟩
theorem zof {l:List Int} (h:l≠[]):hd0 l=l[0]'(List.length_pos_iff.2 h):=by
 cases l with
 | nil=>exact absurd rfl h
 | cons x l=>rfl
theorem zm7 {w:World} {x y:Value} {a b:List Int} (hx:Is w x a) (hy:Is w y b) (ha:a≠[]) (hb:b≠[]) (h1:0≤hd0 a∧hd0 a<1000) (h2:0≤hd0 b∧hd0 b<1000) :
   CALL tp 83 [x,y] w λr w'=>r=.int .i64 (hd0 a-hd0 b)∧zgx w w':=by
 refine F83_call ?_;unfold F83;have hg:zgx w (World.drew1 w):=⟨1,#[],by simp only [Go.Sort.grow,World.drewN,World.drew1,Array.append_empty]⟩;have hxd:=zaj w;generalize World.drew1 w=w1 at *;have e1:=zof ha;have e2:=zof hb;refine zac (i:=0) u23 ty3 hx (List.length_pos_iff.2 ha) λb1 o1 hA1=>?_;refine zad ty3 hA1 hxd λ_=>?_;refine zac (i:=0) u23 ty3 hy (List.length_pos_iff.2 hb) λb2 o2 hA2=>?_;refine zad ty3 hA2 hxd λ_=>?_;rw [←e1,←e2];refine zbd (by unfold I64;omega) ?_;exact ⟨rfl,hg⟩
set_option maxHeartbeats 4000000 in
theorem zt1 {w:World} {lo hi:Nat} {v:Value} {cs:List (List Int)} (h:OwnI lo hi w v cs) (hn:cs.length≤1000) (hne:∀ c∈cs,c≠[]) (hb:∀ c∈cs,0≤hd0 c∧hd0 c<1000) (hd:cs.Pairwise λa b=>hd0 a≠hd0 b) :
    CALL tp 82 [v,.func (.func 83) #[] #[]] w λr w'=>ChgI lo hi w w'∧∃ cs':List (List Int),OwnI lo hi w' v cs'∧cs'.Perm cs∧cs'.Pairwise λa b=>hd0 a<hd0 b:=by
  obtain ⟨F,hM,hF⟩:=h;by_cases hne0:cs=[]
  · subst hne0
    obtain ⟨a,cap,hv⟩:∃ a cap,v=.slice a 0 cap:=by
      obtain ⟨cs,⟨a,cap,G,xs,h,_⟩,hv⟩:=hM.own;exact ⟨a,cap,by rw [hv,h];rfl⟩
    subst hv;refine ⟨(AnyF.slices_SortFunc_none { Tryz.sortInts with } a cap _ w).mono ?_⟩;rintro e w' ⟨he,rfl⟩;exact ⟨_,he,ChgI.refl _,[],⟨F,hM,hF⟩,.refl _,.nil⟩
  obtain ⟨⟨c0,⟨a,cap,Fi,xs,rfl,h1,h2,hc,h4⟩,rfl⟩,hnd,hw⟩:=hM;rcases h4 with ⟨h4,_⟩ | ⟨b,o,rfl,rfl,hr,hbl⟩
  · exact absurd h4 hne0
  obtain ⟨Z,rfl,rfl,rfl,hZ⟩:=zgy hc;obtain ⟨c,e,hbe⟩:=hw b (by simp);have hbF:∀ z∈Z,b∉z.1:=λz hz hm=>(List.nodup_cons.1 hnd).1 (List.mem_flatMap.2 ⟨z,hz,hm⟩);have hnZ:Z.length≤1000:=by simpa using hn
  have hn0:0<Z.length:=by
    rcases Nat.eq_zero_or_pos Z.length with h | h
    · exact absurd (by rw [List.eq_nil_of_length_eq_zero h];rfl) hne0
    exact h
  haveI:Inhabited (Fin Z.length):=⟨⟨0,hn0⟩⟩
  obtain ⟨enc,henc⟩:∃ enc:Fin Z.length→Value,enc=λi=>Z[i].2.1:=⟨_,rfl⟩;obtain ⟨cf,hcf⟩:∃ cf:Fin Z.length→Fin Z.length→Int,cf=λi j=>hd0 Z[i].2.2-hd0 Z[j].2.2:=⟨_,rfl⟩;obtain ⟨d,hdd⟩:∃ d:Array (Fin Z.length),d=(List.finRange Z.length).toArray:=⟨_,rfl⟩;have hds:d.size=Z.length:=by rw [hdd];simp
  have hfin:(List.finRange Z.length).map (λi=>Z[i])=Z:=List.ext_getElem (by simp) λi h1 h2=>by simp
  have hdg:∀ j (hj:j<Z.length),d[j]! = ⟨j,hj⟩:=λj hj=>by
    rw [getElem!_pos d j (by rw [hds];exact hj)];simp [hdd]
  have hone:OneCell enc:=λi=>by
    have h:=Rep.one (hZ _ (List.getElem_mem i.2)) Z[i.1].2.1 (by simp);rw [henc];exact h
  have hHo:Holds enc w b o d:=λj hj=>by
    rw [hds] at hj;rw [hdg j hj];refine ⟨hr j _ ?_,?_⟩
    · rw [henc,List.getElem?_map,List.getElem?_eq_getElem hj];rfl
    simp [World.frozen?,hbe]
  have hmem:∀ i:Fin Z.length,Z[i].2.2∈Z.map (·.2.2):=λi=>List.mem_map.2 ⟨_,List.getElem_mem _,rfl⟩
  have hdis:∀ i j:Fin Z.length,hd0 Z[i].2.2=hd0 Z[j].2.2→i=j:=λi j hij=>by
    rw [List.pairwise_map,List.pairwise_iff_getElem] at hd;rcases Nat.lt_trichotomy i.1 j.1 with h | h | h
    · exact absurd hij (hd i.1 j.1 i.2 j.2 h)
    · exact Fin.ext h
    exact absurd hij.symm (hd j.1 i.1 j.2 i.2 h)
  have hlt:∀ i j,ltOf cf i j=decide (hd0 Z[i].2.2<hd0 Z[j].2.2):=λi j=>by
    unfold ltOf;rw [hcf,decide_eq_decide];show hd0 Z[i].2.2-hd0 Z[j].2.2<0↔_;omega
  have hswo:SWO (ltOf cf):=by
    refine ⟨λx=>?_,λx y z h k=>?_,λx y z h k=>?_⟩
    · rw [hlt,decide_eq_false_iff_not];omega
    · rw [hlt,decide_eq_true_eq] at *;omega
    rw [hlt,decide_eq_false_iff_not] at *;omega
  have hbw:b<w.heap.size:=(Array.getElem?_eq_some_iff.1 hbe).1
  have hblk:∀ (m:Nat) (dk:Array (Fin Z.length)) (os:Array Obj) i,i<w.heap.size→i≠b→(sortWorld enc w b o m dk os).heap[i]?=w.heap[i]?:=λm dk os i hi hne=>by
    unfold sortWorld;rw [heap_grow_old _ _ (by simpa [putRow,mapBlock,Sort.ahead] using hi)];simp [putRow,mapBlock,Sort.ahead,Array.getElem?_modify,hne.symm]
  have hrep:∀ (m:Nat) (dk:Array (Fin Z.length)) (os:Array Obj),∀ z∈Z,rep z.1 (sortWorld enc w b o m dk os) [z.2.1] z.2.2:=λm dk os z hz=>
    Rep.keep (hZ z hz) λi hi=>hblk m dk os i (Rep.lt (hZ z hz) i hi) λe=>hbF z hz (e▸hi)
  have hcmp:CmpLays1 tp 83 #[] enc cf b o d.size w:=λm os dk _ i j=>by
    have hI:∀ k:Fin Z.length,Is (sortWorld enc w b o m dk os) (enc k) Z[k].2.2:=λk=>⟨_,_,hrep m dk os _ (List.getElem_mem k.2),by rw [henc];rfl⟩;obtain ⟨h⟩:=zm7 (hI i) (hI j) (hne _ (hmem i)) (hne _ (hmem j)) (hb _ (hmem i)) (hb _ (hmem j));refine h.mono ?_;rintro e w' ⟨v,he,hv,q,os',hw'⟩;exact ⟨by rw [he,hv,hcf],q,os',hw'⟩
  have hlen:(Z.map (·.2.2)).length=d.size:=by rw [hds,List.length_map]
  show CALL tp 82 [.slice (some ⟨b,o,none⟩) (Z.map (·.2.2)).length cap,_] w _;rw [hlen]
  refine ⟨(Any.slices_SortFunc_total Tryz.sortInts enc hone cf hswo 83 #[] b o cap d w (zdK (ent 83 (by decide) (by kernel_rfl))) hcmp hHo hbw (by omega) (λx y h k=>by
      rw [hlt,decide_eq_false_iff_not] at *;exact hdis x y (by omega))).mono ?_⟩
  rintro ex w' ⟨he,n,os,hw'⟩;generalize hd':(d.toList.mergeSort λx y=>!(ltOf cf) y x)=d' at hw'
  have hperm:d'.Perm (List.finRange Z.length):=by
    rw [←hd',hdd];exact List.mergeSort_perm _ _
  have hsrt:d'.Pairwise λi j=>¬hd0 Z[j].2.2<hd0 Z[i].2.2:=by
    rw [←hd']
    have:=List.pairwise_mergeSort (le:=λx y=>!(ltOf cf) y x) (λa b c h1 h2=>by
      simp only [hlt,Bool.not_eq_true',decide_eq_false_iff_not] at *;omega) (λa b=>by
      simp only [hlt,Bool.or_eq_true,Bool.not_eq_true',decide_eq_false_iff_not];omega) d.toList
    exact this.imp λh=>by simpa [hlt] using h
  have hZp:(d'.map λi=>Z[i]).Perm Z:=by
    have:=hperm.map λi=>Z[i]
    rwa [hfin] at this
  have hl':d'.length=Z.length:=by rw [hperm.length_eq];simp
  subst hw'
  have hsz2:w.heap.size≤(sortWorld enc w b o n d'.toArray os).heap.size:=by
    unfold sortWorld Go.Sort.grow;rw [Array.size_append];simp [putRow,mapBlock,Sort.ahead]
  have hbb:∃ c',(sortWorld enc w b o n d'.toArray os).heap[b]?=some (.cells c' e (0,0)):=by
    unfold sortWorld;rw [heap_grow_old _ _ (by simpa [putRow,mapBlock,Sort.ahead] using hbw)];exact ⟨_,by simp [putRow,mapBlock,Sort.ahead,Array.getElem?_modify,hbe,onCells];rfl⟩
  have hchg:Chg [b] w (sortWorld enc w b o n d'.toArray os):=⟨rfl,rfl,rfl,hsz2,λi hi hm=>hblk _ _ _ i hi λe=>hm (by simp [e])⟩;generalize hZ':(d'.map λi=>Z[i])=Z' at *;have hmZ:∀ z∈Z',z∈Z:=λz hz=>hZp.mem_iff.1 hz;have hFp:(Z'.flatMap (·.1)).Perm (Z.flatMap (·.1)):=hZp.flatMap_right _;have hxs:Z'.map (·.2.1)=d'.map enc:=by rw [←hZ',henc,List.map_map];rfl
  refine ⟨_,he,?_,Z'.map (·.2.2),⟨b :: Z'.flatMap (·.1),⟨⟨_,⟨some ⟨b,o,none⟩,cap,Z'.flatMap (·.1),Z'.map (·.2.1),rfl,?_,h2,zjP λz hz=>hrep _ _ _ z (hmZ z hz),.inr ⟨b,o,rfl,rfl,?_,by omega⟩⟩,?_⟩,?_,?_⟩,?_⟩,hZp.map _,?_⟩
  · exact hchg.toI λi hi=>hF i (by simp only [List.mem_cons,List.not_mem_nil,or_false] at hi;simp [hi])
  · have:=hZp.length_eq;simp only [List.length_map] at h1 ⊢;omega
  · rw [hxs]
    intro j v hv
    have hj:j<d'.length:=by
      have:=(List.getElem?_eq_some_iff.1 hv).1;simpa using this
    have:=cell?_putRow enc (Sort.ahead w n) b o d d'.toArray hHo (by simp [hds,hl']) j (by simpa using hj);unfold sortWorld;rw [cell?_grow _ _ _ (by simpa [putRow,mapBlock,Sort.ahead] using hbw),this];rw [List.getElem?_map,List.getElem?_eq_getElem hj] at hv;rw [getElem!_pos d'.toArray j (by simpa using hj)];simpa using hv
  · have:=hZp.length_eq
    simp only [mkv,Rep.agg,cond_false,List.headD_cons,List.length_map,hds,this]
  · rw [List.nodup_cons] at hnd ⊢
    exact ⟨λh=>hnd.1 (hFp.mem_iff.1 h),(hFp.nodup_iff).2 hnd.2⟩
  · intro i hi
    rcases List.mem_cons.1 hi with rfl | hi
    · obtain ⟨c',hc'⟩:=hbb;exact ⟨c',e,hc'⟩
    have hi':=hFp.mem_iff.1 hi;obtain ⟨z,hz,hzi⟩:=List.mem_flatMap.1 hi';have hne:i≠b:=λe=>hbF z hz (e▸hzi);obtain ⟨c',e',h'⟩:=hw i (by simp [hi']);exact ⟨c',e',by rw [hblk _ _ _ i (Array.getElem?_eq_some_iff.1 h').1 hne];exact h'⟩
  · intro i hi
    rcases List.mem_cons.1 hi with rfl | hi
    · exact hF _ (by simp)
    exact hF i (by simp [hFp.mem_iff.1 hi])
  have hs1:Z'.Pairwise λx y=>¬hd0 y.2.2<hd0 x.2.2:=by
    rw [←hZ',List.pairwise_map];exact hsrt
  have hs2:Z'.Pairwise λx y=>hd0 x.2.2≠hd0 y.2.2:=by
    rw [List.pairwise_map] at hd;exact hZp.symm.pairwise hd λh e=>h e.symm
  rw [List.pairwise_map];exact (List.pairwise_and_iff.2 ⟨hs1,hs2⟩).imp λh=>by have:=h.1;have:=h.2;omega
def zf8 (x:DOrder):DArc:=⟨x.fr,x.to⟩
def ltA (a b:DArc):Prop:=a.fr<b.fr∨(a.fr=b.fr∧a.to<b.to)
structure AInv (L:List DOrder) (A:List DArc):Prop where
 mem:∀ a,a∈A↔∃ x∈L,a=zf8 x
 pw:A.Pairwise ltA
section
variable {L:List DOrder} {A:List DArc} {x:DOrder}
theorem AInv.start:AInv [] []:=⟨by simp,.nil⟩
theorem AInv.le (h:AInv L A) (hs:(L++[x]).Pairwise ltO):∀ a∈A,a=zf8 x∨ltA a (zf8 x):=λa ha=>by
 obtain ⟨y,hy,rfl⟩:=(h.mem a).1 ha;have:=(List.pairwise_append.1 hs).2.2 y hy x (by simp);unfold ltO at this;unfold ltA zf8;rcases this with h1 | ⟨h1,h2 | ⟨h2,_⟩⟩
 · exact .inr (.inl h1)
 · exact .inr (.inr ⟨h1,h2⟩)
 exact .inl (DArc.ext_iff.2 ⟨h1,h2⟩)
theorem AInv.old (h:AInv L A) (hm:zf8 x∈A):AInv (L++[x]) A:=⟨λa=>by
 rw [h.mem];constructor
 · rintro ⟨y,hy,e⟩;exact ⟨y,by simp [hy],e⟩
 rintro ⟨y,hy,rfl⟩;rcases List.mem_append.1 hy with hy | hy
 · exact ⟨y,hy,rfl⟩
 simp only [List.mem_singleton] at hy;subst hy;exact (h.mem _).1 hm,h.pw⟩
theorem AInv.new (h:AInv L A) (hs:(L++[x]).Pairwise ltO) (hm:zf8 x∉A):AInv (L++[x]) (A++[zf8 x]):=⟨λa=>by
 simp only [List.mem_append,List.mem_singleton,h.mem];constructor
 · rintro (⟨y,hy,e⟩ | rfl)
   · exact ⟨y,.inl hy,e⟩
   exact ⟨x,.inr rfl,rfl⟩
 · rintro ⟨y,hy | rfl,rfl⟩
   · exact .inl ⟨y,hy,rfl⟩
   exact .inr rfl,List.pairwise_append.2 ⟨h.pw,by simp,λa ha b hb=>by
 simp only [List.mem_singleton] at hb;subst hb;rcases h.le hs a ha with rfl | h1
 · exact absurd ha hm
 exact h1⟩⟩
theorem zqq (a:DArc):¬ltA a a:=by unfold ltA;omega
theorem zsh {a b:DArc} (h:ltA a b) (k:ltA b a):False:=by unfold ltA at *;omega
theorem AInv.last (h:AInv L A) (hs:(L++[x]).Pairwise ltO) (hA:0<A.length):A[A.length-1]'(by omega)=zf8 x↔zf8 x∈A:=by
 constructor
 · intro e;rw [←e];exact List.getElem_mem _
 intro hm;obtain ⟨i,hi,e⟩:=List.getElem_of_mem hm;rcases h.le hs _ (List.getElem_mem (by omega:A.length-1<A.length)) with h1 | h1
 · exact h1
 exfalso;rcases Nat.lt_or_ge i (A.length-1) with hl | hl
 · have:=List.pairwise_iff_getElem.1 h.pw i (A.length-1) hi (by omega) hl
   rw [e] at this;exact zsh this h1
 have:i=A.length-1:=by omega
 subst this;rw [e] at h1;exact zqq _ h1
end
theorem zvF {N:Nat}:∀ {l:List Nat},l.Pairwise (λa b=>a<b)→(∀ x∈l,x<N)→l.length≤N
 | l,h,hb=>by
   have h1:=List.pairwise_iff_getElem.1 h
   have:∀ i (hi:i<l.length),i≤l[i]:=λi=>by
     induction i with
     | zero=>intro _;exact Nat.zero_le _
     | succ i ih=>
       intro hi;have h2:=ih (by omega);have h3:=h1 i (i+1) (by omega) hi (by omega);omega
   rcases Nat.eq_zero_or_pos l.length with h0 | h0
   · omega
   have h2:=this (l.length-1) (by omega);have h3:=hb _ (List.getElem_mem (by omega:l.length-1<l.length));omega
theorem zlN {n:Nat} {A:List DArc} (hn:n≤6) (hp:A.Pairwise ltA) (hb:∀ a∈A,(0≤a.fr∧a.fr<n)∧0≤a.to∧a.to<n):A.length≤36:=by
 have h1:(A.map λa=>(a.fr*6+a.to).toNat).Pairwise (λa b=>a<b):=by
   rw [List.pairwise_map];refine hp.imp_of_mem λ{a b} ha hb' h=>?_;have h2:=hb a ha;have h3:=hb b hb';unfold ltA at h;omega
 have:=zvF (N:=36) h1 λx hx=>by
   obtain ⟨a,ha,rfl⟩:=List.mem_map.1 hx;have:=hb a ha;omega
 simpa using this
noncomputable def nxL (c:DCode) (i:Nat):List Nat:=zaY c.locks.length λj=>∃ k,OrdP c i j k
theorem OrdP.in {c:DCode} (hc:CodeR c) {i j k:Nat} (h:OrdP c i j k):i<c.locks.length∧j<c.locks.length:=
 ⟨h.2.2.2.locks hc,h.2.2.1▸(zcN hc (h.1.lt hc) (.inl h.2.1)).2.1⟩
theorem ziC {c:DCode} (hc:CodeR c) {A:List DArc} (h:AInv (zd4 c) A):nxA c.locks.length A=nxL c:=by
 funext i;refine zfR λj hj=>?_;rw [h.mem];constructor
 · rintro ⟨_,x,hx,e⟩
   obtain ⟨fr,to,k,ho,rfl⟩:=(ziB hc).1 hx;have e1:(i:Int)=fr:=congrArg DArc.fr e;have e2:(j:Int)=to:=congrArg DArc.to e;have e1:=Int.ofNat_inj.1 e1;have e2:=Int.ofNat_inj.1 e2;subst e1;subst e2;exact ⟨k,ho⟩
 rintro ⟨k,ho⟩;exact ⟨(ho.in hc).1,mkO i j k,(ziB hc).2 ⟨i,j,k,ho,rfl⟩,rfl⟩
theorem AInv.rng {c:DCode} (hc:CodeR c) {k:Nat} {A:List DArc} (h:AInv ((zd4 c).take k) A):∀ a∈A,(0≤a.fr∧a.fr<c.locks.length)∧0≤a.to∧a.to<c.locks.length:=λa ha=>by
 obtain ⟨x,hx,rfl⟩:=(h.mem a).1 ha;obtain ⟨fr,to,i,ho,rfl⟩:=(ziB hc).1 (List.mem_of_mem_take hx);have:=ho.in hc;show (0≤(fr:Int)∧(fr:Int)<_)∧0≤(to:Int)∧(to:Int)<_;omega
noncomputable def zbC (c:DCode):List (List Nat):=zmc c.locks.length (RP (nxL c))
open Classical in
noncomputable def zid (c:DCode):List (List Nat):=(List.range c.locks.length).flatMap λn=>(zbC c).filter λp=>decide (p.head?=some n∧zoV (nxL c) p)
theorem zey {p:List Nat} {n:Nat}:p.head?=some n→hd0 (zaI p)=n:=by
 cases p with
 | nil=>intro h;cases h
 | cons x l=>intro h;cases h;rfl
theorem zjQ:∀ {l m:List (List Int)},l.Pairwise (λa b=>hd0 a<hd0 b)→m.Pairwise (λa b=>hd0 a<hd0 b)→(∀ x,x∈l↔x∈m)→l=m
 | [],[],_,_,_=>rfl
 | [],y :: m,_,_,h=>by have:=(h y).2 (by simp);cases this
 | x :: l,[],_,_,h=>by have:=(h x).1 (by simp);cases this
 | x :: l,y :: m,h1,h2,h=>by
   rw [List.pairwise_cons] at h1 h2
   have hxy:x=y:=by
     rcases List.mem_cons.1 ((h x).1 (by simp)) with e | hm
     · exact e
     rcases List.mem_cons.1 ((h y).2 (by simp)) with e | hl
     · exact e.symm
     have:=h1.1 y hl;have:=h2.1 x hm;omega
   subst hxy;congr 1;refine zjQ h1.2 h2.2 λz=>⟨λhz=>?_,λhz=>?_⟩
   · rcases List.mem_cons.1 ((h z).1 (by simp [hz])) with rfl | h'
     · have:=h1.1 z hz;omega
     exact h'
   rcases List.mem_cons.1 ((h z).2 (by simp [hz])) with rfl | h'
   · have:=h2.1 z hz;omega
   exact h'
theorem zm8 {c:DCode}:∀ p∈zbC c,∃ i,i<c.locks.length∧p=zaY c.locks.length (zbR (RP (nxL c)) i):=λp hp=>by
 obtain ⟨i,h1,_,h2⟩:=zhw (way:=RP (nxL c)) Whole.start (λ_ _ _=>RP.trans) p hp;exact ⟨i,h1,h2⟩
theorem zt2 (c:DCode):(zbC c).Pairwise λa b=>∀ x∈a,x∉b:=zme Whole.start λ_ _ _=>RP.trans
theorem zjR (c:DCode):(zbC c).length≤c.locks.length:=zkp
theorem zf4 {c:DCode} {p:List Nat} (hp:p∈zbC c):∃ n,p.head?=some n∧n∈p∧n<c.locks.length:=by
 obtain ⟨i,hi,rfl⟩:=zm8 p hp;have hne:=zvc (way:=RP (nxL c)) hi;cases e:zaY c.locks.length (zbR (RP (nxL c)) i) with
 | nil=>exact absurd e hne
 | cons x l=>
   have hx:x∈zaY c.locks.length (zbR (RP (nxL c)) i):=by rw [e];simp
   exact ⟨x,rfl,by simp,(zaJ.1 hx).1⟩
theorem zhU {c:DCode} {p:List Nat} (hp:p∈zbC c):p.length≤c.locks.length∧∀ x∈p,x<c.locks.length:=by
 obtain ⟨i,hi,rfl⟩:=zm8 p hp;exact ⟨za0,λx hx=>(zaJ.1 hx).1⟩
theorem zm9 (c:DCode):(zbC c).Pairwise λa b=>hd0 (zaI a)≠hd0 (zaI b):=by
 refine (zt2 c).imp_of_mem λ{a b} ha hb h e=>?_;obtain ⟨n,h1,h2,_⟩:=zf4 ha;obtain ⟨m,k1,k2,_⟩:=zf4 hb;rw [zey h1,zey k1] at e;have e:=Int.ofNat_inj.1 e;subst e;exact h n h2 k2
theorem zqr {c:DCode} {p:List Nat}:p∈zid c↔p∈zbC c∧zoV (nxL c) p:=by
 unfold zid;simp only [List.mem_flatMap,List.mem_range,List.mem_filter,decide_eq_true_eq];constructor
 · rintro ⟨n,_,h1,_,h2⟩;exact ⟨h1,h2⟩
 rintro ⟨h1,h2⟩;obtain ⟨n,h3,_,h4⟩:=zf4 h1;exact ⟨n,h4,h1,h3,h2⟩
theorem zsi (c:DCode):(zid c).Pairwise λa b=>hd0 (zaI a)<hd0 (zaI b):=by
 unfold zid;refine List.pairwise_flatMap.2 ⟨λn _=>?_,List.pairwise_lt_range.imp ?_⟩
 · refine ((zm9 c).filter _).imp_of_mem λ{a b} ha hb h=>?_
   have h2:=(List.mem_filter.1 ha).2;have h3:=(List.mem_filter.1 hb).2;simp only [decide_eq_true_eq] at h2 h3;exact absurd (by rw [zey h2.1,zey h3.1]) h
 intro n m hnm a ha b hb;have h2:=(List.mem_filter.1 ha).2;have h3:=(List.mem_filter.1 hb).2;simp only [decide_eq_true_eq] at h2 h3;rw [zey h2.1,zey h3.1];exact Int.ofNat_lt.2 hnm
theorem flat_len {m:Nat}:∀ {l:List (List Nat)},(∀ p∈l,p.length≤m)→l.flatten.length≤l.length*m
 | [],_=>by simp
 | a :: l,h=>by
   have h1:=h a (by simp);have h2:=flat_len (l:=l) λb hb=>h b (by simp [hb]);simp only [List.flatten_cons,List.length_append,List.length_cons,Nat.add_mul];omega
def F238 (a0 a1 a2:Value) (w:World) (R:VW):Prop:=
 oX 111 a0 w λx3 w=>
 rF 111 x3 0 w λx7=>
 rL 3 x7 w λx8=>
 rQ x8 (iV 6) w λx10=>
 BR x10
 (rF 111 x3 1 w λx12=>
 rL 3 x12 w λx13=>
 rD (convert 3 121 x13) w λx14=>
 rB .shl 3 U0 T0 (iV 1) x14 w λx15=>
 rB .or 3 T0 T0 a2 x15 w λx16=>
 R x16 w)
 (rQ x8 (iV 7) w λx18=>
 BR x18
 (rF 111 x3 1 w λx20=>
 rL 3 x20 w λx21=>
 rD (convert 3 121 x21) w λx22=>
 rB .shl 3 U0 T0 (iV 1) x22 w λx23=>
 rB .andNot 3 T0 T0 a2 x23 w λx24=>
 R x24 w)
 (rQ x8 (iV 4) w λx26=>
 BR x26
 ((λw=>rF 111 x3 1 w λx29=>
 rL 3 x29 w λx30=>
 rX 204 a1 x30 w λx31=>
 rF 225 x31 0 w λx32=>
 rL 3 x32 w λx33=>
 rB .and 3 T0 T0 a2 x33 w λx34=>
 rF 111 x3 1 w λx36=>
 rL 3 x36 w λx37=>
 rX 204 a1 x37 w λx38=>
 rF 225 x38 1 w λx39=>
 rL 3 x39 w λx40=>
 rB .or 3 T0 T0 x34 x40 w λx41=>
 R x41 w) (World.drew1 w))
 (R a2 w)))
theorem F238_call {a0 a1 a2 w R} (h:F238 a0 a1 a2 w R):cL 238 [a0,a1,a2] w R:=co (g:=(kf [] [] [(7,[0,1,2,3,4,5,6,7,8,9,10,11,12,13,14,15],0)])) Tryz.func238 h
def F235 (a0 a1 a2:Value) (w:World) (R:VW):Prop:=
 oX 111 a0 w λx3 w=>
 rF 111 x3 0 w λx7=>
 rL 3 x7 w λx8=>
 rQ x8 (iV 6) w λx10=>
 BR x10
 (rF 111 x3 1 w λx12=>
 rL 3 x12 w λx13=>
 cL 102 [x13] w λx14 w=>
 rB .or 3 T0 T0 a2 x14 w λx15=>
 R x15 w)
 (rQ x8 (iV 7) w λx17=>
 BR x17
 (rF 111 x3 1 w λx19=>
 rL 3 x19 w λx20=>
 cL 102 [x20] w λx21 w=>
 cL 178 [a2,x21] w λx22 w=>
 R x22 w)
 (rQ x8 (iV 4) w λx24=>
 BR x24
 ((λw=>rF 111 x3 1 w λx27=>
 rL 3 x27 w λx28=>
 rX 204 a1 x28 w λx29=>
 rF 225 x29 0 w λx30=>
 rL 3 x30 w λx31=>
 rB .and 3 T0 T0 a2 x31 w λx32=>
 rF 111 x3 1 w λx34=>
 rL 3 x34 w λx35=>
 rX 204 a1 x35 w λx36=>
 rF 225 x36 1 w λx37=>
 rL 3 x37 w λx38=>
 rB .or 3 T0 T0 x32 x38 w λx39=>
 R x39 w) (World.drew1 w))
 (R a2 w)))
theorem F235_call {a0 a1 a2 w R} (h:F235 a0 a1 a2 w R):cL 235 [a0,a1,a2] w R:=co (g:=(kf [] [] [(7,[0,1,2,3,4,5,6,7,8,9,10,11,12,13,14,15],0)])) Tryz.func235 h
open Rep (rep)
structure DEffect where
 keep:Int
 gen:Int
theorem DEffect.ext_iff {x y:DEffect}:x=y↔(x.keep=y.keep∧x.gen=y.gen):=⟨λh=>by rw [h];exact ⟨rfl,rfl⟩,λh=>by obtain ⟨h0,h1⟩:=h;cases x;cases y;simp only at h0 h1;simp only [h0,h1]⟩
instance:DecidableEq DEffect:=λx y=>decidable_of_iff (x.keep=y.keep∧x.gen=y.gen) DEffect.ext_iff.symm
instance:Rep DEffect:=Rep.via λx=>(x.keep,x.gen)
theorem zie {w:World} {b o:Nat} {x:DEffect} (h:At w b o x):At w b (o+0) x.keep:=zcQ (α:=Int) (β:=Int) (p:=(x.keep,x.gen)) h
theorem zez {w:World} {b o:Nat} {x:DEffect} (h:At w b o x):At w b (o+1) x.gen:=zbp (α:=Int) (β:=Int) (p:=(x.keep,x.gen)) h
instance:RepZ DEffect:=⟨⟨(RepZ.zv:Int),(RepZ.zv:Int)⟩,RepZ.zc (Int×Int),λw=>RepZ.zr (α:=Int×Int) w⟩
theorem zkg {γ:Type} {H:List Nat→World→γ→Prop} {F:List Nat} {w:World} {b o:Nat} {G:List Nat} {x:DEffect} {upd:DEffect→γ} (h:Lens H F w b o G x upd) :
   ∃ G1,Lens H F w b (o+1) G1 x.gen (λy=>upd ⟨x.keep,y⟩):=by
 have h':Lens H F w b o G (x.keep,x.gen) (λp:Int×Int=>upd ⟨p.1,p.2⟩):=⟨h.here,h.sub,λw' G' y' hc hO hs=>h.back w' G' _ hc hO hs⟩;obtain ⟨G0,h'⟩:=h'.snd;exact ⟨_,h'⟩
theorem zqs {w:World} {x:DEffect} (h_keep:I64 x.keep) (h_gen:I64 x.gen):Mine [] w (.agg #[.int .i64 x.keep,.int .i64 x.gen]) x:=⟨⟨[.int .i64 x.keep,.int .i64 x.gen],⟨[],[],[.int .i64 x.keep],[.int .i64 x.gen],rfl,rfl,⟨rfl,rfl,h_keep⟩,⟨rfl,rfl,h_gen⟩⟩,rfl⟩,List.nodup_nil,Wr.nil w⟩
instance:Flat DEffect:=⟨λh=>Flat.flat (α:=Int×Int) h⟩
def zs8 (x:Nat×Nat):DEffect:=⟨(x.1:Int),(x.2:Int)⟩
def zgg (T:Tab):List DEffect:=T.map zs8
theorem zeA (T:Tab):(zgg T).length=T.length:=by simp [zgg]
theorem zfj {T:Tab} {q:Nat} (h:q<(zgg T).length):(zgg T)[q]=zs8 (tbl T q):=by
 have h':q<T.length:=by rw [←zeA];exact h
 rw [←zhN h'];simp [zgg]
theorem zt3 (T:Tab) (q:Nat) (v:Nat×Nat):zgg (T.set q v)=(zgg T).set q (zs8 v):=by simp [zgg,List.map_set]
theorem zeH {n:Nat} (h:n<6):2^n<64:=Nat.pow_lt_pow_right (n:=6) (by omega) h
theorem FL.updM {c:DCode} {T:Tab} {p h m:Nat} {out:List Nat} (hF:FL c T p h out) (hc:CodeR c) (hp:p<c.entry.length) {i j:Nat} (hi:zaG c p i) (hj:j∈zaC c i)
   (hm:∀ l,l<6→m.testBit l=false→LostP c (tK T) (tG T) p (λl=>h.testBit l=true) i l):FL c T p h (out.set j (zax out j &&& aft c T i m)):=by
 have hil:=(zbJ hc hp hi).1;have hjl:=(zcJ hc hil hj).1;refine ⟨by simp [hF.len],λx hx=>?_,λk l hk hl hb=>?_,λl hl hb=>?_⟩
 · rcases zjp hx with rfl | hx
   · exact Nat.lt_of_le_of_lt Nat.and_le_left (hF.lt0 j)
   exact hF.lt x hx
 · rw [zb3 (by rw [hF.len];exact hjl)] at hb
   split at hb
   · rename_i e
     subst e;rw [Nat.testBit_and,Bool.and_eq_false_iff] at hb;rcases hb with hb | hb
     · exact hF.snd j l hk hl hb
     rcases zlD.1 hb with h1 | ⟨h1,h2⟩
     · exact .gen hi hj h1
     exact .pass hi hj (hm l hl h2) h1
   exact hF.snd k l hk hl hb
 rw [zb3 (by rw [hF.len];exact hjl)];split
 · rename_i e
   rw [Nat.testBit_and,e,hF.ent l hl hb];rfl
 exact hF.ent l hl hb
theorem zsj {w W0 W1:World} {v0 v1:Value} {c:DCode} {T:Tab} {i m:Nat} (h0:Is W0 v0 (zal c i)) (e0:Ext W0 w) (h1:Is W1 v1 (zgg T)) (e1:Ext W1 w) (hc:CodeR c) (hT:zs7 c T) (hi:i<c.ins.length) (hm:m<64) :
   CALL tp 238 [v0,v1,.int .i64 (m:Int)] w λr w'=>Ext w w'∧r=.int .i64 (aft c T i m:Nat):=by
 refine F238_call ?_;unfold F238;refine zbj h0 e0 λw1 hx1 hA=>?_;have hag4:=λh=>zbZ hc hi (.inl h);have hag6:=λh=>zcN hc hi h;have h8:=hc.1.procs8;have haft:aft c T i m=if (zal c i).op=6 then m ||| 2^agN c i else if (zal c i).op=7 then zir m (2^agN c i) else if (zal c i).op=4 then (m &&& (tbl T (agN c i)).1) ||| (tbl T (agN c i)).2 else m:=rfl;rw [haft];clear haft;generalize agN c i=q at *;generalize zal c i=I at *;refine zab zaM ?_;refine zad ty3 (zav hA) (Ext.refl _) λ_=>?_;refine zao ?_;refine br (λc6=>?_) (λc6=>?_)
 · obtain ⟨ha,_,hq⟩:=hag6 (.inl c6)
   have hp:=zeH hq;rw [if_pos c6];refine zab zaK ?_;refine zad ty3 (zat hA) (Ext.refl _) λ_=>?_;rw [ha];refine zbI (by kernel_rfl) ziq (by omega) ?_;refine zds (by omega) ?_;refine ze3 (by omega) (by omega) ?_;exact ⟨hx1,rfl⟩
 rw [if_neg c6];refine zao ?_;refine br (λc7=>?_) (λc7=>?_)
 · obtain ⟨ha,_,hq⟩:=hag6 (.inr c7)
   have hp:=zeH hq;rw [if_pos c7];refine zab zaK ?_;refine zad ty3 (zat hA) (Ext.refl _) λ_=>?_;rw [ha];refine zbI (by kernel_rfl) ziq (by omega) ?_;refine zds (by omega) ?_;refine zfB (by omega) (by omega) ?_;exact ⟨hx1,rfl⟩
 rw [if_neg c7];refine zao ?_;refine br (λc4=>?_) (λc4=>?_)
 · obtain ⟨ha,hq⟩:=hag4 c4
   rw [if_pos c4];have hx2:=zaj w1;generalize World.drew1 w1=w2 at *;have hql:q<(zgg T).length:=by rw [zeA,hT.1];exact hq
   have hr:=hT.2 q;have hx12:=hx1.t hx2;refine zab zaK ?_;refine zad ty3 (zat hA) hx2 λ_=>?_;rw [ha];refine zac zrh zj8 h1 hql λb1 o1 hE=>?_;rw [zfj] at hE;refine zab zri ?_;refine zad ty3 (zie hE) (e1.trans hx12) λ_=>?_;refine zdW (n:=(tbl T q).1) (by omega) (by omega) ?_;refine zab zaK ?_;refine zad ty3 (zat hA) hx2 λ_=>?_;rw [ha];refine zac zrh zj8 h1 hql λb2 o2 hE2=>?_;rw [zfj] at hE2;refine zab ziW ?_;refine zad ty3 (zez hE2) (e1.trans hx12) λ_=>?_;have:=Nat.and_le_left (n:=m) (m:=(tbl T q).1);refine ze3 (n:=(tbl T q).2) (by omega) (by omega) ?_;exact ⟨hx12,rfl⟩
 rw [if_neg c4];exact ⟨hx1,rfl⟩
def F178 (a0 a1:Value) (w:World) (R:VW):Prop:=
 cL 156 [a0] w λx6 w=>
 rT x6 w λx7=>
 BR x7
 (R (iV 0) w)
 (cL 156 [a1] w λx10 w=>
 rT x10 w λx11=>
 BR x11
 (R (iV 0) w)
 (rB .sub 3 U0 T0 (iV 63) a1 w λx15=>
 rB .and 3 T0 T0 a0 x15 w λx16=>
 R x16 w))
theorem F178_call {a0 a1 w R} (h:F178 a0 a1 w R):cL 178 [a0,a1] w R:=co (g:=(kf [] [] [])) Tryz.func178 h
theorem zhV {w:World} {a:Nat} {b:Nat}   (ha:a<64) (hb:b<64) :
   CALL tp 178 [.int .i64 (a:Int),.int .i64 (b:Int)] w λr w'=>Ext w w'∧(r=.int .i64 ((a &&& (63-b):Nat):Int)):=by
 refine F178_call ?_;unfold F178;refine (zlz ).mono ?_;rintro _ w1_ ⟨η1,rfl⟩;refine zaq ?_;refine br (λc1=>?_) (λc1=>?_)
 · refine ⟨η1,?_⟩
   first | rfl | (exfalso;omega)
 refine (zlz ).mono ?_;rintro _ w2_ ⟨η2,rfl⟩;refine zaq ?_;refine br (λc2=>?_) (λc2=>?_)
 · refine ⟨(η1.t η2),?_⟩
   first | rfl | (exfalso;omega)
 have e63:(63:Int)-(b:Int)=((63-b:Nat):Int):=by omega
 refine zbd (by unfold I64;omega) ?_;rw [e63];refine zdW (by omega) (by omega) ?_;refine ⟨(η1.t η2),?_⟩
 first | rfl | (exfalso;omega)
theorem zgz {a b:Nat} (ha:a<64) (hb:b<64):a &&& (63-b)=zir a b:=by
 refine Nat.eq_of_testBit_eq λl=>?_;rw [Nat.testBit_and,zcw];cases h:a.testBit l
 · rfl
 have hl:=zfe ha h;have:=Nat.testBit_two_pow_sub_succ (n:=6) (x:=b) hb l;rw [show 2^6-(b+1)=63-b by omega] at this;rw [this,decide_eq_true hl,Bool.true_and]
theorem zog {w W0 W1:World} {v0 v1:Value} {c:DCode} {T:Tab} {i m:Nat} (h0:Is W0 v0 (zal c i)) (e0:Ext W0 w) (h1:Is W1 v1 (zgg T)) (e1:Ext W1 w) (hc:CodeR c) (hT:zs7 c T) (hi:i<c.ins.length) (hm:m<64) :
   CALL tp 235 [v0,v1,.int .i64 (m:Int)] w λr w'=>Ext w w'∧r=.int .i64 (aft c T i m:Nat):=by
 refine F235_call ?_;unfold F235;refine zbj h0 e0 λw1 hx1 hA=>?_;have hag4:=λh=>zbZ hc hi (.inl h);have hag6:=λh=>zcN hc hi h;have h8:=hc.1.procs8;have haft:aft c T i m=if (zal c i).op=6 then m ||| 2^agN c i else if (zal c i).op=7 then zir m (2^agN c i) else if (zal c i).op=4 then (m &&& (tbl T (agN c i)).1) ||| (tbl T (agN c i)).2 else m:=rfl;rw [haft];clear haft;generalize agN c i=q at *;generalize zal c i=I at *;refine zab zaM ?_;refine zad ty3 (zav hA) (Ext.refl _) λ_=>?_;refine zao ?_;refine br (λc6=>?_) (λc6=>?_)
 · obtain ⟨ha,_,hq⟩:=hag6 (.inl c6)
   have hp:=zeH hq;rw [if_pos c6];refine zab zaK ?_;refine zad ty3 (zat hA) (Ext.refl _) λ_=>?_;rw [ha];refine (zei (by omega)).mono ?_;rintro _ w2 ⟨hx2,rfl⟩;refine ze3 (by omega) (by omega) ?_;exact ⟨hx1.t hx2,rfl⟩
 rw [if_neg c6];refine zao ?_;refine br (λc7=>?_) (λc7=>?_)
 · obtain ⟨ha,_,hq⟩:=hag6 (.inr c7)
   have hp:=zeH hq;rw [if_pos c7];refine zab zaK ?_;refine zad ty3 (zat hA) (Ext.refl _) λ_=>?_;rw [ha];refine (zei (by omega)).mono ?_;rintro _ w2 ⟨hx2,rfl⟩;refine (zhV hm hp).mono ?_;rintro _ w3 ⟨hx3,rfl⟩;exact ⟨(hx1.t hx2).trans hx3,by rw [zgz hm hp]⟩
 rw [if_neg c7];refine zao ?_;refine br (λc4=>?_) (λc4=>?_)
 · obtain ⟨ha,hq⟩:=hag4 c4
   rw [if_pos c4];have hx2:=zaj w1;generalize World.drew1 w1=w2 at *;have hql:q<(zgg T).length:=by rw [zeA,hT.1];exact hq
   have hr:=hT.2 q;have hx12:=hx1.t hx2;refine zab zaK ?_;refine zad ty3 (zat hA) hx2 λ_=>?_;rw [ha];refine zac zrh zj8 h1 hql λb1 o1 hE=>?_;rw [zfj] at hE;refine zab zri ?_;refine zad ty3 (zie hE) (e1.trans hx12) λ_=>?_;refine zdW (n:=(tbl T q).1) (by omega) (by omega) ?_;refine zab zaK ?_;refine zad ty3 (zat hA) hx2 λ_=>?_;rw [ha];refine zac zrh zj8 h1 hql λb2 o2 hE2=>?_;rw [zfj] at hE2;refine zab ziW ?_;refine zad ty3 (zez hE2) (e1.trans hx12) λ_=>?_;have:=Nat.and_le_left (n:=m) (m:=(tbl T q).1);refine ze3 (n:=(tbl T q).2) (by omega) (by omega) ?_;exact ⟨hx12,rfl⟩
 rw [if_neg c4];exact ⟨hx1,rfl⟩
def F137 (a0 a1:Value) (w:World) (R:VW):Prop:=
 NIL a0 <|
 rF 114 a0 0 w λx9=>
 rF 32 x9 3 w λx10=>
 rL 23 x10 w λx11=>
 rX 23 x11 a1 w λx13=>
 rL 3 x13 w λx14=>
 LOOPI [5,6] [(Value.slice none 0 0),x14] w λu3 w n3=>
 NIL a0 <|
 rF 114 a0 0 w λx18=>
 rL 32 x18 w λx19=>
 cL 134 [x19,a1] w λx21 w=>
 rC (u3 6) x21 w λx22=>
 BR x22
 (NIL a0 <|
 rF 114 a0 1 w λx27=>
 rL 101 x27 w λx28=>
 rX 101 x28 (u3 6) w λx30=>
 rL 4 x30 w λx31=>
 BR x31
 (oP (bS 23 (u3 6)) w λx34 w=>
 oP (aP 23 (u3 5) x34) w λx35 w=>
 rI (u3 6) w λx24=>
 n3 [x35,x24] w)
 (rI (u3 6) w λx24=>
 n3 [(u3 5),x24] w))
 (R (u3 5) w)
theorem F137_call {a0 a1 w R} (h:F137 a0 a1 w R):cL 137 [a0,a1] w R:=co (g:=(kf [] [(3,68719444064,[5,6])] [])) Tryz.func137 h
def F217 (a0 a1 a2 a3:Value) (w:World) (R:VW):Prop:=
 NIL a0 <|
 rF 114 a0 0 w λx20=>
 rF 32 x20 4 w λx21=>
 rL 30 x21 w λx22=>
 rN 30 3 x22 w λx23=>
 oP (Instr.makeSlice 23 x23 x23) w λx24 w=>
 rN 23 3 x24 w λx26=>
 LOOPI [27] [(iV 0)] w λu3 w n3=>
 rC (u3 27) x26 w λx28=>
 BR x28
 (rX 23 x24 (u3 27) w λx32=>
 oS 3 x32 (iV 63) w λw=>
 rI (u3 27) w λx33=>
 n3 [x33] w)
 (NIL a0 <|
 rF 114 a0 0 w λx37=>
 rF 32 x37 3 w λx38=>
 rL 23 x38 w λx39=>
 rX 23 x39 a2 w λx41=>
 rL 3 x41 w λx42=>
 rX 23 x24 x42 w λx44=>
 oS 3 x44 a3 w λw=>
 cL 137 [a0,a2] w λx47 w=>
 LOOPI [12] [vT] w λu10 w n10=>
 BR (u10 12)
 (rN 23 3 x47 w λx50=>
 LOOPI [12,51] [vF,(iV 0)] w λu13 w n13=>
 rC (u13 51) x50 w λx52=>
 BR x52
 (rX 23 x47 (u13 51) w λx53=>
 rL 3 x53 w λx54=>
 (λw=>NIL a0 <|
 rF 114 a0 0 w λx57=>
 rF 32 x57 4 w λx58=>
 rL 30 x58 w λx59=>
 rX 30 x59 x54 w λx61=>
 rL 111 x61 w λx62=>
 rX 23 x24 x54 w λx66=>
 rL 3 x66 w λx67=>
 cL 238 [x62,a1,x67] w λx68 w=>
 cL 136 [a0,x54] w λx71 w=>
 rN 23 3 x71 w λx72=>
 LOOPI [12,73] [(u13 12),(iV 0)] w λu17 w n17=>
 rC (u17 73) x72 w λx74=>
 BR x74
 (rX 23 x71 (u17 73) w λx75=>
 rL 3 x75 w λx76=>
 (λw=>rX 23 x24 x76 w λx79=>
 rL 3 x79 w λx80=>
 rB .and 3 T0 T0 x80 x68 w λx82=>
 rX 23 x24 x76 w λx85=>
 rL 3 x85 w λx86=>
 rB .neq 3 T0 T0 x82 x86 w λx87=>
 BR x87
 (rX 23 x24 x76 w λx90=>
 rL 3 x90 w λx91=>
 rB .and 3 T0 T0 x91 x68 w λx93=>
 rX 23 x24 x76 w λx94=>
 oS 3 x94 x93 w λw=>
 rI (u17 73) w λx95=>
 n17 [vT,x95] w)
 (rI (u17 73) w λx95=>
 n17 [(u17 12),x95] w)) (World.drew1 w))
 (rI (u13 51) w λx96=>
 n13 [(u17 12),x96] w)) (World.drew1 w))
 (n10 [(u13 12)] w))
 (R x24 w))
theorem F217_call {a0 a1 a2 a3 w R} (h:F217 a0 a1 a2 a3 w R):cL 217 [a0,a1,a2,a3] w R:=co (g:=(kf [] [(3,17045652480,[27]),(10,158456325028528393712111374336,[12]),(13,158456325028526423387274399744,[12,51]),(17,79228153069531371854253658112,[12,73])] [(15,[0,1,2,3,4,5,6,7,8,9,10,11,12,13,14],0),(19,[0,1,2,3,4,5,6,7,8,9,10],0)])) Tryz.func217 h
open Rep (rep)
def zeI (c:DCode) (i:Nat):Prop:=∃ p,p<c.procs.length∧zaG c p i
structure WL (W0:World) (b:Nat) (c:DCode):Prop where
 code:At W0 b 0 c
 live:At W0 b (0+5) (zby c.ins.length (zeI c))
theorem zhj {n m:Nat} {p:Nat→Prop} (h:n≤m) (hp:∀ i,n≤i→i<m→¬p i):zaY m p=zaY n p:=by
 induction m with
 | zero=>(have:n=0:=by omega);subst this;rfl
 | succ m ih=>
   by_cases e:n=m+1
   · rw [e]
   rw [zcM (hp m (by omega) (by omega)),ih (by omega) λi h1 h2=>hp i h1 (by omega)]
theorem zfM {w W0:World} {b p:Nat} {c:DCode} (hW:WL W0 b c) (e0:Ext W0 w) (hc:CodeR c) (hp:p<c.procs.length) :
   CALL tp 137 [.pointer (some ⟨b,0,none⟩),.int .i64 (p:Int)] w λr w'=>Ext w w'∧Own w.heap.size w' r (zaI (zaY c.ins.length (zaG c p))):=by
 refine F137_call ?_;unfold F137;have hpe:p<c.entry.length:=by rw [hc.2.1.1];exact hp
 have hil:=hc.f.ins;have h8:=hc.1.procs8;obtain ⟨he1,he2,he3⟩:=zfg hc hpe;obtain ⟨hz1,hz2,hz3⟩:=zkf hc hpe
 have hlv:∀ i,zaG c p i→eN c p≤i∧i≤zN c p:=λi h=>by
   have:=zbJ hc hpe h;exact zn6 hc this.1 hpe this.2
 refine NIL.mk rfl ?_;refine zab zaZ ?_;refine zab za6 ?_;refine zaa za4 (zap hW.code) e0 λv11 h11=>?_;refine zac u23 ty3 h11 hpe λb1 o1 hA1=>?_;rw [zbm hpe,he1] at hA1;refine zad ty3 hA1 e0 λ_=>?_;generalize hE:eN c p=E at *;generalize hZ:zN c p=Z at *
 have h0:zaY E (zaG c p)=[]:=by
   rw [zhj (n:=0) (z0 _) λi _ h2 h3=>by have:=hlv i h3;omega];rfl
 refine zam (Z+1-E) (λk us w'=>∃ (v:Value),us=[v,.int .i64 ((E+k:Nat):Int)]∧E+k≤Z+1∧Ext w w'∧RowI w.heap.size w'.heap.size 3 w' v (zaI (zaY (E+k) (zaG c p)))) 0 (z0 _) ⟨_,rfl,by omega,Ext.refl _,by rw [Nat.add_zero,h0];exact zcv _ _ _ _⟩ ?_;rintro k mk u w2 hkm ⟨v,hu,hkl,hx2,hr2⟩;obtain ⟨hu1,hu2⟩:=zbL hu;rw [hu1,hu2];have hx02:=e0.t hx2;have hs2:=hx2.size;refine NIL.mk rfl ?_;refine zab zaZ ?_;refine zaa zbq hW.code hx02 λv19 h19=>?_;refine (zc8 h19 hx02 (by omega)).mono ?_;rintro _ w3 ⟨hx3,rfl⟩;rw [hz1];have hx03:=hx02.t hx3;refine zag ?_;refine br (λhlt=>?_) (λhge=>?_)
 case refine_2=>
   have hk:E+k=Z+1:=by omega
   refine ⟨hx2.t hx3,?_⟩;rw [zhj (n:=Z+1) (by omega) λi h1 _ h3=>by have:=hlv i h3;omega,←hk];exact (hr2.ext hx3).own.own
 have hk:E+k<c.ins.length:=by omega
 refine NIL.mk rfl ?_;refine zab zk5 ?_;refine zaa zcd hW.live hx03 λv28 h28=>?_;refine zac zcy ty4 (i:=E+k) h28 (by rw [zak];exact hk) λb2 o2 hA2=>?_;refine zay ty4 hA2 hx03 ?_;have hmk:=zaF (n:=c.ins.length) (p:=zeI c) (i:=E+k);rw [zaQ (by rw [zak];exact hk)] at hmk
 have hiff:zeI c (E+k)↔zaG c p (E+k):=by
   constructor
   · rintro ⟨q,hq,hl⟩
     have h1:=zbJ hc (by rw [hc.2.1.1];exact hq) hl;have h2:=zlC hc (p:=p) (i:=E+k) hpe (by omega) (by omega);have:q=p:=by omega
     rwa [this] at hl
   exact λh=>⟨p,hp,h⟩
 have hsl:=za0 (n:=E+k) (p:=zaG c p);refine zbz (λhf=>?_) (λhf=>?_)
 · refine zbF (lo2:=w3.heap.size) (hi2:=w3.heap.size) (x:=((E+k:Nat):Int)) u23 ty3 z3 zc3 (by decide) (hr2.ext hx3) (by have:=hx3.size;omega) (ownI_int _ _ (by unfold I64;omega)) (by have:=hx3.size;omega) (by have:=hx3.size;omega) (by rw [zan,zaf];omega) (by rw [zaf];omega) λv54 w9 hc9 hr9=>?_
   refine zas ?_;refine ⟨mk-1,by omega,k+1,by omega,v54,rfl,by omega,(hx2.t hx3).chgI hc9 (by omega),?_⟩;rw [←Nat.add_assoc,zct (hiff.1 (hmk.1 hf).2),zbW];exact hr9
 refine zas ?_;refine ⟨mk-1,by omega,k+1,by omega,v,rfl,by omega,hx2.t hx3,?_⟩;rw [←Nat.add_assoc,zcM λh=>by rw [hmk.2 ⟨hk,hiff.2 h⟩] at hf;cases hf];exact (hr2.ext hx3).mono (lr _) hx3.size
theorem zdn {w:World} {n:Nat} {K:Value→World→Prop} (h0:0<n) (hn:n≤1000000)
   (k:∀ w',Ext w w'→Mine [w.heap.size] w' (.slice (some ⟨w.heap.size,0,none⟩) n n) (zaI (List.replicate n 0))→K (.slice (some ⟨w.heap.size,0,none⟩) n n) w'):OP tp (Instr.makeSlice 23 (.int .i64 (n:Int)) (.int .i64 (n:Int))) w K:=
 ze8 (α:=Int) u23 ty3 rfl rfl zw1 (by omega) (by omega) λw2 hx2 hr2=>by
   refine k w2 hx2 ?_;obtain ⟨F,hM,hF⟩:=hr2.own;obtain ⟨b,o,cap,hv,hF2⟩:=zew hM (by intro e;have:=congrArg List.length e;simp at this;omega);simp only [Value.slice.injEq,Option.some.injEq,Addr.mk.injEq,List.cons.injEq,and_true] at hv;obtain ⟨⟨hb,ho⟩,_⟩:=hv;rw [←hb] at hF2;rw [hF2] at hM;have e:zaI (List.replicate n 0)=List.replicate n (RepZ.zv:Int):=by simp only [zaI,List.map_replicate];rfl
   rw [e];exact hM
theorem zhW {P:Program} {w:World} {K:Value→Prop} {t ty e:TypeId} {a:Option Addr} {n c:Nat} (ht:P.underlying t=some (.slice e)) (k:K (.int .i64 (n:Int))) :
   RD P (Builtin.len_ #[t] ty [Value.slice a n c].toArray) w K:=za7 (λw' _=>by simp [Builtin.len_,run_underlying ht];rfl) k
structure FW (w1 w:World) (g n:Nat) (out:List Nat):Prop where
 ext:Ext w1 w
 mine:Mine [g] w (.slice (some ⟨g,0,none⟩) n n) (zaI out)
 g0:w1.heap.size≤g
section
variable {w1 w w':World} {g n:Nat} {out:List Nat}
theorem FW.step (h:FW w1 w g n out) (hx:Ext w w'):FW w1 w' g n out:=⟨h.ext.trans hx,h.mine.ext hx,h.g0⟩
theorem zen (hc:Chg [g] w w'):ChgI g (g+1) w w':=hc.toI λb hb=>by simp only [List.mem_cons,List.not_mem_nil,or_false] at hb;omega
theorem FW.set {i v:Nat} (h:FW w1 w g n out) (hc:Chg [g] w w') (hm:Mine [g] w' (.slice (some ⟨g,0,none⟩) n n) ((zaI out).set i (v:Int))):FW w1 w' g n (out.set i v):=
 ⟨h.ext.chgI (zen hc) h.g0,by rw [zff];exact hm,h.g0⟩
theorem FW.lt (h:FW w1 w g n out):g<w.heap.size:=h.mine.lt g (by simp)
theorem FW.own (h:FW w1 w g n out):Own w1.heap.size w (.slice (some ⟨g,0,none⟩) n n) (zaI out):=⟨[g],h.mine,λb hb=>by simp only [List.mem_cons,List.not_mem_nil,or_false] at hb;have:=h.g0;omega⟩
end
theorem zbx {w:World} {v:Nat} (h:v<9223372036854775808):Mine [] w (.int .i64 (v:Int)) (v:Int):=zbh (by unfold I64;omega)
def fil (n k:Nat):List Nat:=List.replicate k 63++List.replicate (n-k) 0
theorem zoh {n k:Nat} (h:k≤n):(fil n k).length=n:=by simp [fil];omega
theorem zoi {n k:Nat} (h:k<n):(fil n k).set k 63=fil n (k+1):=by
 obtain ⟨m,hm⟩:∃ m,n-k=m+1:=⟨n-k-1,by omega⟩;unfold fil;rw [List.set_append_right _ _ (by simp),hm,List.length_replicate,Nat.sub_self,List.replicate_succ,List.set_cons_zero,List.replicate_succ',show n-(k+1)=m by omega];simp
theorem zlO (n:Nat):fil n n=List.replicate n 63:=by simp [fil]
structure FP (c:DCode) (T:Tab) (p h:Nat) (out0 L:List Nat) (k:Nat) (ag:Bool) (out:List Nat):Prop where
 fl:FL c T p h out
 yes:ag=true→out.sum<out0.sum
 no:ag=false→out=out0∧∀ i∈L.take k,zwx c T out0 i
structure FQ (c:DCode) (T:Tab) (p h:Nat) (out0 L:List Nat) (k i q:Nat) (ag:Bool) (out:List Nat):Prop where
 fl:FL c T p h out
 yes:ag=true→out.sum<out0.sum
 no:ag=false→out=out0∧(∀ i∈L.take k,zwx c T out0 i)∧∀ j∈(zaC c i).take q,zax out0 j &&& aft c T i (zax out0 i)=zax out0 j
section
variable {c:DCode} {T:Tab} {p h k i q m:Nat} {out0 L out:List Nat} {ag:Bool}
theorem FP.enter (H:FP c T p h out0 L k ag out) (i:Nat):FQ c T p h out0 L k i 0 ag out:=⟨H.fl,H.yes,λe=>⟨(H.no e).1,(H.no e).2,by simp⟩⟩
theorem FQ.set (H:FQ c T p h out0 L k i q ag out) (hc:CodeR c) (hp:p<c.entry.length) (hi:zaG c p i) (hq:q<(zaC c i).length) (hm:∀ l,l<6→m.testBit l=false→LostP c (tK T) (tG T) p (λl=>h.testBit l=true) i l)
   (hne:zax out (zaC c i)[q] &&& aft c T i m≠zax out (zaC c i)[q]):FQ c T p h out0 L k i (q+1) true (out.set (zaC c i)[q] (zax out (zaC c i)[q] &&& aft c T i m)):=by
 have hj:=List.getElem_mem hq;have hjl:=(zcJ hc (zbJ hc hp hi).1 hj).1;refine ⟨H.fl.updM hc hp hi hj hm,λ_=>?_,λe=>by cases e⟩;have h1:=zhM (l:=out) (i:=(zaC c i)[q]) (v:=zax out (zaC c i)[q] &&& aft c T i m) (by rw [H.fl.len];exact hjl);have h2:=zuL hne;cases ag with
 | true=>have:=H.yes rfl;omega
 | false=>rw [(H.no rfl).1] at h1 h2 ⊢;omega
theorem FQ.skip (H:FQ c T p h out0 L k i q ag out) (hq:q<(zaC c i).length) (hz:ag=false→m=zax out0 i) (he:zax out (zaC c i)[q] &&& aft c T i m=zax out (zaC c i)[q]):FQ c T p h out0 L k i (q+1) ag out:=by
 refine ⟨H.fl,H.yes,λe=>⟨(H.no e).1,(H.no e).2.1,λj hj=>?_⟩⟩;rw [tk hq] at hj;rcases List.mem_append.1 hj with hj | hj
 · exact (H.no e).2.2 j hj
 simp only [List.mem_cons,List.not_mem_nil,or_false] at hj;rw [(H.no e).1,hz e] at he;rw [hj];exact he
theorem FQ.done (H:FQ c T p h out0 L k i q ag out) (hk:k<L.length) (hi:L[k]=i) (hq:(zaC c i).length≤q):FP c T p h out0 L (k+1) ag out:=by
 refine ⟨H.fl,H.yes,λe=>⟨(H.no e).1,λi' hi'=>?_⟩⟩;rw [tk hk] at hi';rcases List.mem_append.1 hi' with h1 | h1
 · exact (H.no e).2.1 i' h1
 simp only [List.mem_cons,List.not_mem_nil,or_false] at h1;rw [h1,hi];have:=(H.no e).2.2;rw [List.take_of_length_le hq] at this;exact this
end
theorem zoj {w W0 W1:World} {b p h:Nat} {v1:Value} {c:DCode} {T:Tab} (hW:WL W0 b c) (e0:Ext W0 w) (h1:Is W1 v1 (zgg T)) (e1:Ext W1 w) (hc:CodeR c) (hT:zs7 c T) (hp:p<c.procs.length) (hh:h<64) :
   CALL tp 217 [.pointer (some ⟨b,0,none⟩),v1,.int .i64 (p:Int),.int .i64 (h:Int)] w λr w'=>Ext w w'∧Own w.heap.size w' r (zaI (zcc c T p h)):=by
 refine F217_call ?_;unfold F217;have hpe:p<c.entry.length:=by rw [hc.2.1.1];exact hp
 have hil:=hc.f.ins;obtain ⟨he1,he2,he3⟩:=zfg hc hpe;have hst:=FL.start (T:=T) hc hpe hh;have hfin:=λ{out}=>FL.fin (c:=c) (T:=T) (p:=p) (h:=h) (out:=out);refine NIL.mk rfl ?_;refine zab zaZ ?_;refine zab zaD ?_;refine zaa zcu (zai hW.code) e0 λv22 h22=>?_;refine zae u30 h22 ?_;have hn:c.ins.length=c.ins.length:=rfl;generalize hnn:c.ins.length=n at hn;rw [hnn] at he2 hst hil;refine zdn (by omega) (by omega) λw2 hx2 hM2=>?_;have hs2:=hx2.size;generalize hg:w.heap.size=g at *;have hF2:FW w w2 g n (fil n 0):=⟨hx2,by simpa [fil] using hM2,by omega⟩;refine zhW u23 ?_;refine zam n (λk us w'=>us=[.int .i64 (k:Int)]∧k≤n∧FW w w' g n (fil n k)) 0 (z0 _) ⟨rfl,z0 _,hF2⟩ ?_;rintro k mk u w3 hkm ⟨hu,hkl,hF3⟩;try replace hu:=zbi hu
 rw [hu];refine zag ?_;refine br (λhlt=>?_) (λhge=>?_)
 · have hk:k<n:=by omega
   refine zbE (α:=Int) rfl u23 ty3 hk ?_;refine za9 (α:=Int) rfl ty3 hF3.mine (by rw [zaf,zoh hkl]) hk (zbx (v:=63) (by omega)) λw4 hc4 hm4=>?_;have hF4:=hF3.set (v:=63) hc4 hm4;rw [zoi hk] at hF4;refine zas ?_;exact ⟨mk-1,by omega,k+1,by omega,rfl,by omega,hF4⟩
 have hk:k=n:=by omega
 rw [hk,zlO] at hF3;clear hF2 hM2 hu hkm;refine NIL.mk rfl ?_;refine zab zaZ ?_;refine zab za6 ?_;refine zaa za4 (zap hW.code) (e0.t hF3.ext) λv39 h39=>?_;refine zac u23 ty3 h39 hpe λb1 o1 hA1=>?_;rw [zbm hpe,he1] at hA1;refine zad ty3 hA1 (e0.t hF3.ext) λ_=>?_;refine zbE (α:=Int) rfl u23 ty3 he2 ?_;refine za9 (α:=Int) rfl ty3 hF3.mine (by rw [zaf];simp) he2 (zbx (v:=h) (by omega)) λw4 hc4 hm4=>?_;have hF4:=hF3.set (v:=h) hc4 hm4;refine (zfM hW (e0.t hF4.ext) hc hp).mono ?_;rintro v47 w5 ⟨hx5,ho5⟩;have hF5:=hF4.step hx5;have hg4:=hF4.lt;have hL:∀ i∈zaY c.ins.length (zaG c p),zaG c p i:=λi hi=>(zaJ.1 hi).2;have hL2:∀ i,zaG c p i→i∈zaY c.ins.length (zaG c p):=λi hi=>zaJ.2 ⟨(zbJ hc hpe hi).1,hi⟩;have hLl:(zaY c.ins.length (zaG c p)).length≤1500:=Nat.le_trans za0 (by rw [hnn];omega);generalize zaY c.ins.length (zaG c p)=L at *;generalize (List.replicate n 63).set (eN c p) h=out at hst hF5;have hO5:=ho5.toI;generalize hlo:w4.heap.size=lo at *;generalize hhi:w5.heap.size=hi at *;refine LOOPI.mk (λm us w'=>∃ (ag:Bool) (out:List Nat),us=[.bool ag]∧m=out.sum+(if ag then 1 else 0)∧FW w w' g n out∧OwnI lo hi w' v47 (zaI L)∧FL c T p h out∧(ag=false→∀ i,zaG c p i→zwx c T out i)) (out.sum+1) ⟨true,out,rfl,rfl,hF5,hO5,hst,λe=>by cases e⟩ ?_;rintro m u w6 ⟨ag,out,hu,hm,hF6,hO6,hfl,hsh⟩;try replace hu:=zbi hu
 rw [hu];refine zbz (λhag=>?_) (λhag=>?_)
 case refine_2=>have:=hfin hfl hc hpe (hsh hag);rw [←this];have hoo:=hF6.own;rw [hg] at hoo;exact ⟨hF6.ext,hoo⟩
 rw [hag,if_pos rfl] at hm;refine zae u23 hO6.is ?_;rw [zaf];refine zam L.length (λk us w'=>∃ (ag:Bool) (out':List Nat),us=[.bool ag,.int .i64 (k:Int)]∧k≤L.length∧FW w w' g n out'∧OwnI lo hi w' v47 (zaI L)∧FP c T p h out L k ag out') 0 (z0 _) ⟨false,out,rfl,z0 _,hF6,hO6,hfl,λe=>(by cases e),λ_=>⟨rfl,by simp⟩⟩ ?_;rintro k mk u w7 hkm ⟨ag7,out7,hu,hkl,hF7,hO7,hP7⟩;obtain ⟨hu1,hu2⟩:=zbL hu;clear hu;rw [hu1,hu2];refine zag ?_;refine br (λhlt=>?_) (λhge=>?_)
 case refine_2=>
   refine ⟨out7.sum+(if ag7 then 1 else 0),?_,ag7,out7,rfl,rfl,hF7,hO7,hP7.fl,λe i hi=>?_⟩
   · cases ag7 with
     | true=>have:=hP7.yes rfl;simp;omega
     | false=>rw [(hP7.no rfl).1];simp;omega
   have:=hP7.no e;rw [this.1];exact this.2 i (by rw [List.take_of_length_le (by omega)];exact hL2 i hi)
 have hk:k<L.length:=by omega
 refine zac u23 ty3 (i:=k) hO7.is (by rw [zaf];exact hk) λb2 o2 hA2=>?_;rw [zaP] at hA2;refine zad ty3 hA2 (Ext.refl _) λ_=>?_;generalize hix:L[k]=i at *;have hiv:zaG c p i:=hL i (by rw [←hix];exact List.getElem_mem hk);have hin:=(zbJ hc hpe hiv).1;have hx8:=zaj w7;have hF8:=hF7.step hx8;have hO8:=hO7.ext hx8;generalize World.drew1 w7=w8 at *;refine NIL.mk rfl ?_;refine zab zaZ ?_;refine zab zaD ?_;refine zaa zcu (zai hW.code) (e0.t hF8.ext) λv59 h59=>?_;refine zac u30 zaO h59 hin λb3 o3 hA3=>?_;rw [zaz] at hA3;refine zaa zaO hA3 (e0.t hF8.ext) λv62 h62=>?_;have hl7:=hP7.fl.len;refine zac u23 ty3 (i:=i) hF8.mine.is (by rw [zaf,hl7];exact hin) λb4 o4 hA4=>?_;rw [zaL] at hA4;refine zad ty3 hA4 (Ext.refl _) λ_=>?_;have hm64:=hP7.fl.lt0 i;have hmb:∀ l,l<6→(zax out7 i).testBit l=false→LostP c (tK T) (tG T) p (λl=>h.testBit l=true) i l:=λl hl hb=>hP7.fl.snd i l hin hl hb;have hmz:ag7=false→zax out7 i=zax out i:=λe=>by rw [(hP7.no e).1]
 generalize zax out7 i=mm at *;refine (zsj h62 (e0.t hF8.ext) h1 (e1.trans hF8.ext) hc hT hin hm64).mono ?_;rintro _ w9 ⟨hx9,rfl⟩;have hF9:=hF8.step hx9;have hO9:=hO8.ext hx9;have haf:=zuK hc hT hin hm64;refine (zg9 hW.code (e0.t hF9.ext) hc hin).mono ?_;rintro v71 w10 ⟨hx10,ho10⟩;have hF10:=hF9.step hx10;have hO10:=hO9.ext hx10;have hg9:=hF9.lt;have hN10:=ho10.toI;have hl2:=zeh c i;refine zae u23 ho10.is ?_;rw [zaf];have hQ10:=hP7.enter i;refine zam (zaC c i).length (λq us w'=>∃ (ag:Bool) (out':List Nat),us=[.bool ag,.int .i64 (q:Int)]∧q≤(zaC c i).length∧FW w w' g n out'∧OwnI lo hi w' v47 (zaI L)∧OwnI w9.heap.size w10.heap.size w' v71 (zaI (zaC c i))∧FQ c T p h out L k i q ag out'∧(ag=false→mm=zax out i)) 0 (z0 _) ⟨ag7,out7,rfl,z0 _,hF10,hO10,hN10,hQ10,hmz⟩ ?_;rintro q mq u w11 hqm ⟨ag11,out11,hu,hql,hF11,hO11,hN11,hQ11,hz11⟩;obtain ⟨hu1,hu2⟩:=zbL hu;rw [hu1,hu2];refine zag ?_;refine br (λhlt=>?_) (λhge=>?_)
 case refine_2=>refine zas ?_;exact ⟨mk-1,by omega,k+1,by omega,ag11,out11,rfl,by omega,hF11,hO11,hQ11.done hk hix (by omega)⟩
 have hq:q<(zaC c i).length:=by omega
 refine zac u23 ty3 (i:=q) hN11.is (by rw [zaf];exact hq) λb5 o5 hA5=>?_;rw [zaP] at hA5;refine zad ty3 hA5 (Ext.refl _) λ_=>?_;have hx12:=zaj w11;have hF12:=hF11.step hx12;have hO12:=hO11.ext hx12;have hN12:=hN11.ext hx12;generalize World.drew1 w11=w12 at *;have hj:=zcJ hc hin (List.getElem_mem hq);have hl11:=hQ11.fl.len;have hset:=hQ11.set (m:=mm) hc hpe hiv hq hmb;have hskip:=hQ11.skip (m:=mm) hq hz11;have hj64:=hQ11.fl.lt0 (zaC c i)[q];have hjn:=hj.1;rw [hnn] at hjn;generalize (zaC c i)[q]=j at *
 have hrd:∀ {w':World} {K:Value→Prop} (hF:FW w w' g n out11) (k:K (.int .i64 (zax out11 j:Int))),RD tp (Instr.indexAt 23 (.slice (some ⟨g,0,none⟩) n n) (.int .i64 (j:Int))) w' λx37=>RD tp (Instr.loadAt 3 x37) w' K:=λhF k=>by
   refine zac u23 ty3 (i:=j) hF.mine.is (by rw [zaf,hl11];exact hj.1) λb1 o1 hA1=>?_;rw [zaL] at hA1;exact zad ty3 hA1 (Ext.refl _) λ_=>k
 refine hrd hF12 ?_;refine zdW (by omega) (by omega) ?_;refine hrd hF12 ?_;refine zaB ?_;refine br (λhne=>?_) (λheq=>?_)
 · have hne':zax out11 j &&& aft c T i mm≠zax out11 j:=λe=>hne (by rw [e])
   refine hrd hF12 ?_;refine zdW (by omega) (by omega) ?_;refine zbE (α:=Int) rfl u23 ty3 hjn ?_;have hvl:=Nat.and_le_left (n:=zax out11 j) (m:=aft c T i mm);refine za9 (α:=Int) rfl ty3 hF12.mine (by rw [zaf,hl11,hnn]) hjn (zbx (v:=zax out11 j &&& aft c T i mm) (by omega)) λw13 hc13 hm13=>?_;have hF13:=hF12.set (v:=zax out11 j &&& aft c T i mm) hc13 hm13;have hc13':=zen hc13;refine zas ?_;exact ⟨mq-1,by omega,q+1,by omega,true,_,rfl,by omega,hF13,hO12.chg hc13' (by omega),hN12.chg hc13' (by omega),hset hne',λe=>by cases e⟩
 refine zas ?_;exact ⟨mq-1,by omega,q+1,by omega,ag11,out11,rfl,by omega,hF12,hO12,hN12,hskip (Int.ofNat_inj.1 (Decidable.not_not.1 heq)),hz11⟩
def F210 (a0 a1 a2 a3:Value) (w:World) (R:VW):Prop:=
 oX 32 a0 w λx4 w=>
 rF 32 x4 4 w λx18=>
 rL 30 x18 w λx19=>
 rN 30 3 x19 w λx20=>
 oP (Instr.makeSlice 23 x20 x20) w λx21 w=>
 LOOPI [10] [(iV 0)] w λu3 w n3=>
 rN 23 3 x21 w λx24=>
 rC (u3 10) x24 w λx25=>
 BR x25
 (rX 23 x21 (u3 10) w λx30=>
 oS 3 x30 (iV 63) w λw=>
 rI (u3 10) w λx27=>
 n3 [x27] w)
 (rF 32 x4 3 w λx31=>
 rL 23 x31 w λx32=>
 rX 23 x32 a2 w λx34=>
 rL 3 x34 w λx35=>
 rX 23 x21 x35 w λx39=>
 oS 3 x39 a3 w λw=>
 rL 32 x4 w λx40=>
 cL 234 [x40,a2] w λx42 w=>
 cL 176 [x42] w λx43 w=>
 LOOPI [13] [vT] w λu10 w n10=>
 BR (u10 13)
 (LOOPI [13,14] [vF,(iV 0)] w λu13 w n13=>
 rN 23 3 x43 w λx47=>
 rC (u13 14) x47 w λx48=>
 BR x48
 ((λw=>rL 32 x4 w λx51=>
 rX 23 x43 (u13 14) w λx54=>
 rL 3 x54 w λx55=>
 cL 179 [x51,x55] w λx56 w=>
 LOOPI [13,16] [(u13 13),(iV 0)] w λu17 w n17=>
 rN 23 3 x56 w λx59=>
 rC (u17 16) x59 w λx60=>
 BR x60
 ((λw=>rX 23 x56 (u17 16) w λx66=>
 rL 3 x66 w λx67=>
 rX 23 x21 x67 w λx68=>
 rL 3 x68 w λx69=>
 rF 32 x4 4 w λx70=>
 rL 30 x70 w λx71=>
 rX 23 x43 (u13 14) w λx74=>
 rL 3 x74 w λx75=>
 rX 30 x71 x75 w λx76=>
 rL 111 x76 w λx77=>
 rX 23 x43 (u13 14) w λx82=>
 rL 3 x82 w λx83=>
 rX 23 x21 x83 w λx84=>
 rL 3 x84 w λx85=>
 (λw_=>cL 235 [x77,a1,x85] w_ λx86 w=>
 Ext w_ w ∧
 rB .and 3 T0 T0 x69 x86 w λx87=>
 rX 23 x56 (u17 16) w λx92=>
 rL 3 x92 w λx93=>
 rX 23 x21 x93 w λx94=>
 rL 3 x94 w λx95=>
 rB .neq 3 T0 T0 x87 x95 w λx96=>
 BR x96
 (rX 23 x56 (u17 16) w λx100=>
 rL 3 x100 w λx101=>
 rX 23 x21 x101 w λx103=>
 oS 3 x103 x87 w λw=>
 rI (u17 16) w λx62=>
 n17 [vT,x62] w)
 (rI (u17 16) w λx62=>
 n17 [(u17 13),x62] w)) w) (World.drew1 w))
 (rI (u13 14) w λx50=>
 n13 [(u17 13),x50] w)) (World.drew1 w))
 (n10 [(u13 13)] w))
 (R x21 w))
theorem F210_call {a0 a1 a2 a3 w R} (h:F210 a0 a1 a2 a3 w R):cL 210 [a0,a1,a2,a3] w R:=co (g:=(kf [] [(3,2143290368,[10]),(10,20282409603651670406355065495552,[13]),(13,20282409603651670388762879451136,[13,14]),(17,20282409603651526308759175634944,[13,16])] [(15,[0,1,2,3,4,5,6],0),(19,[0,1,2,3,4,5,6,7,8,9,10,11,12,13,14,15,16,17,18,19,20,21,22,23,24,25],8388608)])) Tryz.func210 h
open Rep (rep)
theorem zhX {w W0 W1:World} {p h:Nat} {v0 v1:Value} {c:DCode} {T:Tab} (h0:Is W0 v0 c) (e0:Ext W0 w) (h1:Is W1 v1 (zgg T)) (e1:Ext W1 w) (hc:CodeR c) (hT:zs7 c T) (hp:p<c.procs.length) (hh:h<64) :
   CALL tp 210 [v0,v1,.int .i64 (p:Int),.int .i64 (h:Int)] w λr w'=>Ext w w'∧Own w.heap.size w' r (zaI (zcc c T p h)):=by
 refine F210_call ?_;unfold F210;have hpe:p<c.entry.length:=by rw [hc.2.1.1];exact hp
 have hil:=hc.f.ins;obtain ⟨he1,he2,he3⟩:=zfg hc hpe;have hst:=FL.start (T:=T) hc hpe hh;have hfin:=λ{out}=>FL.fin (c:=c) (T:=T) (p:=p) (h:=h) (out:=out);refine zbj h0 e0 λw1 hx1 hA=>?_;have hs1:=hx1.size;refine zab zaD ?_;refine zaa zcu (zai hA) (Ext.refl _) λv22 h22=>?_;refine zae u30 h22 ?_;have hn:c.ins.length=c.ins.length:=rfl;generalize hnn:c.ins.length=n at hn;rw [hnn] at he2 hst hil;refine zdn (by omega) (by omega) λw2 hx2 hM2=>?_;have hs2:=hx2.size;generalize hg:w1.heap.size=g at *;have hF2:FW w1 w2 g n (fil n 0):=⟨hx2,by simpa [fil] using hM2,by omega⟩;refine zam n (λk us w'=>us=[.int .i64 (k:Int)]∧k≤n∧FW w1 w' g n (fil n k)) 0 (z0 _) ⟨rfl,z0 _,hF2⟩ ?_;rintro k mk u w3 hkm ⟨hu,hkl,hF3⟩;try replace hu:=zbi hu
 rw [hu];refine zhW u23 ?_;refine zag ?_;refine br (λhlt=>?_) (λhge=>?_)
 · have hk:k<n:=by omega
   refine zbE (α:=Int) rfl u23 ty3 hk ?_;refine za9 (α:=Int) rfl ty3 hF3.mine (by rw [zaf,zoh hkl]) hk (zbx (v:=63) (by omega)) λw4 hc4 hm4=>?_;have hF4:=hF3.set (v:=63) hc4 hm4;rw [zoi hk] at hF4;refine zas ?_;exact ⟨mk-1,by omega,k+1,by omega,rfl,by omega,hF4⟩
 have hk:k=n:=by omega
 rw [hk,zlO] at hF3;clear hF2 hM2 hu hkm;refine zab za6 ?_;refine zaa za4 (zap hA) hF3.ext λv39 h39=>?_;refine zac u23 ty3 h39 hpe λb1 o1 hA1=>?_;rw [zbm hpe,he1] at hA1;refine zad ty3 hA1 hF3.ext λ_=>?_;refine zbE (α:=Int) rfl u23 ty3 he2 ?_;refine za9 (α:=Int) rfl ty3 hF3.mine (by rw [zaf];simp) he2 (zbx (v:=h) (by omega)) λw4 hc4 hm4=>?_;have hF4:=hF3.set (v:=h) hc4 hm4;refine zaa zbq hA hF4.ext λv40 h40=>?_;refine (zeS h40 hF4.ext hc hpe).mono ?_;rintro v42 w5 ⟨hx5,ho5⟩;have hF5:=hF4.step hx5;refine (zex ho5.is (Ext.refl _) (by rw [zak,hnn];omega)).mono ?_;rintro v43 w5b ⟨hx5b,ho5b⟩;rw [zak,zfK] at ho5b;have hF5:=hF5.step hx5b;have hg4:=hF4.lt;have hg5:g<w5.heap.size:=by have:=hx5.size;omega
 have hL:∀ i∈zaY c.ins.length (zaG c p),zaG c p i:=λi hi=>(zaJ.1 hi).2;have hL2:∀ i,zaG c p i→i∈zaY c.ins.length (zaG c p):=λi hi=>zaJ.2 ⟨(zbJ hc hpe hi).1,hi⟩;have hLl:(zaY c.ins.length (zaG c p)).length≤1500:=Nat.le_trans za0 (by rw [hnn];omega);generalize zaY c.ins.length (zaG c p)=L at *;generalize (List.replicate n 63).set (eN c p) h=out at hst hF5;have hO5:=ho5b.toI;generalize hlo:w5.heap.size=lo at *;generalize hhi:w5b.heap.size=hi at *;refine LOOPI.mk (λm us w'=>∃ (ag:Bool) (out:List Nat),us=[.bool ag]∧m=out.sum+(if ag then 1 else 0)∧FW w1 w' g n out∧OwnI lo hi w' v43 (zaI L)∧FL c T p h out∧(ag=false→∀ i,zaG c p i→zwx c T out i)) (out.sum+1) ⟨true,out,rfl,rfl,hF5,hO5,hst,λe=>by cases e⟩ ?_;rintro m u w6 ⟨ag,out,hu,hm,hF6,hO6,hfl,hsh⟩;try replace hu:=zbi hu
 rw [hu];refine zbz (λhag=>?_) (λhag=>?_)
 case refine_2=>have:=hfin hfl hc hpe (hsh hag);rw [←this];exact ⟨hx1.t hF6.ext,hF6.own.mono (by omega)⟩
 rw [hag,if_pos rfl] at hm;refine zam L.length (λk us w'=>∃ (ag:Bool) (out':List Nat),us=[.bool ag,.int .i64 (k:Int)]∧k≤L.length∧FW w1 w' g n out'∧OwnI lo hi w' v43 (zaI L)∧FP c T p h out L k ag out') 0 (z0 _) ⟨false,out,rfl,z0 _,hF6,hO6,hfl,λe=>(by cases e),λ_=>⟨rfl,by simp⟩⟩ ?_;rintro k mk u w7 hkm ⟨ag7,out7,hu,hkl,hF7,hO7,hP7⟩;obtain ⟨hu1,hu2⟩:=zbL hu;clear hu;rw [hu1,hu2];refine zae u23 hO7.is ?_;rw [zaf];refine zag ?_;refine br (λhlt=>?_) (λhge=>?_)
 case refine_2=>
   refine ⟨out7.sum+(if ag7 then 1 else 0),?_,ag7,out7,rfl,rfl,hF7,hO7,hP7.fl,λe i hi=>?_⟩
   · cases ag7 with
     | true=>have:=hP7.yes rfl;simp;omega
     | false=>rw [(hP7.no rfl).1];simp;omega
   have:=hP7.no e;rw [this.1];exact this.2 i (by rw [List.take_of_length_le (by omega)];exact hL2 i hi)
 have hk:k<L.length:=by omega
 have hx8:=zaj w7;have hF8:=hF7.step hx8;have hO8:=hO7.ext hx8;generalize World.drew1 w7=w8 at *;refine zaa zbq hA hF8.ext λv51 h51=>?_;refine zac u23 ty3 (i:=k) hO8.is (by rw [zaf];exact hk) λb2 o2 hA2=>?_;rw [zaP] at hA2;refine zad ty3 hA2 (Ext.refl _) λ_=>?_
 have hrL:∀ {w':World} {K:Value→Prop} (hO:OwnI lo hi w' v43 (zaI L)) (kk:K (.int .i64 ((L[k]:Nat):Int))),RD tp (Instr.indexAt 23 v43 (.int .i64 (k:Int))) w' λx37=>RD tp (Instr.loadAt 3 x37) w' K:=λhO kk=>by
   refine zac u23 ty3 (i:=k) hO.is (by rw [zaf];exact hk) λb1 o1 hA1=>?_;rw [zaP] at hA1;exact zad ty3 hA1 (Ext.refl _) λ_=>kk
 generalize hix:L[k]=i at *;have hiv:zaG c p i:=hL i (by rw [←hix];exact List.getElem_mem hk);have hin:=(zbJ hc hpe hiv).1;refine (zhK h51 hF8.ext hc hin).mono ?_;rintro v56 w10 ⟨hx10,ho10⟩;have hF10:=hF8.step hx10;have hO10:=hO8.ext hx10;have hg8:=hF8.lt;have hN10:=ho10.toI;have hl2:=zeh c i;have hQ10:=hP7.enter i;refine zam (zaC c i).length (λq us w'=>∃ (ag:Bool) (out':List Nat),us=[.bool ag,.int .i64 (q:Int)]∧q≤(zaC c i).length∧FW w1 w' g n out'∧OwnI lo hi w' v43 (zaI L)∧OwnI w8.heap.size w10.heap.size w' v56 (zaI (zaC c i))∧FQ c T p h out L k i q ag out') 0 (z0 _) ⟨ag7,out7,rfl,z0 _,hF10,hO10,hN10,hQ10⟩ ?_;rintro q mq u w11 hqm ⟨ag11,out11,hu,hql,hF11,hO11,hN11,hQ11⟩;obtain ⟨hu1,hu2⟩:=zbL hu;rw [hu1,hu2];refine zae u23 hN11.is ?_;rw [zaf];refine zag ?_;refine br (λhlt=>?_) (λhge=>?_)
 case refine_2=>refine zas ?_;exact ⟨mk-1,by omega,k+1,by omega,ag11,out11,rfl,by omega,hF11,hO11,hQ11.done hk hix (by omega)⟩
 have hq:q<(zaC c i).length:=by omega
 have hx12:=zaj w11;have hF12:=hF11.step hx12;have hO12:=hO11.ext hx12;have hN12:=hN11.ext hx12;generalize World.drew1 w11=w12 at *;have hj:=zcJ hc hin (List.getElem_mem hq);have hl11:=hQ11.fl.len;have hm64:=hQ11.fl.lt0 i;have hmb:∀ l,l<6→(zax out11 i).testBit l=false→LostP c (tK T) (tG T) p (λl=>h.testBit l=true) i l:=λl hl hb=>hQ11.fl.snd i l hin hl hb;have hset:=hQ11.set (m:=zax out11 i) hc hpe hiv hq hmb;have hskip:=hQ11.skip (m:=zax out11 i) hq (λe=>by rw [(hQ11.no e).1]);have hj64:=hQ11.fl.lt0 (zaC c i)[q];have hjn:=hj.1;rw [hnn] at hjn
 have hrN:∀ {w':World} {K:Value→Prop} (hO:OwnI w8.heap.size w10.heap.size w' v56 (zaI (zaC c i))) (kk:K (.int .i64 (((zaC c i)[q]:Nat):Int))),RD tp (Instr.indexAt 23 v56 (.int .i64 (q:Int))) w' λx37=>RD tp (Instr.loadAt 3 x37) w' K:=λhO kk=>by
   refine zac u23 ty3 (i:=q) hO.is (by rw [zaf];exact hq) λb1 o1 hA1=>?_;rw [zaP] at hA1;exact zad ty3 hA1 (Ext.refl _) λ_=>kk
 generalize (zaC c i)[q]=j at *
 have hrd:∀ {w':World} {K:Value→Prop} {i:Nat} (hF:FW w1 w' g n out11) (hi:i<c.ins.length) (k:K (.int .i64 (zax out11 i:Int))),RD tp (Instr.indexAt 23 (.slice (some ⟨g,0,none⟩) n n) (.int .i64 (i:Int))) w' λx37=>RD tp (Instr.loadAt 3 x37) w' K:=λ{w' K i} hF hi k=>by
   refine zac u23 ty3 (i:=i) hF.mine.is (by rw [zaf,hl11];exact hi) λb1 o1 hA1=>?_;rw [zaL] at hA1;exact zad ty3 hA1 (Ext.refl _) λ_=>k
 refine hrN hN12 ?_;refine hrd hF12 hj.1 ?_;refine zab zaD ?_;refine zaa zcu (zai hA) hF12.ext λv71 h71=>?_;refine hrL hO12 ?_;refine zac u30 zaO h71 hin λb3 o3 hA3=>?_;rw [zaz] at hA3;refine zaa zaO hA3 hF12.ext λv77 h77=>?_;refine hrL hO12 ?_;refine hrd hF12 hin ?_;refine (zog h77 hF12.ext h1 (e1.trans (hx1.t hF12.ext)) hc hT hin hm64).mono ?_;rintro _ w13 ⟨hx13,rfl⟩;refine ⟨hx13,?_⟩;have hF13:=hF12.step hx13;have hO13:=hO12.ext hx13;have hN13:=hN12.ext hx13;have haf:=zuK hc hT hin hm64;have hvl:=Nat.and_le_left (n:=zax out11 j) (m:=aft c T i (zax out11 i));refine zdW (m:=zax out11 j) (n:=aft c T i (zax out11 i)) (by omega) (by omega) ?_;refine hrN hN13 ?_;refine hrd hF13 hj.1 ?_;refine zaB ?_;refine br (λhne=>?_) (λheq=>?_)
 · have hne':zax out11 j &&& aft c T i (zax out11 i)≠zax out11 j:=λe=>hne (by rw [e])
   refine hrN hN13 ?_;refine zbE (α:=Int) rfl u23 ty3 hjn ?_;refine za9 (α:=Int) rfl ty3 hF13.mine (by rw [zaf,hl11,hnn]) hjn (zbx (v:=zax out11 j &&& aft c T i (zax out11 i)) (by omega)) λw14 hc14 hm14=>?_;have hF14:=hF13.set (v:=zax out11 j &&& aft c T i (zax out11 i)) hc14 hm14;have hc14':=zen hc14;refine zas ?_;exact ⟨mq-1,by omega,q+1,by omega,true,_,rfl,by omega,hF14,hO13.chg hc14' (by omega),hN13.chg hc14' (by omega),hset hne'⟩
 refine zas ?_;exact ⟨mq-1,by omega,q+1,by omega,ag11,out11,rfl,by omega,hF13,hO13,hN13,hskip (Int.ofNat_inj.1 (Decidable.not_not.1 heq))⟩
def F258 (a0 a1:Value) (w:World) (R:VW):Prop:=
 NIL a0 <|
 rF 114 a0 4 w λx12=>
 rL 23 x12 w λx13=>
 rX 23 x13 a1 w λx15=>
 rL 3 x15 w λx16=>
 cL 66 [x16] w λx17 w=>
 rN 23 3 x17 w λx18=>
 LOOPI [5,19] [(iV 63),(iV 0)] w λu3 w n3=>
 rC (u3 19) x18 w λx20=>
 BR x20
 (rX 23 x17 (u3 19) w λx21=>
 rL 3 x21 w λx22=>
 cL 137 [a0,x22] w λx25 w=>
 rN 23 3 x25 w λx26=>
 LOOPI [5,27] [(u3 5),(iV 0)] w λu6 w n6=>
 rC (u6 27) x26 w λx28=>
 BR x28
 (rX 23 x25 (u6 27) w λx29=>
 rL 3 x29 w λx30=>
 NIL a0 <|
 rF 114 a0 0 w λx33=>
 rF 32 x33 4 w λx34=>
 rL 30 x34 w λx35=>
 rX 30 x35 x30 w λx37=>
 rF 111 x37 0 w λx38=>
 rL 3 x38 w λx39=>
 rQ x39 (iV 7) w λx40=>
 BR x40
 (NIL a0 <|
 rF 114 a0 0 w λx44=>
 rF 32 x44 4 w λx45=>
 rL 30 x45 w λx46=>
 rX 30 x46 x30 w λx48=>
 rF 111 x48 1 w λx49=>
 rL 3 x49 w λx50=>
 rD (convert 3 121 x50) w λx51=>
 rB .shl 3 U0 T0 (iV 1) x51 w λx52=>
 rB .andNot 3 T0 T0 (u6 5) x52 w λx53=>
 rI (u6 27) w λx54=>
 n6 [x53,x54] w)
 (rI (u6 27) w λx54=>
 n6 [(u6 5),x54] w))
 (rI (u3 19) w λx55=>
 n3 [(u6 5),x55] w))
 (R (u3 5) w)
theorem F258_call {a0 a1 w R} (h:F258 a0 a1 w R):cL 258 [a0,a1] w R:=co (g:=(kf [] [(3,72057594037404320,[5,19]),(6,36028796884746784,[5,27])] [])) Tryz.func258 h
def F257 (a0 a1:Value) (w:World) (R:VW):Prop:=
 oX 32 a0 w λx2 w=>
 rL 32 x2 w λx10=>
 cL 152 [x10,a1] w λx12 w=>
 LOOPI [6,7] [(iV 63),(iV 0)] w λu4 w n4=>
 rF 32 x2 2 w λx14=>
 rL 22 x14 w λx15=>
 rN 22 3 x15 w λx16=>
 rC (u4 7) x16 w λx17=>
 BR x17
 (rX 101 x12 (u4 7) w λx22=>
 rL 4 x22 w λx23=>
 rT x23 w λx24=>
 BR x24
 (rI (u4 7) w λx19=>
 n4 [(u4 6),x19] w)
 (rL 32 x2 w λx25=>
 cL 234 [x25,(u4 7)] w λx27 w=>
 LOOPI [6,9] [(u4 6),(iV 0)] w λu9 w n9=>
 rF 32 x2 4 w λx29=>
 rL 30 x29 w λx30=>
 rN 30 3 x30 w λx31=>
 rC (u9 9) x31 w λx32=>
 BR x32
 (rX 101 x27 (u9 9) w λx37=>
 rL 4 x37 w λx38=>
 BR x38
 (rF 32 x2 4 w λx40=>
 rL 30 x40 w λx41=>
 rX 30 x41 (u9 9) w λx43=>
 rF 111 x43 0 w λx44=>
 rL 3 x44 w λx45=>
 rQ x45 (iV 7) w λx46=>
 BR x46
 (rF 32 x2 4 w λx49=>
 rL 30 x49 w λx50=>
 rX 30 x50 (u9 9) w λx52=>
 rF 111 x52 1 w λx53=>
 rL 3 x53 w λx54=>
 cL 102 [x54] w λx55 w=>
 cL 178 [(u9 6),x55] w λx56 w=>
 rI (u9 9) w λx34=>
 n9 [x56,x34] w)
 (rI (u9 9) w λx34=>
 n9 [(u9 6),x34] w))
 (rI (u9 9) w λx34=>
 n9 [(u9 6),x34] w))
 (rI (u4 7) w λx19=>
 n4 [(u9 6),x19] w)))
 (R (u4 6) w)
theorem F257_call {a0 a1 w R} (h:F257 a0 a1 w R):cL 257 [a0,a1] w R:=co (g:=(kf [] [(4,144115188075848640,[6,7]),(9,144115187807420992,[6,9])] [])) Tryz.func257 h
open Rep (rep)
theorem zjS {p:Nat→Prop} {n:Nat}:∀ {k:Nat},k≤n→zcD (zce p n) k=zaI (zaY k p)
 | 0,_=>rfl
 | k+1,h=>by
   rw [zcD,zjS (k:=k) (by omega)];by_cases hp:p k
   · rw [if_pos (zaT.2 ⟨by omega,hp⟩),zct hp,zbW];rfl
   rw [if_neg λe=>hp (zaT.1 e).2,zcM hp]
theorem zdE {p:Nat→Prop} {n:Nat} (h:n≤62):zbn (zce p n)=zaI (zaY n p):=by
 rw [zis (k:=n) zhu (by omega),zjS (lr _)]
theorem zba {p:Nat→Prop} {n:Nat} (h:n≤8):zce p n<256:=Nat.lt_of_lt_of_le zhu (Nat.pow_le_pow_right (n:=2) (by omega) h)
noncomputable def cls (c:DCode) (op:Int):List Nat:=(List.range c.procs.length).map λp=>zce (zjq c p op) c.procs.length
noncomputable def frs (c:DCode):List Nat:=(List.range c.procs.length).map λp=>zce (FromP c p) c.procs.length
theorem zfN (c:DCode) (op:Int):(cls c op).length=c.procs.length:=by simp [cls]
theorem zhY (c:DCode):(frs c).length=c.procs.length:=by simp [frs]
theorem zuS {c:DCode} {op:Int} {p:Nat} (hp:p<c.procs.length):zax (cls c op) p=zce (zjq c p op) c.procs.length:=by rw [←za3 (by rw [zfN];exact hp)];simp [cls]
theorem zpy {c:DCode} {p:Nat} (hp:p<c.procs.length):zax (frs c) p=zce (FromP c p) c.procs.length:=by rw [←za3 (by rw [zhY];exact hp)];simp [frs]
noncomputable def zcx (c:DCode):Nat:=zce (RootP c) c.procs.length
noncomputable def zdT (c:DCode):Nat:=zce (UsedP c) c.procs.length
structure WAt (W0:World) (b:Nat) (c:DCode):Prop where
 wl:WL W0 b c
 calls:At W0 b (0+6) (zaI (cls c 4))
 spawns:At W0 b (0+7) (zaI (cls c 5))
 frm:At W0 b (0+8) (zaI (frs c))
 roots:At W0 b (0+9) (zcx c:Int)
 used:At W0 b (0+10) (zdT c:Int)
def KI (m:Nat) (P:Nat→Prop):Prop:=m<64∧∀ l,l<6→(m.testBit l=false↔P l)
theorem KI.start {P:Nat→Prop} (h:∀ l,¬P l):KI 63 P:=⟨by omega,λl hl=>by rw [zhd hl];exact ⟨λe=>(by cases e),λe=>absurd e (h l)⟩⟩
theorem KI.drop {m a:Nat} {P P':Nat→Prop} (h:KI m P) (hP:∀ l,P' l↔P l∨a=l):KI (zir m (2^a)) P':=by
 refine ⟨Nat.lt_of_le_of_lt (zgp _ _) h.1,λl hl=>?_⟩;rw [zcw,Nat.testBit_two_pow,hP,←h.2 l hl];simp only [Bool.and_eq_false_iff,Bool.not_eq_false',decide_eq_true_eq]
theorem KI.congr {m:Nat} {P P':Nat→Prop} (h:KI m P) (hP:∀ l,P' l↔P l):KI m P':=⟨h.1,λl hl=>by rw [h.2 l hl,hP]⟩
theorem KI.eq {m:Nat} {P:Nat→Prop} (h:KI m P):m=m6 λl=>¬P l:=zrX h.1 λl hl=>by rw [←h.2 l hl];simp
theorem zbg {α:Type} {l:List α} {k:Nat} (hk:k<l.length) {x:α}:x∈l.take (k+1)↔x∈l.take k∨x=l[k]:=by
 rw [tk hk,List.mem_append];simp
def zna (c:DCode) (q l:Nat):Prop:=∃ i,zaG c q i∧(zal c i).op=7∧agN c i=l
theorem zsk {w W0:World} {b p:Nat} {c:DCode} (hW:WAt W0 b c) (e0:Ext W0 w) (hc:CodeR c) (hp:p<c.procs.length) :
   CALL tp 258 [.pointer (some ⟨b,0,none⟩),.int .i64 (p:Int)] w λr w'=>Ext w w'∧r=.int .i64 (zeV c p:Nat):=by
 refine F258_call ?_;unfold F258;have h8:=hc.1.procs8;have hil:=hc.f.ins;refine NIL.mk rfl ?_;refine zab ziV ?_;refine zaa za4 hW.frm e0 λv13 h13=>?_;refine zac u23 ty3 h13 (by rw [zaf,zhY];exact hp) λb1 o1 hA1=>?_;rw [zaL,zpy hp] at hA1;refine zad ty3 hA1 e0 λ_=>?_;have hsm:=zba (p:=FromP c p) h8.1;refine (zcU (m:=zce (FromP c p) c.procs.length) (by omega)).mono ?_;rintro v17 w1 ⟨hx1,ho1⟩;rw [zdE (by omega)] at ho1;have hL:∀ q,q∈zaY c.procs.length (FromP c p)↔q<c.procs.length∧FromP c p q:=λq=>zaJ;have hLl:=za0 (n:=c.procs.length) (p:=FromP c p);generalize zaY c.procs.length (FromP c p)=L at *;refine zae u23 ho1.is ?_;rw [zaf];refine zam L.length (λk us w'=>∃ m:Nat,us=[.int .i64 (m:Int),.int .i64 (k:Int)]∧k≤L.length∧Ext w1 w'∧KI m (λl=>∃ q∈L.take k,zna c q l)) 0 (z0 _) ⟨63,rfl,z0 _,Ext.refl _,KI.start (by simp)⟩ ?_;rintro k mk u w2 hkm ⟨m,hu,hkl,hx2,hK⟩;obtain ⟨hu1,hu2⟩:=zbL hu;clear hu;rw [hu1,hu2];refine zag ?_;refine br (λhlt=>?_) (λhge=>?_)
 case refine_2=>
   rw [show L.take k=L from List.take_of_length_le (by omega)] at hK;refine ⟨hx1.t hx2,?_⟩
   have:m=zeV c p:=by
     rw [hK.eq];refine zpi λl hl=>not_congr ?_;constructor
     · rintro ⟨q,hq,i,h1,h2,h3⟩
       exact ⟨q,i,((hL q).1 hq).1,((hL q).1 hq).2,h1,h2,h3⟩
     rintro ⟨q,i,h0,hf,h1,h2,h3⟩;exact ⟨q,(hL q).2 ⟨h0,hf⟩,i,h1,h2,h3⟩
   rw [this]
 have hk:k<L.length:=by omega
 refine zac u23 ty3 (i:=k) (ho1.is) (by rw [zaf];exact hk) λb2 o2 hA2=>?_;rw [zaP] at hA2;refine zad ty3 hA2 hx2 λ_=>?_;have hq:=(hL L[k]).1 (List.getElem_mem hk);have htk:=λx=>zbg hk (x:=x);generalize L[k]=q at *;have hx02:=(e0.t hx1).trans hx2;refine (zfM hW.wl hx02 hc hq.1).mono ?_;rintro v25 w3 ⟨hx3,ho3⟩;have hM:∀ i,i∈zaY c.ins.length (zaG c q)↔i<c.ins.length∧zaG c q i:=λi=>zaJ;have hMl:=za0 (n:=c.ins.length) (p:=zaG c q);generalize zaY c.ins.length (zaG c q)=M at *;refine zae u23 ho3.is ?_;rw [zaf];refine zam M.length (λj us w'=>∃ m:Nat,us=[.int .i64 (m:Int),.int .i64 (j:Int)]∧j≤M.length∧Ext w3 w'∧KI m (λl=>(∃ q∈L.take k,zna c q l)∨∃ i∈M.take j,(zal c i).op=7∧agN c i=l)) 0 (z0 _) ⟨m,rfl,z0 _,Ext.refl _,hK.congr λl=>by simp⟩ ?_;rintro j mj u w4 hjm ⟨m4,hu,hjl,hx4,hK4⟩;obtain ⟨hu1,hu2⟩:=zbL hu;rw [hu1,hu2];refine zag ?_;refine br (λhlt=>?_) (λhge=>?_)
 case refine_2=>
   rw [show M.take j=M from List.take_of_length_le (by omega)] at hK4;refine zas ?_;refine ⟨mk-1,by omega,k+1,by omega,m4,rfl,by omega,hx2.t (hx3.t hx4),hK4.congr λl=>?_⟩;constructor
   · rintro ⟨r,hr,h1⟩
     rcases (htk r).1 hr with hr | rfl
     · exact .inl ⟨r,hr,h1⟩
     obtain ⟨i,h1,h2,h3⟩:=h1;exact .inr ⟨i,(hM i).2 ⟨(zbJ hc (by rw [hc.2.1.1];exact hq.1) h1).1,h1⟩,h2,h3⟩
   rintro (⟨r,hr,h1⟩ | ⟨i,hi,h2,h3⟩)
   · exact ⟨r,(htk r).2 (.inl hr),h1⟩
   exact ⟨q,(htk q).2 (.inr rfl),i,((hM i).1 hi).2,h2,h3⟩
 have hj:j<M.length:=by omega
 refine zac u23 ty3 (i:=j) (ho3.is) (by rw [zaf];exact hj) λb3 o3 hA3=>?_;rw [zaP] at hA3;refine zad ty3 hA3 hx4 λ_=>?_;have hi:=(hM M[j]).1 (List.getElem_mem hj);have htj:=λx=>zbg hj (x:=x);generalize M[j]=i at *;have hx04:=hx02.t (hx3.t hx4);refine NIL.mk rfl ?_;refine zab zaZ ?_;refine zab zaD ?_;refine zaa zcu (zai hW.wl.code) hx04 λv35 h35=>?_;refine zac u30 zaO h35 hi.1 λb4 o4 hA4=>?_;rw [zaz] at hA4;refine zab zaM ?_;refine zad ty3 (zav hA4) hx04 λ_=>?_;refine zao ?_;refine br (λc7=>?_) (λc7=>?_)
 · obtain ⟨ha,_,hq6⟩:=zcN hc hi.1 (.inr c7)
   have hpw:=zeH hq6;refine NIL.mk rfl ?_;refine zab zaZ ?_;refine zab zaD ?_;refine zaa zcu (zai hW.wl.code) hx04 λv46 h46=>?_;refine zac u30 zaO h46 hi.1 λb5 o5 hA5=>?_;rw [zaz] at hA5;refine zab zaK ?_;refine zad ty3 (zat hA5) hx04 λ_=>?_;rw [ha];refine zbI (by kernel_rfl) ziq (by omega) ?_;refine zds (by omega) ?_;have h64:=hK4.1;refine zfB (m:=m4) (n:=2^agN c i) (by omega) (by omega) ?_;refine zas ?_;refine ⟨mj-1,by omega,j+1,by omega,_,rfl,by omega,hx4,hK4.drop λl=>?_⟩;constructor
   · rintro (h | ⟨r,hr,h1,h2⟩)
     · exact .inl (.inl h)
     rcases (htj r).1 hr with hr | rfl
     · exact .inl (.inr ⟨r,hr,h1,h2⟩)
     exact .inr h2
   rintro ((h | ⟨r,hr,h1⟩) | h)
   · exact .inl h
   · exact .inr ⟨r,(htj r).2 (.inl hr),h1⟩
   exact .inr ⟨i,(htj i).2 (.inr rfl),c7,h⟩
 refine zas ?_;refine ⟨mj-1,by omega,j+1,by omega,_,rfl,by omega,hx4,hK4.congr λl=>?_⟩;constructor
 · rintro (h | ⟨r,hr,h1,h2⟩)
   · exact .inl h
   rcases (htj r).1 hr with hr | rfl
   · exact .inr ⟨r,hr,h1,h2⟩
   exact absurd h1 c7
 rintro (h | ⟨r,hr,h1⟩)
 · exact .inl h
 exact .inr ⟨r,(htj r).2 (.inl hr),h1⟩
theorem zqt {w W0:World} {v0:Value} {p:Nat} {c:DCode} (h0:Is W0 v0 c) (e0:Ext W0 w) (hc:CodeR c) (hp:p<c.procs.length) :
   CALL tp 257 [v0,.int .i64 (p:Int)] w λr w'=>Ext w w'∧r=.int .i64 (zeV c p:Nat):=by
 refine F257_call ?_;unfold F257;have h8:=hc.1.procs8;have hil:=hc.f.ins;refine zbj h0 e0 λw0 hx0 hA=>?_;refine zaa zbq hA (Ext.refl _) λv10 h10=>?_;refine (zfd h10 (Ext.refl _) hc hp).mono ?_;rintro _ w1 ⟨hx1,g,rfl,hg,hM1⟩;have hFr:(λi=>i=p∨RP (zjs c) p i)=FromP c p:=rfl;rw [hFr] at hM1;refine zam c.procs.length (λk us w'=>∃ m:Nat,us=[.int .i64 (m:Int),.int .i64 (k:Int)]∧k≤c.procs.length∧Ext w1 w'∧KI m (λl=>∃ q,q<k∧FromP c p q∧zna c q l)) 0 (z0 _) ⟨63,rfl,z0 _,Ext.refl _,KI.start (by simp)⟩ ?_;rintro k mk u w2 hkm ⟨m,hu,hkl,hx2,hK⟩;obtain ⟨hu1,hu2⟩:=zbL hu;clear hu;rw [hu1,hu2];have hx02:=hx1.t hx2;refine zab zbf ?_;refine zaa zb1 (zau hA) hx02 λv15 h15=>?_;refine zae u22 h15 ?_;refine zag ?_;refine br (λhlt=>?_) (λhge=>?_)
 case refine_2=>
   have hke:k=c.procs.length:=by omega
   rw [hke] at hK;refine ⟨hx0.t hx02,?_⟩
   have:m=zeV c p:=by
     rw [hK.eq];refine zpi λl hl=>not_congr ?_;constructor
     · rintro ⟨q,hq,hf,i,h1,h2,h3⟩
       exact ⟨q,i,hq,hf,h1,h2,h3⟩
     rintro ⟨q,i,h0,hf,h1,h2,h3⟩;exact ⟨q,h0,hf,i,h1,h2,h3⟩
   rw [this]
 have hk:k<c.procs.length:=by omega
 refine zac zcy ty4 (i:=k) hM1.is (by rw [zak];exact hk) λb2 o2 hA2=>?_;refine zay ty4 hA2 hx2 ?_;have hmk:=zaF (n:=c.procs.length) (p:=FromP c p) (i:=k);rw [zaQ (by rw [zak];exact hk)] at hmk;refine zaX ?_;refine zbz (λhf=>?_) (λhf=>?_)
 · have hnf:¬FromP c p k:=λh=>by rw [hmk.2 ⟨hk,h⟩] at hf;cases hf
   refine zas ?_;refine ⟨mk-1,by omega,k+1,by omega,m,rfl,by omega,hx2,hK.congr λl=>?_⟩;constructor
   · rintro ⟨q,hq,h1,h2⟩
     by_cases e:q=k
     · subst e;exact absurd h1 hnf
     exact ⟨q,by omega,h1,h2⟩
   rintro ⟨q,hq,h1⟩;exact ⟨q,by omega,h1⟩
 have hfr:FromP c p k:=(hmk.1 (by simpa using hf)).2;refine zaa zbq hA hx02 λv25 h25=>?_;refine (zeS h25 hx02 hc (by rw [hc.2.1.1];exact hk)).mono ?_;rintro v27 w3 ⟨hx3,ho3⟩;refine zam c.ins.length (λj us w'=>∃ m:Nat,us=[.int .i64 (m:Int),.int .i64 (j:Int)]∧j≤c.ins.length∧Ext w3 w'∧KI m (λl=>(∃ q,q<k∧FromP c p q∧zna c q l)∨∃ i,i<j∧zaG c k i∧(zal c i).op=7∧agN c i=l)) 0 (z0 _) ⟨m,rfl,z0 _,Ext.refl _,hK.congr λl=>by simp⟩ ?_;rintro j mj u w4 hjm ⟨m4,hu,hjl,hx4,hK4⟩;obtain ⟨hu1,hu2⟩:=zbL hu;rw [hu1,hu2];have hx04:=hx02.t (hx3.t hx4);refine zab zaD ?_;refine zaa zcu (zai hA) hx04 λv30 h30=>?_;refine zae u30 h30 ?_;refine zag ?_;refine br (λhlt=>?_) (λhge=>?_)
 case refine_2=>
   have hje:j=c.ins.length:=by omega
   rw [hje] at hK4;refine zas ?_;refine ⟨mk-1,by omega,k+1,by omega,m4,rfl,by omega,hx2.t (hx3.t hx4),hK4.congr λl=>?_⟩;constructor
   · rintro ⟨q,hq,h1,h2⟩
     by_cases e:q=k
     · subst e
       obtain ⟨i,h3,h4⟩:=h2;exact .inr ⟨i,(zbJ hc (by rw [hc.2.1.1];exact hk) h3).1,h3,h4⟩
     exact .inl ⟨q,by omega,h1,h2⟩
   rintro (⟨q,hq,h1⟩ | ⟨i,hi,h2⟩)
   · exact ⟨q,by omega,h1⟩
   exact ⟨k,by omega,hfr,i,h2⟩
 have hj:j<c.ins.length:=by omega
 refine zac zcy ty4 (i:=j) ho3.is (by rw [zak];exact hj) λb3 o3 hA3=>?_;refine zay ty4 hA3 hx4 ?_;have hmj:=zaF (n:=c.ins.length) (p:=zaG c k) (i:=j);rw [zaQ (by rw [zak];exact hj)] at hmj
 have hno:∀ w',Ext w3 w'→¬(zaG c k j∧(zal c j).op=7)→∃ m:Nat,[Value.int .i64 (m4:Int),Value.int .i64 ((j+1:Nat):Int)]=[.int .i64 (m:Int),.int .i64 ((j+1:Nat):Int)]∧j+1≤c.ins.length∧Ext w3 w'∧KI m (λl=>(∃ q,q<k∧FromP c p q∧zna c q l)∨∃ i,i<j+1∧zaG c k i∧(zal c i).op=7∧agN c i=l):=λw' hx hn=>by
   refine ⟨m4,rfl,by omega,hx,hK4.congr λl=>or_congr Iff.rfl ?_⟩;constructor
   · rintro ⟨i,h1,h2,h3,h4⟩
     by_cases e:i=j
     · subst e;exact absurd ⟨h2,h3⟩ hn
     exact ⟨i,by omega,h2,h3,h4⟩
   rintro ⟨i,h1,h2⟩;exact ⟨i,by omega,h2⟩
 refine zbz (λhf4=>?_) (λhf4=>?_)
 · refine zab zaD ?_
   refine zaa zcu (zai hA) hx04 λv41 h41=>?_;refine zac u30 zaO h41 hj λb4 o4 hA4=>?_;rw [zaz] at hA4;refine zab zaM ?_;refine zad ty3 (zav hA4) hx04 λ_=>?_;refine zao ?_;refine br (λc7=>?_) (λc7=>?_)
   · obtain ⟨ha,_,hq6⟩:=zcN hc hj (.inr c7)
     have hpw:=zeH hq6;refine zab zaD ?_;refine zaa zcu (zai hA) hx04 λv50 h50=>?_;refine zac u30 zaO h50 hj λb5 o5 hA5=>?_;rw [zaz] at hA5;refine zab zaK ?_;refine zad ty3 (zat hA5) hx04 λ_=>?_;rw [ha];refine (zei (by omega)).mono ?_;rintro _ w5 ⟨hx5,rfl⟩;refine (zhV hK4.1 hpw).mono ?_;rintro _ w6 ⟨hx6,rfl⟩;rw [zgz hK4.1 hpw];refine zas ?_;refine ⟨mj-1,by omega,j+1,by omega,_,rfl,by omega,hx4.t (hx5.t hx6),hK4.drop λl=>?_⟩;constructor
     · rintro (h | ⟨i,h1,h2,h3,h4⟩)
       · exact .inl (.inl h)
       by_cases e:i=j
       · subst e;exact .inr h4
       exact .inl (.inr ⟨i,by omega,h2,h3,h4⟩)
     rintro ((h | ⟨i,h1,h2⟩) | h)
     · exact .inl h
     · exact .inr ⟨i,by omega,h2⟩
     exact .inr ⟨j,by omega,(hmj.1 hf4).2,c7,h⟩
   refine zas ?_;exact ⟨mj-1,by omega,j+1,by omega,hno w4 hx4 λh=>c7 h.2⟩
 refine zas ?_;exact ⟨mj-1,by omega,j+1,by omega,hno w4 hx4 λh=>by rw [hmj.2 ⟨hj,h.1⟩] at hf4;cases hf4⟩
def F237 (a0 a1 a2:Value) (w:World) (R:VW):Prop:=
 (λw=>NIL a0 <|
 rF 114 a0 0 w λx13=>
 rL 32 x13 w λx14=>
 (λw_=>cL 217 [a0,a1,a2,(iV 0)] w_ λx10 w=>
 Ext w_ w ∧
 cL 134 [x14,a2] w λx16 w=>
 rB .sub 3 T0 U0 x16 (iV 1) w λx17=>
 rX 23 x10 x17 w λx18=>
 rL 3 x18 w λx19=>
 R x19 w) w) (World.drew1 w)
theorem F237_call {a0 a1 a2 w R} (h:F237 a0 a1 a2 w R):cL 237 [a0,a1,a2] w R:=co (g:=(kf [] [] [(1,[0,1,2,4,5,6,7,8,3,9,10,11,12,13],8)])) Tryz.func237 h
def F233 (a0 a1 a2:Value) (w:World) (R:VW):Prop:=
 oX 32 a0 w λx3 w=>
 (λw=>rL 32 x3 w λx7=>
 rL 32 x3 w λx11=>
 (λw_=>cL 210 [x7,a1,a2,(iV 0)] w_ λx10 w=>
 Ext w_ w ∧
 cL 124 [x11,a2] w λx13 w=>
 rX 23 x10 x13 w λx14=>
 rL 3 x14 w λx15=>
 R x15 w) w) (World.drew1 w)
theorem F233_call {a0 a1 a2 w R} (h:F233 a0 a1 a2 w R):cL 233 [a0,a1,a2] w R:=co (g:=(kf [] [] [(1,[0,1,2,4,5,3,6,7,8,9],8)])) Tryz.func233 h
def F236 (a0:Value) (w:World) (R:VW):Prop:=
 NIL a0 <|
 rF 114 a0 0 w λx7=>
 rF 32 x7 2 w λx8=>
 rL 22 x8 w λx9=>
 rN 22 3 x9 w λx10=>
 LOOPI [3,11] [(Value.slice none 0 0),(iV 0)] w λu3 w n3=>
 rC (u3 11) x10 w λx12=>
 BR x12
 (cL 258 [a0,(u3 11)] w λx17 w=>
 rD (Instr.build 225 #[(0,x17),(1,(iV 63))]) w λx18=>
 oP (bS 204 x18) w λx19 w=>
 oP (aP 204 (u3 3) x19) w λx20 w=>
 rI (u3 11) w λx21=>
 n3 [x20,x21] w)
 (R (u3 3) w)
theorem F236_call {a0 w R} (h:F236 a0 w R):cL 236 [a0] w R:=co (g:=(kf [] [(3,4192280,[3,11])] [])) Tryz.func236 h
def F232 (a0:Value) (w:World) (R:VW):Prop:=
 oX 32 a0 w λx1 w=>
 oP (Instr.buildSlice 204 0 #[]) w λx5 w=>
 LOOPI [3,4] [x5,(iV 0)] w λu3 w n3=>
 rF 32 x1 2 w λx7=>
 rL 22 x7 w λx8=>
 rN 22 3 x8 w λx9=>
 rC (u3 4) x9 w λx10=>
 BR x10
 (rL 32 x1 w λx14=>
 cL 257 [x14,(u3 4)] w λx16 w=>
 rD (Instr.build 225 #[(0,x16),(1,(iV 63))]) w λx17=>
 oP (bS 204 x17) w λx18 w=>
 oP (aP 204 (u3 3) x18) w λx19 w=>
 rI (u3 4) w λx12=>
 n3 [x19,x12] w)
 (R (u3 3) w)
theorem F232_call {a0 w R} (h:F232 a0 w R):cL 232 [a0] w R:=co (g:=(kf [] [(3,1048536,[3,4])] [])) Tryz.func232 h
def F215 (a0:Value) (w:World) (R:VW):Prop:=
 cL 236 [a0] w λx8 w=>
 LOOPI [4] [vT] w λu3 w n3=>
 BR (u3 4)
 (rN 204 3 x8 w λx11=>
 LOOPI [4,12] [vF,(iV 0)] w λu6 w n6=>
 rC (u6 12) x11 w λx13=>
 BR x13
 (cL 237 [a0,x8,(u6 12)] w λx18 w=>
 rX 204 x8 (u6 12) w λx22=>
 rF 225 x22 1 w λx23=>
 rL 3 x23 w λx24=>
 rB .neq 3 T0 T0 x18 x24 w λx25=>
 BR x25
 (rX 204 x8 (u6 12) w λx29=>
 rF 225 x29 1 w λx30=>
 oS 3 x30 x18 w λw=>
 rI (u6 12) w λx31=>
 n6 [vT,x31] w)
 (rI (u6 12) w λx31=>
 n6 [(u6 4),x31] w))
 (n3 [(u6 4)] w))
 (R x8 w)
theorem F215_call {a0 w R} (h:F215 a0 w R):cL 215 [a0] w R:=co (g:=(kf [] [(3,4294966896,[4]),(6,4294963312,[4,12])] [])) Tryz.func215 h
def F207 (a0:Value) (w:World) (R:VW):Prop:=
 oX 32 a0 w λx1 w=>
 rL 32 x1 w λx7=>
 cL 232 [x7] w λx8 w=>
 LOOPI [4] [vT] w λu3 w n3=>
 BR (u3 4)
 (LOOPI [4,5] [vF,(iV 0)] w λu6 w n6=>
 rF 32 x1 2 w λx11=>
 rL 22 x11 w λx12=>
 rN 22 3 x12 w λx13=>
 rC (u6 5) x13 w λx14=>
 BR x14
 (rL 32 x1 w λx17=>
 cL 233 [x17,x8,(u6 5)] w λx20 w=>
 rX 204 x8 (u6 5) w λx24=>
 rF 225 x24 1 w λx25=>
 rL 3 x25 w λx26=>
 rB .neq 3 T0 T0 x20 x26 w λx27=>
 BR x27
 (rX 204 x8 (u6 5) w λx31=>
 rF 225 x31 1 w λx32=>
 oS 3 x32 x20 w λw=>
 rI (u6 5) w λx16=>
 n6 [vT,x16] w)
 (rI (u6 5) w λx16=>
 n6 [(u6 4),x16] w))
 (n3 [(u6 4)] w))
 (R x8 w)
theorem F207_call {a0 w R} (h:F207 a0 w R):cL 207 [a0] w R:=co (g:=(kf [] [(3,8589934192,[4]),(6,8589933680,[4,5])] [])) Tryz.func207 h
open Rep (rep)
theorem zdY {c:DCode} (hc:CodeR c) {p:Nat} (hp:p<c.procs.length):zdX c p=((zN c p+1:Nat):Int)∧zfc c p=(zN c p:Int)∧zN c p<c.ins.length:=by
 have h:=zkf hc (p:=p) (by rw [hc.2.1.1];exact hp);refine ⟨by omega,?_,h.2.2⟩;rw [zev];omega
theorem zt4 {w W0 W1:World} {b p:Nat} {v1:Value} {c:DCode} {T:Tab} (hW:WL W0 b c) (e0:Ext W0 w) (h1:Is W1 v1 (zgg T)) (e1:Ext W1 w) (hc:CodeR c) (hT:zs7 c T) (hp:p<c.procs.length) :
   CALL tp 237 [.pointer (some ⟨b,0,none⟩),v1,.int .i64 (p:Int)] w λr w'=>Ext w w'∧r=.int .i64 (zdN c T p:Nat):=by
 refine F237_call ?_;unfold F237;obtain ⟨hz1,hz2,hz3⟩:=zdY hc hp;have hil:=hc.f.ins;have h8:=hc.1.procs8;have hxd:=zaj w;generalize World.drew1 w=w1 at *;refine NIL.mk rfl ?_;refine zab zaZ ?_;refine zaa zbq hW.code (e0.t hxd) λv14 h14=>?_;refine (zoj hW (e0.t hxd) h1 (e1.trans hxd) hc hT hp (h:=0) (by omega)).mono ?_;rintro v10 w2 ⟨hx2,ho2⟩;refine ⟨hx2,?_⟩;refine (zc8 h14 ((e0.t hxd).trans hx2) (by omega)).mono ?_;rintro _ w3 ⟨hx3,rfl⟩;rw [hz1];refine zbd (by unfold I64;omega) ?_;rw [show ((zN c p+1:Nat):Int)-1=(zN c p:Int) by omega];refine zac u23 ty3 ho2.is (by rw [zaf,zdM];exact hz3) λb1 o1 hA1=>?_;rw [zaL] at hA1;refine zad ty3 hA1 hx3 λ_=>?_;exact ⟨hxd.t (hx2.t hx3),rfl⟩
theorem zsl {w W0 W1:World} {p:Nat} {v0 v1:Value} {c:DCode} {T:Tab} (h0:Is W0 v0 c) (e0:Ext W0 w) (h1:Is W1 v1 (zgg T)) (e1:Ext W1 w) (hc:CodeR c) (hT:zs7 c T) (hp:p<c.procs.length) :
   CALL tp 233 [v0,v1,.int .i64 (p:Int)] w λr w'=>Ext w w'∧r=.int .i64 (zdN c T p:Nat):=by
 refine F233_call ?_;unfold F233;obtain ⟨hz1,hz2,hz3⟩:=zdY hc hp;have hil:=hc.f.ins;have h8:=hc.1.procs8;refine zbj h0 e0 λw0 hx0 hA=>?_;have hxd:=zaj w0;generalize World.drew1 w0=w1 at *;refine zaa zbq hA hxd λv7 h7=>?_;refine zaa zbq hA hxd λv11 h11=>?_;refine (zhX h7 hxd h1 (e1.trans (hx0.t hxd)) hc hT hp (h:=0) (by omega)).mono ?_;rintro v10 w2 ⟨hx2,ho2⟩;refine ⟨hx2,?_⟩;refine (zeg h11 (hxd.t hx2) (p:=(p:Int)) (by omega) (by omega) hc.2.1.nonneg).mono ?_;rintro _ w3 ⟨hx3,rfl⟩;rw [hz2];refine zac u23 ty3 ho2.is (by rw [zaf,zdM];exact hz3) λb1 o1 hA1=>?_;rw [zaL] at hA1;refine zad ty3 hA1 hx3 λ_=>?_;exact ⟨(hx0.t hxd).trans (hx2.t hx3),rfl⟩
noncomputable def zqT (c:DCode) (k:Nat):Tab:=(List.range k).map λp=>(zeV c p,63)
theorem znb (c:DCode) (k:Nat):zgg (zqT c (k+1))=zgg (zqT c k)++[zs8 (zeV c k,63)]:=by simp [zqT,zgg,List.range_succ]
theorem ziD (c:DCode) (k:Nat):(zgg (zqT c k)).length=k:=by simp [zqT,zgg]
theorem zpz {w:World} (lo hi:Nat) {x:Nat×Nat} (h1:x.1<64) (h2:x.2<64):OwnI lo hi w (.agg #[.int .i64 (x.1:Int),.int .i64 (x.2:Int)]) (zs8 x):=
 ⟨[],zqs (x:=zs8 x) (by unfold zs8 I64;simp only;omega) (by unfold zs8 I64;simp only;omega),by simp⟩
theorem zjT {w W0:World} {b:Nat} {c:DCode} (hW:WAt W0 b c) (e0:Ext W0 w) (hc:CodeR c) :
   CALL tp 236 [.pointer (some ⟨b,0,none⟩)] w λr w'=>Ext w w'∧Own w.heap.size w' r (zgg (zqT c c.procs.length)):=by
 refine F236_call ?_;unfold F236;have h8:=hc.1.procs8;refine NIL.mk rfl ?_;refine zab zaZ ?_;refine zab zbf ?_;refine zaa zb1 (zau hW.wl.code) e0 λv9 h9=>?_;refine zae u22 h9 ?_;refine zam c.procs.length (λk us w'=>∃ v:Value,us=[v,.int .i64 (k:Int)]∧k≤c.procs.length∧Ext w w'∧RowI w.heap.size w'.heap.size 225 w' v (zgg (zqT c k))) 0 (z0 _) ⟨_,rfl,z0 _,Ext.refl _,zcv _ _ _ _⟩ ?_;rintro k mk u w2 hkm ⟨v,hu,hkl,hx2,hr2⟩;obtain ⟨hu1,hu2⟩:=zbL hu;rw [hu1,hu2];refine zag ?_;refine br (λhlt=>?_) (λhge=>?_)
 case refine_2=>
   have:k=c.procs.length:=by omega
   rw [this] at hr2;exact ⟨hx2,hr2.own.own⟩
 have hk:k<c.procs.length:=by omega
 have hs2:=hx2.size;refine (zsk hW (e0.t hx2) hc hk).mono ?_;rintro _ w3 ⟨hx3,rfl⟩;have hs3:=hx3.size;refine zch (cells:=#[.int .i64 (zeV c k:Nat),.int .i64 63]) (by kernel_rfl) ?_;refine zbF (lo2:=w3.heap.size) (hi2:=w3.heap.size) (x:=zs8 (zeV c k,63)) zrh zj8 zxc zwq (by decide) (hr2.ext hx3) (by omega) (zpz _ _ (x:=(zeV c k,63)) zjt (by omega)) (by omega) (by omega) (by rw [zan,ziD];omega) (by rw [ziD];omega) λv54 w9 hc9 hr9=>?_;refine zas ?_;refine ⟨mk-1,by omega,k+1,by omega,v54,rfl,by omega,(hx2.t hx3).chgI hc9 (lr _),?_⟩;rw [znb];exact hr9
theorem zsm {w W0:World} {v0:Value} {c:DCode} (h0:Is W0 v0 c) (e0:Ext W0 w) (hc:CodeR c) :
   CALL tp 232 [v0] w λr w'=>Ext w w'∧Own w.heap.size w' r (zgg (zqT c c.procs.length)):=by
 refine F232_call ?_;unfold F232;have h8:=hc.1.procs8;refine zbj h0 e0 λw0 hx0 hA=>?_;have hs0:=hx0.size;refine zaH (α:=DEffect) zrh zj8 λa w1 hx1 hr1=>?_;have hs1:=hx1.size;refine zam c.procs.length (λk us w'=>∃ v:Value,us=[v,.int .i64 (k:Int)]∧k≤c.procs.length∧Ext w0 w'∧RowI w0.heap.size w'.heap.size 225 w' v (zgg (zqT c k))) 0 (z0 _) ⟨_,rfl,z0 _,hx1,hr1.mono hs1 (lr _)⟩ ?_;rintro k mk u w2 hkm ⟨v,hu,hkl,hx2,hr2⟩;obtain ⟨hu1,hu2⟩:=zbL hu;rw [hu1,hu2];refine zab zbf ?_;refine zaa zb1 (zau hA) hx2 λv9 h9=>?_;refine zae u22 h9 ?_;refine zag ?_;refine br (λhlt=>?_) (λhge=>?_)
 case refine_2=>
   have:k=c.procs.length:=by omega
   rw [this] at hr2;exact ⟨hx0.t hx2,hr2.own.own.mono (by omega)⟩
 have hk:k<c.procs.length:=by omega
 have hs2:=hx2.size;refine zaa zbq hA hx2 λv14 h14=>?_;refine (zqt h14 hx2 hc hk).mono ?_;rintro _ w3 ⟨hx3,rfl⟩;have hs3:=hx3.size;refine zch (cells:=#[.int .i64 (zeV c k:Nat),.int .i64 63]) (by kernel_rfl) ?_;refine zbF (lo2:=w3.heap.size) (hi2:=w3.heap.size) (x:=zs8 (zeV c k,63)) zrh zj8 zxc zwq (by decide) (hr2.ext hx3) (by omega) (zpz _ _ (x:=(zeV c k,63)) zjt (by omega)) (by omega) (by omega) (by rw [zan,ziD];omega) (by rw [ziD];omega) λv54 w9 hc9 hr9=>?_;refine zas ?_;refine ⟨mk-1,by omega,k+1,by omega,v54,rfl,by omega,(hx2.t hx3).chgI hc9 (by omega),?_⟩;rw [znb];exact hr9
structure FE (w1 w:World) (g:Nat) (v:Value) (T:Tab):Prop where
 ext:Ext w1 w
 mine:Mine [g] w v (zgg T)
 g0:w1.heap.size≤g
section
variable {w1 w w':World} {g:Nat} {v:Value} {T:Tab}
theorem FE.step (h:FE w1 w g v T) (hx:Ext w w'):FE w1 w' g v T:=⟨h.ext.trans hx,h.mine.ext hx,h.g0⟩
theorem FE.own (h:FE w1 w g v T):Own w1.heap.size w v (zgg T):=⟨[g],h.mine,λb hb=>by simp only [List.mem_cons,List.not_mem_nil,or_false] at hb;have:=h.g0;omega⟩
theorem FE.make (ho:Own w1.heap.size w v (zgg T)) (hx:Ext w1 w) (hT:T≠[]):∃ g,FE w1 w g v T:=by
 obtain ⟨F,hm,hF⟩:=ho;obtain ⟨b,o,cap,hv,rfl⟩:=zew hm (by intro e;exact hT (List.map_eq_nil_iff.1 e));exact ⟨b,hx,hm,hF b (by simp)⟩
theorem zsn {q m:Nat} {K:World→Prop} (h:FE w1 w g v T) (hT:T≠[]) (hq:q<T.length) (hm:m<64) (k:∀ w',FE w1 w' g v (T.set q ((tbl T q).1,m))→ChgI g (g+1) w w'→K w') :
   RD tp (Instr.indexAt 204 v (.int .i64 (q:Int))) w λa=>RD tp (Instr.fieldAt 225 a 1) w λf=>OPU tp (Instr.storeAt 3 f (.int .i64 (m:Int))) w K:=by
 refine zgd (α:=DEffect) (β:=Int) (sel:=DEffect.gen) (g:=λa y=>⟨a.keep,y⟩) zrh zj8 ziW ty3 (λh=>zkg h) h.mine (by rw [zeA];exact hq) (zbx (v:=m) (by omega)) λw2 F2 hc2 hm2 hF2=>?_
 have hF:F2=[g]:=by
   obtain ⟨b,o,cap,hv,rfl⟩:=zew hm2 (by intro e;have:=congrArg List.length e;rw [List.length_set,zeA] at this;simp only [List.length_nil] at this;omega);have:=hF2 b (by simp);simpa using this
 subst hF;have hcc:=zen hc2;refine k w2 ⟨h.ext.chgI hcc h.g0,?_,h.g0⟩ hcc;rw [zt3];rw [zfj] at hm2;exact hm2
end
theorem zso {c:DCode} (hc:CodeR c):EI c (zqT c c.procs.length):=EI.start c hc
theorem EI.len {c:DCode} {T:Tab} (h:EI c T):T.length=c.procs.length:=h.tab.1
theorem EI.ne {c:DCode} (hc:CodeR c) {T:Tab} (h:EI c T):T≠[]:=λe=>by
 have h1:=h.len;have h2:=hc.1.procs8;rw [e] at h1;simp at h1;omega
structure EP (c:DCode) (T0:Tab) (k:Nat) (ag:Bool) (T:Tab):Prop where
 ei:EI c T
 yes:ag=true→zr2 T<zr2 T0
 no:ag=false→T=T0∧∀ p,p<k→zdN c T0 p=(tbl T0 p).2
theorem EP.set {c:DCode} (hc:CodeR c) {T0 T:Tab} {k:Nat} {ag:Bool} (H:EP c T0 k ag T) (hk:k<c.procs.length) (hne:zdN c T k≠(tbl T k).2):EP c T0 (k+1) true (T.set k ((tbl T k).1,zdN c T k)):=by
 refine ⟨H.ei.upd hc hk,λ_=>?_,λe=>by cases e⟩;have h1:=ztQ (T:=T) (p:=k) (v:=((tbl T k).1,zdN c T k)) (by rw [H.ei.len];exact hk);have h2:=H.ei.le hc hk;simp only at h1;cases ag with
 | true=>have:=H.yes rfl;omega
 | false=>rw [(H.no rfl).1] at h1 h2 hne ⊢;omega
theorem EP.skip {c:DCode} {T0 T:Tab} {k:Nat} {ag:Bool} (H:EP c T0 k ag T) (he:zdN c T k=(tbl T k).2):EP c T0 (k+1) ag T:=
 ⟨H.ei,H.yes,λe=>⟨(H.no e).1,λp hp=>by
   by_cases h:p=k
   · subst h;rw [(H.no e).1] at he;exact he
   exact (H.no e).2 p (by omega)⟩⟩
theorem zqu {w W0:World} {b:Nat} {c:DCode} (hW:WAt W0 b c) (e0:Ext W0 w) (hc:CodeR c) :
   CALL tp 215 [.pointer (some ⟨b,0,none⟩)] w λr w'=>Ext w w'∧Own w.heap.size w' r (zgg (zcV c)):=by
 refine F215_call ?_;unfold F215;have h8:=hc.1.procs8;refine (zjT hW e0 hc).mono ?_;rintro v8 w1 ⟨hx1,ho1⟩;have hE1:=zso hc;obtain ⟨g,hF1⟩:=FE.make ho1 hx1 (hE1.ne hc);generalize zqT c c.procs.length=T at *;refine LOOPI.mk (λm us w'=>∃ (ag:Bool) (T:Tab),us=[.bool ag]∧m=zr2 T+(if ag then 1 else 0)∧FE w w' g v8 T∧EI c T∧(ag=false→∀ p,p<c.procs.length→zdN c T p=(tbl T p).2)) (zr2 T+1) ⟨true,T,rfl,rfl,hF1,hE1,λe=>by cases e⟩ ?_;rintro m u w2 ⟨ag,T,hu,hm,hF2,hE2,hsh⟩;try replace hu:=zbi hu
 rw [hu];refine zbz (λhag=>?_) (λhag=>?_)
 case refine_2=>rw [hE2.fin hc (hsh hag)] at hF2;exact ⟨hF2.ext,hF2.own⟩
 rw [hag,if_pos rfl] at hm;refine zae zrh hF2.mine.is ?_;rw [zeA,hE2.len];refine zam c.procs.length (λk us w'=>∃ (ag:Bool) (T':Tab),us=[.bool ag,.int .i64 (k:Int)]∧k≤c.procs.length∧FE w w' g v8 T'∧EP c T k ag T') 0 (z0 _) ⟨false,T,rfl,z0 _,hF2,hE2,λe=>(by cases e),λ_=>⟨rfl,λp hp=>by omega⟩⟩ ?_;rintro k mk u w3 hkm ⟨ag3,T3,hu,hkl,hF3,hP3⟩;obtain ⟨hu1,hu2⟩:=zbL hu;rw [hu1,hu2];refine zag ?_;refine br (λhlt=>?_) (λhge=>?_)
 case refine_2=>
   refine ⟨zr2 T3+(if ag3 then 1 else 0),?_,ag3,T3,rfl,rfl,hF3,hP3.ei,λe p hp=>?_⟩
   · cases ag3 with
     | true=>have:=hP3.yes rfl;simp;omega
     | false=>rw [(hP3.no rfl).1];simp;omega
   have:=hP3.no e;rw [this.1];exact this.2 p (by omega)
 have hk:k<c.procs.length:=by omega
 refine (zt4 hW.wl (e0.t hF3.ext) hF3.mine.is (Ext.refl _) hc hP3.ei.tab hk).mono ?_;rintro _ w4 ⟨hx4,rfl⟩;have hF4:=hF3.step hx4;have hal:=ziy (T:=T3) hc hk;have hgl:=hP3.ei.tab.2 k;have hkT:k<T3.length:=by rw [hP3.ei.len];exact hk
 refine zac zrh zj8 hF4.mine.is (by rw [zeA];exact hkT) λb1 o1 hA1=>?_;rw [zfj] at hA1;refine zab ziW ?_;refine zad ty3 (zez hA1) (Ext.refl _) λ_=>?_;refine zaB ?_;refine br (λhne=>?_) (λheq=>?_)
 · refine zsn hF4 (hP3.ei.ne hc) hkT hal λw5 hF5 hc5=>?_
   refine zas ?_;exact ⟨mk-1,by omega,k+1,by omega,true,_,rfl,by omega,hF5,hP3.set hc hk λe=>hne (by rw [e];rfl)⟩
 refine zas ?_;exact ⟨mk-1,by omega,k+1,by omega,ag3,T3,rfl,by omega,hF4,hP3.skip (Int.ofNat_inj.1 (Decidable.not_not.1 heq))⟩
theorem zlP {w W0:World} {v0:Value} {c:DCode} (h0:Is W0 v0 c) (e0:Ext W0 w) (hc:CodeR c) :
   CALL tp 207 [v0] w λr w'=>Ext w w'∧Own w.heap.size w' r (zgg (zcV c)):=by
 refine F207_call ?_;unfold F207;have h8:=hc.1.procs8;refine zbj h0 e0 λw0 hx0 hA=>?_;have hs0:=hx0.size;refine zaa zbq hA (Ext.refl _) λv7 h7=>?_;refine (zsm h7 (Ext.refl _) hc).mono ?_;rintro v8 w1 ⟨hx1,ho1⟩;have hE1:=zso hc;obtain ⟨g,hF1⟩:=FE.make ho1 hx1 (hE1.ne hc);generalize zqT c c.procs.length=T at *;refine LOOPI.mk (λm us w'=>∃ (ag:Bool) (T:Tab),us=[.bool ag]∧m=zr2 T+(if ag then 1 else 0)∧FE w0 w' g v8 T∧EI c T∧(ag=false→∀ p,p<c.procs.length→zdN c T p=(tbl T p).2)) (zr2 T+1) ⟨true,T,rfl,rfl,hF1,hE1,λe=>by cases e⟩ ?_;rintro m u w2 ⟨ag,T,hu,hm,hF2,hE2,hsh⟩;try replace hu:=zbi hu
 rw [hu];refine zbz (λhag=>?_) (λhag=>?_)
 case refine_2=>rw [hE2.fin hc (hsh hag)] at hF2;exact ⟨hx0.t hF2.ext,hF2.own.mono (by omega)⟩
 rw [hag,if_pos rfl] at hm;refine zam c.procs.length (λk us w'=>∃ (ag:Bool) (T':Tab),us=[.bool ag,.int .i64 (k:Int)]∧k≤c.procs.length∧FE w0 w' g v8 T'∧EP c T k ag T') 0 (z0 _) ⟨false,T,rfl,z0 _,hF2,hE2,λe=>(by cases e),λ_=>⟨rfl,λp hp=>by omega⟩⟩ ?_;rintro k mk u w3 hkm ⟨ag3,T3,hu,hkl,hF3,hP3⟩;obtain ⟨hu1,hu2⟩:=zbL hu;rw [hu1,hu2];refine zab zbf ?_;refine zaa zb1 (zau hA) hF3.ext λv12 h12=>?_;refine zae u22 h12 ?_;refine zag ?_;refine br (λhlt=>?_) (λhge=>?_)
 case refine_2=>
   refine ⟨zr2 T3+(if ag3 then 1 else 0),?_,ag3,T3,rfl,rfl,hF3,hP3.ei,λe p hp=>?_⟩
   · cases ag3 with
     | true=>have:=hP3.yes rfl;simp;omega
     | false=>rw [(hP3.no rfl).1];simp;omega
   have:=hP3.no e;rw [this.1];exact this.2 p (by omega)
 have hk:k<c.procs.length:=by omega
 refine zaa zbq hA hF3.ext λv17 h17=>?_;refine (zsl h17 hF3.ext hF3.mine.is (Ext.refl _) hc hP3.ei.tab hk).mono ?_;rintro _ w4 ⟨hx4,rfl⟩;have hF4:=hF3.step hx4;have hal:=ziy (T:=T3) hc hk;have hgl:=hP3.ei.tab.2 k;have hkT:k<T3.length:=by rw [hP3.ei.len];exact hk
 refine zac zrh zj8 hF4.mine.is (by rw [zeA];exact hkT) λb1 o1 hA1=>?_;rw [zfj] at hA1;refine zab ziW ?_;refine zad ty3 (zez hA1) (Ext.refl _) λ_=>?_;refine zaB ?_;refine br (λhne=>?_) (λheq=>?_)
 · refine zsn hF4 (hP3.ei.ne hc) hkT hal λw5 hF5 hc5=>?_
   refine zas ?_;exact ⟨mk-1,by omega,k+1,by omega,true,_,rfl,by omega,hF5,hP3.set hc hk λe=>hne (by rw [e];rfl)⟩
 refine zas ?_;exact ⟨mk-1,by omega,k+1,by omega,ag3,T3,rfl,by omega,hF4,hP3.skip (Int.ofNat_inj.1 (Decidable.not_not.1 heq))⟩
def F151 (a0:Value) (w:World) (R:VW):Prop:=
 oX 32 a0 w λx1 w=>
 rF 32 x1 2 w λx10=>
 rL 22 x10 w λx11=>
 rN 22 3 x11 w λx12=>
 oP (Instr.makeSlice 101 x12 x12) w λx13 w=>
 rL 32 x1 w λx15=>
 cL 211 [x15] w λx16 w=>
 rX 101 x13 x16 w λx17=>
 oS 4 x17 vT w λw=>
 rL 32 x1 w λx18=>
 cL 211 [x18] w λx19 w=>
 oP (bS 23 x19) w λx20 w=>
 LOOPI [4,5] [x20,(iV 0)] w λu5 w n5=>
 rN 23 3 (u5 4) w λx23=>
 rC (u5 5) x23 w λx24=>
 BR x24
 ((λw=>rL 32 x1 w λx27=>
 rX 23 (u5 4) (u5 5) w λx30=>
 rL 3 x30 w λx31=>
 cL 152 [x27,x31] w λx32 w=>
 cL 176 [x32] w λx33 w=>
 LOOPI [4,7] [(u5 4),(iV 0)] w λu9 w n9=>
 rN 23 3 x33 w λx36=>
 rC (u9 7) x36 w λx37=>
 BR x37
 ((λw=>rL 32 x1 w λx40=>
 rX 23 x33 (u9 7) w λx43=>
 rL 3 x43 w λx44=>
 cL 212 [x40,x44,(iV 5)] w λx45 w=>
 LOOPI [4,9] [(u9 4),(iV 0)] w λu13 w n13=>
 rN 23 3 x45 w λx48=>
 rC (u13 9) x48 w λx49=>
 BR x49
 (rX 23 x45 (u13 9) w λx55=>
 rL 3 x55 w λx56=>
 rX 101 x13 x56 w λx57=>
 rL 4 x57 w λx58=>
 rT x58 w λx59=>
 BR x59
 (rX 23 x45 (u13 9) w λx63=>
 rL 3 x63 w λx64=>
 rX 101 x13 x64 w λx65=>
 oS 4 x65 vT w λw=>
 rX 23 x45 (u13 9) w λx69=>
 rL 3 x69 w λx70=>
 oP (bS 23 x70) w λx71 w=>
 oP (aP 23 (u13 4) x71) w λx72 w=>
 rI (u13 9) w λx51=>
 n13 [x72,x51] w)
 (rI (u13 9) w λx51=>
 n13 [(u13 4),x51] w))
 (rI (u9 7) w λx39=>
 n9 [(u13 4),x39] w)) (World.drew1 w))
 (rI (u5 5) w λx26=>
 n5 [(u9 4),x26] w)) (World.drew1 w))
 (R x13 w)
theorem F151_call {a0 w R} (h:F151 a0 w R):cL 151 [a0] w R:=co (g:=(kf [] [(5,9444732965739288331248,[4,5]),(9,9444732965722110559120,[4,7]),(13,9444732895370546250256,[4,9])] [(7,[0,1,2,3,4,5,6,7],0),(11,[0,1,2,3,4,5,6],0)])) Tryz.func151 h
def F209 (a0:Value) (w:World) (R:VW):Prop:=
 oX 32 a0 w λx1 w=>
 rL 32 x1 w λx8=>
 cL 151 [x8] w λx9 w=>
 rF 32 x1 2 w λx10=>
 rL 22 x10 w λx11=>
 rN 22 3 x11 w λx12=>
 oP (Instr.makeSlice 101 x12 x12) w λx13 w=>
 LOOPI [5] [(iV 0)] w λu4 w n4=>
 rF 32 x1 2 w λx15=>
 rL 22 x15 w λx16=>
 rN 22 3 x16 w λx17=>
 rC (u4 5) x17 w λx18=>
 BR x18
 (rX 101 x9 (u4 5) w λx23=>
 rL 4 x23 w λx24=>
 rT x24 w λx25=>
 BR x25
 (rI (u4 5) w λx20=>
 n4 [x20] w)
 (rL 32 x1 w λx26=>
 cL 152 [x26,(u4 5)] w λx28 w=>
 LOOPI [7] [(iV 0)] w λu9 w n9=>
 rN 101 3 x28 w λx31=>
 rC (u9 7) x31 w λx32=>
 BR x32
 (rX 101 x13 (u9 7) w λx39=>
 rL 4 x39 w λx40=>
 BR x40
 (rX 101 x13 (u9 7) w λx47=>
 oS 4 x47 vT w λw=>
 rI (u9 7) w λx34=>
 n9 [x34] w)
 (rX 101 x28 (u9 7) w λx44=>
 rL 4 x44 w λx45=>
 rX 101 x13 (u9 7) w λx47=>
 oS 4 x47 x45 w λw=>
 rI (u9 7) w λx34=>
 n9 [x34] w))
 (rI (u4 5) w λx20=>
 n4 [x20] w)))
 (R x13 w)
theorem F209_call {a0 w R} (h:F209 a0 w R):cL 209 [a0] w R:=co (g:=(kf [] [(4,281474976694496,[5]),(9,281474439839872,[7])] [])) Tryz.func209 h
open Rep (rep)
noncomputable def zqU (c:DCode) (p:Nat):List Nat:=zaY c.procs.length (zjq c p 5)
noncomputable def zt5 (c:DCode) (r:Nat):List Nat:=zaY c.procs.length (FromP c r)
noncomputable def zkI (c:DCode) (r:Nat):List Nat:=(zt5 c r).flatMap (zqU c)
theorem zsp {c:DCode} (hc:CodeR c) (q:Nat):RootP c q↔q=zcj c∨RP (zkI c) (zcj c) q:=by
 have hmem:∀ r q,q∈zkI c r↔∃ p,p<c.procs.length∧FromP c r p∧q<c.procs.length∧zjq c p 5 q:=λr q=>by
   unfold zkI zt5 zqU;simp only [List.mem_flatMap,zaJ];exact ⟨λ⟨p,⟨h1,h2⟩,h3,h4⟩=>⟨p,h1,h2,h3,h4⟩,λ⟨p,h1,h2,h3,h4⟩=>⟨p,⟨h1,h2⟩,h3,h4⟩⟩
 constructor
 · intro h
   induction h with
   | main=>exact .inl rfl
   | @spawn r p q h0 h1 h2 hq ih=>
     have hm:=(hmem r q).2 ⟨p,h1.lt (h0.lt hc),h1,hq,h2⟩;rcases ih with rfl | ih
     · exact .inr (.one hm)
     exact .inr (.more ih hm)
 rintro (rfl | h)
 · exact .main
 refine h.keeps (p:=RootP c) .main λi j hi hj=>?_;obtain ⟨p,_,h1,h2,h3⟩:=(hmem i j).1 hj;exact .spawn hi h1 h3 h2
theorem zt6 {α β:Type} {f:α→List β} {L:List α} {i j:Nat} (hi:i<L.length) (hj:j<(f L[i]).length):∃ h:((L.take i).flatMap f).length+j<(L.flatMap f).length,(L.flatMap f)[((L.take i).flatMap f).length+j]=(f L[i])[j]:=by
 have e:L.flatMap f=(L.take i).flatMap f++(f L[i]++(L.drop (i+1)).flatMap f):=by
   rw [←List.flatMap_cons,←List.flatMap_append];congr 1;rw [←List.drop_eq_getElem_cons hi,List.take_append_drop]
 have hlt:((L.take i).flatMap f).length+j<(L.flatMap f).length:=by rw [e];simp only [List.length_append];omega
 refine ⟨hlt,?_⟩
 have:(L.flatMap f)[((L.take i).flatMap f).length+j]?=some (f L[i])[j]:=by
   rw [e,List.getElem?_append_right (by omega),Nat.add_sub_cancel_left,List.getElem?_append_left hj,List.getElem?_eq_getElem hj]
 rw [List.getElem?_eq_getElem hlt] at this;exact Option.some.inj this
theorem zsq {α β:Type} {f:α→List β} {L:List α} {i:Nat} (hi:i<L.length):((L.take (i+1)).flatMap f).length=((L.take i).flatMap f).length+(f L[i]).length:=by
 rw [tk hi,List.flatMap_append,List.length_append];simp
theorem zfk {w W0:World} {v0:Value} {c:DCode} (h0:Is W0 v0 c) (e0:Ext W0 w) (hc:CodeR c) :
   CALL tp 151 [v0] w λr w'=>Ext w w'∧Own w.heap.size w' r (zby c.procs.length (RootP c)):=by
 refine F151_call ?_;unfold F151;have h8:=hc.1.procs8;obtain ⟨hm1,hm2⟩:=zd3 hc;have hR:=zsp hc;have hcn:∀ x,zkI c x=(zt5 c x).flatMap (zqU c):=λ_=>rfl
 have hnl:∀ {i j:Nat},i<c.procs.length→j∈zkI c i→j<c.procs.length∧True:=λ{i j} _ hj=>by
   rw [hcn] at hj;obtain ⟨p,_,h⟩:=List.mem_flatMap.1 hj;exact ⟨(zaJ.1 h).1,trivial⟩
 refine zbj h0 e0 λw1 hx1 hA=>?_;have hs1:=hx1.size;refine zab zbf ?_;refine zaa zb1 (zau hA) (Ext.refl _) λv11 h11=>?_;refine zae u22 h11 ?_;refine zd2 h8.2 (by omega) λw2 hx2 hM2=>?_;have hs2:=hx2.size;refine zaa zbq hA hx2 λv15 h15=>?_;refine (zfY h15 hx2).mono ?_;rintro _ w2a ⟨hx2a,rfl⟩;rw [hm1];have hs2a:=hx2a.size;have hM2a:=hM2.ext hx2a;generalize hn:c.procs.length=n at *;generalize zcj c=a at *;refine zbE (α:=Bool) rfl zcy ty4 hm2 ?_;refine za9 (α:=Bool) rfl ty4 hM2a (by simp) hm2 zbu λw2b hc2 hM2b=>?_;have hc2':ChgI w1.heap.size (w1.heap.size+1) w2a w2b:=hc2.toI λb hb=>by simp only [List.mem_cons,List.not_mem_nil,or_false] at hb;omega
 have hs2b:=hc2'.size;have hM0l:((List.replicate n false).set a true).length=n:=by simp
 have hM0:∀ i,mkd ((List.replicate n false).set a true) i↔i=a:=λi=>by
   rw [zcp (by simp;exact hm2)];exact ⟨λh=>h.resolve_left zbv,.inr⟩
 generalize (List.replicate n false).set a true=M0 at *;have hx12b:Ext w1 w2b:=(hx2.t hx2a).chgI hc2' (by omega);refine zaa zbq hA hx12b λv18 h18=>?_;refine (zfY h18 hx12b).mono ?_;rintro _ w2c ⟨hx2c,rfl⟩;rw [hm1];have hs2c:=hx2c.size;refine zcn (x:=(a:Int)) u23 ty3 z3 (by decide) (zbh (by unfold I64;omega)) λv20 w3 hx3 hr3=>?_;have hs3:=hx3.size;generalize hm:w1.heap.size=m at *;have hW3:WI w1 w3 m n w2c.heap.size w3.heap.size v20 [a] M0:=⟨(((hx2.t hx2a).toI.trans hc2').trans hx2c.toI).trans hx3.toI,hr3,(hM2b.ext hx2c).ext hx3,by omega,by have:=hM2b.lt m (by simp);omega,hs3,Nat.le_refl _⟩;have hfl:∀ x p,p∈zt5 c x→p<n:=λx p hp=>by have:=(zaJ.1 hp).1;omega
 have hfll:∀ x,(zt5 c x).length≤n:=λx=>by have:=za0 (n:=c.procs.length) (p:=FromP c x);rw [hn] at this;unfold zt5;rw [hn];exact this
 have holl:∀ x,(zqU c x).length≤n:=λx=>by have:=za0 (n:=c.procs.length) (p:=zjq c x 5);rw [hn] at this;unfold zqU;rw [hn];exact this
 generalize hnx:zkI c=nx at *;refine zam (1+n) (λh us w'=>∃ (tv:Value) (lo hi:Nat) (L:List Nat) (ms:List Bool),us=[tv,.int .i64 (h:Int)]∧h≤L.length∧WI w1 w' m n lo hi tv L ms∧SInv nx n a M0 ms (L.drop h) h) 0 (z0 _) ⟨v20,_,_,[a],_,rfl,by simp,hW3,SInv.start hM0l hm2⟩ ?_;rintro h mk u w4 hkm ⟨tv,lo,hi,L,ms,hu,hhL,hW4,hS4⟩;obtain ⟨hu1,hu2⟩:=zbL hu;clear hu;rw [hu1,hu2];have hb4:=hS4.bound;rw [List.length_drop] at hb4;refine zae u23 hW4.row.is ?_;rw [zaf];refine zag ?_;refine br (λhlt=>?_) (λhge=>?_)
 case refine_2=>
   have hhe:h=L.length:=by omega
   rw [hhe,List.drop_length] at hS4;have hfin:=hS4.fin λi hi hne=>absurd ((hM0 i).1 hi) hne;have hms:ms=zby n (RootP c):=zbT hS4.len λi hi=>by rw [hfin i,hM0,hR]
   rw [←hms];have hx4:Ext w1 w4:=(Ext.refl w1).chgI hW4.chg (by omega);exact ⟨hx1.t hx4,[m],hW4.mks,λb hb=>by simp only [List.mem_cons,List.not_mem_nil,or_false] at hb;omega⟩
 have hh:h<L.length:=by omega
 have hx5:=zaj w4;have hW5:=hW4.step hx5;generalize World.drew1 w4=w5 at *;have hxa:∀ {w:World} {lo hi tv L ms},WI w1 w m n lo hi tv L ms→Ext w1 w:=λh=>(Ext.refl w1).chgI h.chg (by omega);refine zaa zbq hA (hxa hW5) λv27 h27=>?_;refine zac u23 ty3 (i:=h) hW5.row.is (by rw [zaf];exact hh) λb1 o1 hA1=>?_;rw [zaP] at hA1;refine zad ty3 hA1 (Ext.refl _) λ_=>?_;generalize hx:L[h]=x at *;have hdr:L.drop h=x :: L.drop (h+1):=by rw [List.drop_eq_getElem_cons hh,hx]
 have hxn:x<n:=(hS4.tdo x (by rw [hdr];simp)).2;refine (zfd h27 (hxa hW5) hc (by rw [hn];exact hxn)).mono ?_;rintro _ w6a ⟨hx6a,gf,rfl,hgf,hMf⟩;refine (zex hMf.is (Ext.refl _) (by rw [zak];omega)).mono ?_;rintro v33 w6 ⟨hx6,ho6⟩;have hFr:(λi=>i=x∨RP (zjs c) x i)=FromP c x:=rfl;rw [zak,zfK,hFr] at ho6;have ho6':Own w6a.heap.size w6 v33 (zaI (zt5 c x)):=ho6;have hW6:=(hW5.step hx6a).step hx6;have hI6:=hW5.h3;have hs6a:=hx6a.size;have hs6:=hx6.size;have hS6:SIn2 nx n a M0 ms (L.drop (h+1)) h x 0:=hS4.pop (λi=>by rw [hdr];simp [or_comm]) (by rw [hdr];simp);have hfx:=hfll x;have hflx:=hfl x;have hnxx:nx x=(zt5 c x).flatMap (zqU c):=hcn x;generalize zt5 c x=Fl at *;refine zam Fl.length (λk us w'=>∃ (tv:Value) (lo hi:Nat) (L:List Nat) (ms:List Bool),us=[tv,.int .i64 (k:Int)]∧k≤Fl.length∧h<L.length∧WI w1 w' m n lo hi tv L ms∧SIn2 nx n a M0 ms (L.drop (h+1)) h x ((Fl.take k).flatMap (zqU c)).length∧OwnI w6a.heap.size w6.heap.size w' v33 (zaI Fl)∧(hi≤w6a.heap.size∨w6.heap.size≤lo)∧w6.heap.size≤w'.heap.size) 0 (z0 _) ⟨tv,lo,hi,L,ms,rfl,z0 _,hh,hW6,hS6,ho6'.toI,.inl (by omega),Nat.le_refl _⟩ ?_;rintro k mk9 u w7 hkm9 ⟨tv7,lo7,hi7,L7,ms7,hu,hkl,hh7,hW7,hS7,ho7,hd7,hz7⟩;obtain ⟨hu1,hu2⟩:=zbL hu;clear hu;rw [hu1,hu2];refine zae u23 ho7.is ?_;rw [zaf];refine zag ?_;refine br (λhlt7=>?_) (λhge7=>?_)
 case refine_2=>refine zas ?_;refine ⟨mk-1,by omega,h+1,by omega,tv7,lo7,hi7,L7,ms7,rfl,by omega,hW7,hS7.done ?_⟩;rw [hnxx,show Fl.take k=Fl from List.take_of_length_le (by omega)];exact Nat.le_refl _
 have hk:k<Fl.length:=by omega
 have hx8:=zaj w7;have hW8:=hW7.step hx8;have ho8:=ho7.ext hx8;have hs8:=hx8.size;generalize World.drew1 w7=w8 at *;refine zaa zbq hA (hxa hW8) λv40 h40=>?_;refine zac u23 ty3 (i:=k) ho8.is (by rw [zaf];exact hk) λb2 o2 hA2=>?_;rw [zaP] at hA2;refine zad ty3 hA2 (Ext.refl _) λ_=>?_;have hfp:=λj=>zt6 (f:=zqU c) (L:=Fl) (i:=k) (j:=j) hk;have hfn:=zsq (f:=zqU c) (L:=Fl) (i:=k) hk;have hpn:=hflx _ (List.getElem_mem hk);rw [←hnxx] at hfp;generalize Fl[k]=p at *;refine (zjr h40 (hxa hW8) hc (p:=p) (op:=5) (by rw [hc.2.1.1,hn];exact hpn) (.inr rfl)).mono ?_;rintro v45 w9 ⟨hx9,ho9⟩;have ho9':Own w8.heap.size w9 v45 (zaI (zqU c p)):=ho9;have hW9:=hW8.step hx9;have hs9:=hx9.size;have hop:=holl p;generalize zqU c p=Ol at *;generalize hq0:((Fl.take k).flatMap (zqU c)).length=q0 at *;have hI8:=hW8.h3;refine zam Ol.length (λj us w'=>∃ (tv:Value) (lo hi:Nat) (L:List Nat) (ms:List Bool),us=[tv,.int .i64 (j:Int)]∧j≤Ol.length∧h<L.length∧WI w1 w' m n lo hi tv L ms∧SIn2 nx n a M0 ms (L.drop (h+1)) h x (q0+j)∧OwnI w6a.heap.size w6.heap.size w' v33 (zaI Fl)∧(hi≤w6a.heap.size∨w6.heap.size≤lo)∧OwnI w8.heap.size w9.heap.size w' v45 (zaI Ol)∧(hi≤w8.heap.size∨w9.heap.size≤lo)∧w9.heap.size≤w'.heap.size) 0 (z0 _) ⟨tv7,lo7,hi7,L7,ms7,rfl,z0 _,hh7,hW9,hS7,ho8.ext hx9,hd7,ho9'.toI,.inl hI8,Nat.le_refl _⟩ ?_;rintro j mk13 u w10 hkm13 ⟨tv10,lo10,hi10,L10,ms10,hu,hjl,hh10,hW10,hS10,ho10,hd10,hp10,hd10b,hz10⟩;obtain ⟨hu1,hu2⟩:=zbL hu;rw [hu1,hu2];refine zae u23 hp10.is ?_;rw [zaf];refine zag ?_;refine br (λhlt10=>?_) (λhge10=>?_)
 case refine_2=>refine zas ?_;refine ⟨mk9-1,by omega,k+1,by omega,tv10,lo10,hi10,L10,ms10,rfl,by omega,hh10,hW10,?_,ho10,hd10,by omega⟩;rw [hfn,show Ol.length=j by omega];exact hS10
 have hj:j<Ol.length:=by omega
 obtain ⟨hq,hqe⟩:=hfp j hj
 have hrd:∀ {w:World} {K:Value→Prop} (ho:OwnI w8.heap.size w9.heap.size w v45 (zaI Ol)) (kk:K (.int .i64 (((nx x)[q0+j]:Nat):Int))),RD tp (Instr.indexAt 23 v45 (.int .i64 (j:Int))) w λx37=>RD tp (Instr.loadAt 3 x37) w K:=λho kk=>by
   refine zac u23 ty3 (i:=j) ho.is (by rw [zaf];exact hj) λb1 o1 hA1=>?_;rw [zaP,←hqe] at hA1;exact zad ty3 hA1 (Ext.refl _) λ_=>kk
 have hy:=hnl hxn (List.getElem_mem hq);refine hrd hp10 ?_;have hlen10:=hS10.len;refine zac zcy ty4 hW10.mks.is (by rw [hlen10];exact hy.1) λb3 o3 hA3=>?_;refine zay ty4 hA3 (Ext.refl _) ?_;refine zaX ?_;have hmk10:=zaQ (ms:=ms10) (i:=(nx x)[q0+j]) (by rw [hlen10];exact hy.1);refine zbz (λhf=>?_) (λhf=>?_)
 · have hnm:¬mkd ms10 (nx x)[q0+j]:=by rw [hmk10];simpa using hf
   refine hrd hp10 ?_;refine zbE (α:=Bool) rfl zcy ty4 hy.1 ?_;refine za9 (α:=Bool) rfl ty4 hW10.mks hlen10 hy.1 zbu λw11 hc11 hm11=>?_;have hW11:=hW10.mark hc11 hm11;have hc11':ChgI m (m+1) w10 w11:=hc11.toI λb hb=>by simp only [List.mem_cons,List.not_mem_nil,or_false] at hb;omega
   have hm4:=hW5.mks.lt m (by simp);have ho11:=ho10.chg hc11' (by omega);have hp11:=hp10.chg hc11' (by omega);refine hrd hp11 ?_;have hS11:=hS10.push hq hy.1 hnm;generalize (nx x)[q0+j]=y at *
   have hLb:L10.length≤2+n:=by
     have h1:=hS10.cnt;have h2:=zfv ms10;rw [List.length_drop] at h1;omega
   refine zcS (x:=(y:Int)) u23 ty3 z3 zc3 (by decide) hW11.row (ownI_int 0 0 (by unfold I64;omega)) (by rw [zan,zaf];omega) (by rw [zaf];omega) λv54 w12 lo12 hi12 hc12 hr12 hd12=>?_;have hW12:=hW11.push hc12 hr12 hd12;have hsz11:=hc11'.size;have hsz12:=hc12.size;refine zas ?_;refine ⟨mk13-1,by omega,j+1,by omega,v54,lo12,hi12,L10++[y],_,rfl,by omega,by simp;omega,hW12,?_,ho11.chg hc12 (by omega),by omega,hp11.chg hc12 (by omega),by omega,by omega⟩;rw [List.drop_append_of_le_length (by omega)];exact hS11
 have hnm:mkd ms10 (nx x)[q0+j]:=by rw [hmk10];simpa using hf
 refine zas ?_;exact ⟨mk13-1,by omega,j+1,by omega,tv10,lo10,hi10,L10,ms10,rfl,by omega,hh10,hW10,hS10.skip hq hnm,ho10,hd10,hp10,hd10b,hz10⟩
theorem zf5 {w W0:World} {v0:Value} {c:DCode} (h0:Is W0 v0 c) (e0:Ext W0 w) (hc:CodeR c) :
   CALL tp 209 [v0] w λr w'=>Ext w w'∧Own w.heap.size w' r (zby c.procs.length (UsedP c)):=by
 refine F209_call ?_;unfold F209;have h8:=hc.1.procs8;refine zbj h0 e0 λw1 hx1 hA=>?_;have hs1:=hx1.size;refine zaa zbq hA (Ext.refl _) λv8 h8'=>?_;refine (zfk h8' (Ext.refl _) hc).mono ?_;rintro v9 w2 ⟨hx2,ho2⟩;have hs2:=hx2.size;refine zab zbf ?_;refine zaa zb1 (zau hA) hx2 λv11 h11=>?_;refine zae u22 h11 ?_;refine zd2 h8.2 (by omega) λw3 hx3 hM3=>?_;have hs3:=hx3.size;have ho3:=ho2.toI.ext hx3;have hm3:=hM3.lt _ (List.mem_singleton.2 rfl);have hx13:=hx2.t hx3;generalize hm:w2.heap.size=m at *;rw [zcT c.procs.length (p:=λq=>∃ r,r<0∧RootP c r∧FromP c r q) (λi ⟨j,h,_⟩=>by omega)] at hM3;refine zam c.procs.length (λk us w'=>us=[.int .i64 (k:Int)]∧k≤c.procs.length∧ChgI m (m+1) w3 w'∧Mine [m] w' (.slice (some ⟨m,0,none⟩) c.procs.length c.procs.length) (zby c.procs.length λq=>∃ r,r<k∧RootP c r∧FromP c r q)) 0 (z0 _) ⟨rfl,z0 _,ChgI.refl _,hM3⟩ ?_;rintro k mk u w4 hkm ⟨hu,hkl,hc4,hM4⟩;try replace hu:=zbi hu
 rw [hu];have hx4:Ext w1 w4:=hx13.chgI hc4 (by omega);have ho4:=ho3.chg hc4 (by omega);have hm4:=hM4.lt _ (List.mem_singleton.2 rfl);refine zab zbf ?_;refine zaa zb1 (zau hA) hx4 λv16 h16=>?_;refine zae u22 h16 ?_;refine zag ?_;refine br (λhlt=>?_) (λhge=>?_)
 case refine_2=>
   have hke:k=c.procs.length:=by omega
   have hS:(zby c.procs.length λq=>∃ r,r<k∧RootP c r∧FromP c r q)=zby c.procs.length (UsedP c):=zaN λq _=>
     ⟨λ⟨r,_,h1,h2⟩=>⟨r,h1,h2⟩,λ⟨r,h1,h2⟩=>⟨r,by rw [hke];exact h1.lt hc,h1,h2⟩⟩
   rw [hS] at hM4;exact ⟨hx1.t hx4,[m],hM4,λb hb=>by simp only [List.mem_cons,List.not_mem_nil,or_false] at hb;omega⟩
 have hk:k<c.procs.length:=by omega
 refine zac zcy ty4 (i:=k) ho4.is (by rw [zak];exact hk) λb2 o2 hA2=>?_;refine zay ty4 hA2 (Ext.refl _) ?_;have hmk:=zaF (n:=c.procs.length) (p:=RootP c) (i:=k);rw [zaQ (by rw [zak];exact hk)] at hmk;refine zaX ?_;refine zbz (λhf=>?_) (λhf=>?_)
 · have hnr:¬RootP c k:=λh=>by rw [hmk.2 ⟨hk,h⟩] at hf;cases hf
   refine zas ?_;refine ⟨mk-1,by omega,k+1,by omega,rfl,by omega,hc4,?_⟩
   rw [zaN (q:=λq=>∃ r,r<k∧RootP c r∧FromP c r q) λq _=>⟨λ⟨r,h1,h2,h3⟩=>by
     by_cases e:r=k
     · subst e;exact absurd h2 hnr
     exact ⟨r,by omega,h2,h3⟩,λ⟨r,h1,h2⟩=>⟨r,by omega,h2⟩⟩]
   exact hM4
 have hroot:RootP c k:=(hmk.1 (by simpa using hf)).2;refine zaa zbq hA hx4 λv26 h26=>?_;refine (zfd h26 hx4 hc hk).mono ?_;rintro _ w5 ⟨hx5,gf,rfl,hgf,hMf⟩;have hFr:(λi=>i=k∨RP (zjs c) k i)=FromP c k:=rfl;rw [hFr] at hMf;have ho5:=ho4.ext hx5;have hM5:=hM4.ext hx5;have hc5:=hc4.trans hx5.toI;refine zam c.procs.length (λj us w'=>us=[.int .i64 (j:Int)]∧j≤c.procs.length∧ChgI m (m+1) w5 w'∧Mine [m] w' (.slice (some ⟨m,0,none⟩) c.procs.length c.procs.length) (zby c.procs.length λq=>(∃ r,r<k∧RootP c r∧FromP c r q)∨(q<j∧FromP c k q))) 0 (z0 _) ⟨rfl,z0 _,ChgI.refl _,by rw [zaN (q:=λq=>∃ r,r<k∧RootP c r∧FromP c r q) λq _=>⟨λh=>h.resolve_right λh=>by omega,.inl⟩];exact hM5⟩ ?_;rintro j mj u w6 hjm ⟨hu,hjl,hc6,hM6⟩;try replace hu:=zbi hu
 rw [hu];refine zhW zcy ?_;refine zag ?_;refine br (λhlt6=>?_) (λhge6=>?_)
 case refine_2=>
   refine zas ?_;refine ⟨mk-1,by omega,k+1,by omega,rfl,by omega,hc5.trans hc6,?_⟩
   rw [zaN (q:=λq=>(∃ r,r<k∧RootP c r∧FromP c r q)∨(q<j∧FromP c k q)) λq hq=>⟨λ⟨r,h1,h2,h3⟩=>by
     by_cases e:r=k
     · subst e;exact .inr ⟨by omega,h3⟩
     exact .inl ⟨r,by omega,h2,h3⟩,λh=>h.elim (λ⟨r,h1,h2⟩=>⟨r,by omega,h2⟩) λ⟨_,h⟩=>⟨k,by omega,hroot,h⟩⟩]
   exact hM6
 have hj:j<c.procs.length:=by omega
 have hMf6:Is w6 (.slice (some ⟨gf,0,none⟩) c.procs.length c.procs.length) (zby c.procs.length (FromP c k)):=(hMf.keep λb hb=>by
   simp only [List.mem_cons,List.not_mem_nil,or_false] at hb;subst hb;exact hc6.block b (hMf.lt b (by simp)) (by omega)).is
 refine zac zcy ty4 (i:=j) hM6.is (by rw [zak];exact hj) λb3 o3 hA3=>?_;refine zay ty4 hA3 (Ext.refl _) ?_;have hm1:=zaF (n:=c.procs.length) (p:=λq=>(∃ r,r<k∧RootP c r∧FromP c r q)∨(q<j∧FromP c k q)) (i:=j);have hm2:=zaF (n:=c.procs.length) (p:=FromP c k) (i:=j);rw [zaQ (by rw [zak];exact hj)] at hm1 hm2
 have hst:∀ (bb:Bool),(bb=true↔((∃ r,r<k∧RootP c r∧FromP c r j)∨FromP c k j))→RD tp (Instr.indexAt 101 (.slice (some ⟨m,0,none⟩) c.procs.length c.procs.length) (.int .i64 (j:Int))) w6 λx47=>OPU tp (Instr.storeAt 4 x47 (.bool bb)) w6 λw=>RD tp (bin .add 3 (.tmp 0) (.const undef) (.int .i64 (j:Int)) (.int .i64 1)) w λx34=>∃ m',m'<mj∧∃ k',k'+m'=c.procs.length∧[x34]=[.int .i64 (k':Int)]∧k'≤c.procs.length∧ChgI m (m+1) w5 w∧Mine [m] w (.slice (some ⟨m,0,none⟩) c.procs.length c.procs.length) (zby c.procs.length λq=>(∃ r,r<k∧RootP c r∧FromP c r q)∨(q<k'∧FromP c k q)):=λbb hbb=>by
   refine zbE (α:=Bool) rfl zcy ty4 hj ?_;refine za9 (α:=Bool) rfl ty4 hM6 zak hj zbu λw7 hc7 hm7=>?_;have hc7':ChgI m (m+1) w6 w7:=hc7.toI λb hb=>by simp only [List.mem_cons,List.not_mem_nil,or_false] at hb;omega
   refine zas ?_;refine ⟨mj-1,by omega,j+1,by omega,rfl,by omega,hc6.trans hc7',?_⟩
   have hset:(zby c.procs.length λq=>(∃ r,r<k∧RootP c r∧FromP c r q)∨(q<j∧FromP c k q)).set j bb=zby c.procs.length λq=>(∃ r,r<k∧RootP c r∧FromP c r q)∨(q<j+1∧FromP c k q):=zbT (by rw [List.length_set,zak]) λq hq=>by
     unfold mkd;rw [List.getD_eq_getElem?_getD,List.getElem?_set];by_cases e:j=q
     · subst e
       simp only [zak,hj,if_true,Option.getD_some,hbb];exact ⟨λh=>h.imp id λh=>⟨by omega,h⟩,λh=>h.imp id (·.2)⟩
     rw [if_neg e,←List.getD_eq_getElem?_getD];show mkd _ q↔_;rw [zaF];exact ⟨λ⟨_,h⟩=>h.imp id λh=>⟨by omega,h.2⟩,λh=>⟨hq,h.imp id λh=>⟨by omega,h.2⟩⟩⟩
   rw [←hset];exact hm7
 refine zbz (λhf6=>?_) (λhf6=>?_)
 · refine hst true ⟨λ_=>((hm1.1 hf6).2).imp id (·.2),λ_=>rfl⟩
 refine zac zcy ty4 (i:=j) hMf6 (by rw [zak];exact hj) λb4 o4 hA4=>?_;refine zay ty4 hA4 (Ext.refl _) ?_;refine hst _ ⟨λh=>.inr (hm2.1 h).2,λh=>hm2.2 ⟨hj,h.resolve_left λh=>?_⟩⟩;rw [hm1.2 ⟨hj,.inl h⟩] at hf6;cases hf6
end Go.Proofs.YtifonhplnmpgaaaGreat
