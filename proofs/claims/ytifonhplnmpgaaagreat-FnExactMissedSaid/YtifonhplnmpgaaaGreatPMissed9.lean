/-
  The law FnExactMissed of the given program returns true for every input, and its arguments read afterwards as before: the given statement Rows.FnExactMissedSaid.
-/
import Derived.Test.YtifonhplnmpgaaaGreatPMissed8
set_option linter.unusedVariables false
set_option linter.unusedSimpArgs false
set_option linter.unusedSectionVars false
namespace Go.Proofs.YtifonhplnmpgaaaGreat
open Go Go.Sh Go.Proofs
open Rep (rep)
theorem zov {w w0:World} {v:Value} {l:List DRace} (h:Is w0 v l) (hx:Ext w0 w) (hn:l.length≤1000000000) :
   CALL tp 111 [v] w λr w'=>Ext w w'∧Own w.heap.size w' r (zcO l):=by
 refine F111_call ?_;unfold F111;refine (zmY h hx (by omega)).mono ?_;rintro v1 w1 ⟨hx1,ho1⟩;refine (zpt ho1.toI (by omega)).mono ?_;rintro _ w2 ⟨hc2,ho2⟩;refine (zkD ho2 (by rw [zob];omega)).mono ?_;rintro v3 w3 ⟨hc3,ho3⟩;refine (zpp ho3).mono ?_;rintro v4 w4 ⟨hx4,ho4⟩;rw [zsc] at ho4;exact ⟨((hx1.chgI hc2 (lr _)).chgI hc3 (lr _)).trans hx4,ho4.own⟩
theorem zqO {w W1:World} {F:List Nat} {v v1:Value} {l:List DRace} {x:DRace} (h:Mine F w v l) (h1:Is W1 v1 x) (e1:Ext W1 w) (hn:l.length≤1000000000) :
   CALL tp 98 [v,v1] w λr w'=>Ext w w'∧∃ F',Mine F' w' r (zjI x l)∧∀ b∈F',b∈F∨w.heap.size≤b:=by
 refine F98_call ?_;unfold F98;have hI:=h.is;refine zbj h1 e1 λw1 hx1 hA=>?_;refine JOIN.mk (λus w'=>∃ k:Nat,us=[.int .i64 (k:Int)]∧Ext w1 w'∧k≤l.length∧ahd x l=k) ?_ ?_
 · refine zam l.length (λk us w'=>us=[.int .i64 (k:Int)]∧Ext w1 w'∧k≤l.length∧∀ j (h:j<k) (h2:j<l.length),ltR l[j] x) 0 (z0 _) ⟨rfl,Ext.refl w1,z0 _,λj h=>by omega⟩ ?_
   rintro k mk u w2 hkm ⟨hu,hx2,hkl,hlt⟩;try replace hu:=zbi hu
   rw [hu];have hx3:=zaj w2;have hx23:=hx2.t hx3;generalize World.drew1 w2=w3 at *;refine zae u43 hI ?_;refine zag ?_;refine br (λhk=>?_) (λhk=>?_)
   · have hk':k<l.length:=by omega
     refine zac u43 zbX hI hk' λb1 o1 hA1=>?_;refine zaa zbX hA1 (hx1.t hx23) λv15 h15=>?_;refine zaa zbX hA hx23 λv16 h16=>?_;refine (zjG h15 (hx1.t hx23) h16 hx23).mono ?_;rintro _ w4 ⟨hx4,rfl⟩;refine zbz (λhc=>?_) (λhc=>?_)
     · refine zas ?_
       refine ⟨mk-1,by omega,k+1,by omega,rfl,hx23.t hx4,by omega,λj hj hj2=>?_⟩;by_cases hjk:j<k
       · exact hlt j hjk hj2
       have:j=k:=by omega
       subst this;simpa using hc
     exact ⟨k,rfl,hx23.t hx4,hkl,zm0 hkl (λj hj=>hlt j hj (by omega)) λh=>by simpa using hc⟩
   exact ⟨k,rfl,hx23,hkl,zm0 hkl (λj hj=>hlt j hj (by omega)) λh=>by omega⟩
 rintro u w2 ⟨k,hu,hx2,hkl,hak⟩;try replace hu:=zbi hu
 rw [hu];have hput:=zlK x l;rw [hak] at hput;refine JOIN.mk (λus w'=>Ext w1 w'∧zjI x l=l.take k++(x :: l.drop k)) ?_ ?_
 · have hx3:=zaj w2
   have hx23:=hx2.t hx3;generalize World.drew1 w2=w3 at *;refine zae u43 hI ?_;refine zag ?_;refine br (λhk=>?_) (λhk=>?_)
   · have hk':k<l.length:=by omega
     rw [dif_pos hk'] at hput;refine zac u43 zbX hI hk' λb1 o1 hA1=>?_;refine zaa zbX hA1 (hx1.t hx23) λv15 h15=>?_;refine zaa zbX hA hx23 λv16 h16=>?_;refine zek h15 h16 ?_;refine br (λhc=>?_) (λhc=>?_)
     · rw [if_pos hc] at hput
       have hx:=hx1.t hx23;exact ⟨hx,F,by rw [hput];exact h.ext hx,λb hb=>.inl hb⟩
     rw [if_neg hc] at hput;exact ⟨hx23,hput⟩
   have hk':k=l.length:=by omega
   subst hk';rw [dif_neg (by omega)] at hput;exact ⟨hx23,by rw [hput];simp⟩
 rintro u6 w3 ⟨hx3,hpe⟩;rw [hpe];have hx03:=hx1.t hx3;have hs03:=hx03.size;refine zaH (α:=DRace) u43 zbX λa w4 hx4 hr4=>?_;have hs4:=hx4.size;refine zgo (i:=(k:Int)) u43 zbX hI (by omega) (by omega) λv37 h37=>?_;refine zc6 u43 zbX zre hr4 (lr _) h37 (hx03.t hx4) (by simp [maxLen];omega) (by simp;omega) λv38 w5 hc5 hr5=>?_;have hs5:=hc5.size;have hx5:=(Ext.refl w4).chgI hc5 (lr _);refine zaa zbX hA (hx3.t (hx4.t hx5)) λv40 h40=>?_;refine zbF (lo2:=w5.heap.size) (hi2:=w5.heap.size) u43 zbX z79 zre (by decide) hr5 (by omega) (zdH (h40.ext (hx3.t (hx4.t hx5)))) (lr _) (by omega) (by simp [maxLen];omega) (by simp;omega) λv42 w6 hc6 hr6=>?_;have hs6:=hc6.size;refine zd0 (i:=(k:Int)) u43 zbX hI (by omega) (by omega) λv46 h46=>?_;have hx6:Ext w w6:=(hx03.t (hx4.t hx5)).chgI hc6 (by omega);refine zc6 u43 zbX zre hr6 (by omega) h46 hx6 (by simp [maxLen];omega) (by simp;omega) λv47 w7 hc7 hr7=>?_;have hs7:=hc7.size;refine ⟨hx6.chgI hc7 (by omega),?_⟩;obtain ⟨F',hM,hF⟩:=hr7.own;refine ⟨F',?_,λb hb=>.inr (by have:=hF b hb;omega)⟩;simpa using hM
open Classical in
noncomputable def rc1 (c:DCode) (a b:DTouch):List DRace:=if zdb a b∧zgC c (zaw c a.at_).toNat (zaw c b.at_).toNat then [zdr a b] else []
theorem zvN (c:DCode) (a b:DTouch):(rc1 c a b).length≤1:=by unfold rc1;split<;>simp
noncomputable def zow (c:DCode) (T:List DTouch) (i:Nat):List DRace:=match T.drop i with
 | []=>[]
 | a :: r=>(a :: r).flatMap (rc1 c a)
noncomputable def zf9 (c:DCode) (T:List DTouch) (n:Nat):List DRace:=(List.range n).flatMap (zow c T)
theorem zlY {c:DCode} {T:List DTouch} {i:Nat} (hi:i<T.length):zow c T i=(T.drop i).flatMap (rc1 c T[i]):=by
 unfold zow;rw [List.drop_eq_getElem_cons hi]
theorem zox (c:DCode) (a:DTouch) (L:List DTouch):(L.flatMap (rc1 c a)).length≤L.length:=by
 have:=zf7 (l:=L) (f:=rc1 c a) (B:=1) λb _=>zvN c a b;omega
theorem zsR (c:DCode) (T:List DTouch) (i:Nat):(zow c T i).length≤T.length:=by
 rcases Nat.lt_or_ge i T.length with h | h
 · rw [zlY h]
   have:=zox c T[i] (T.drop i);rw [List.length_drop] at this;omega
 unfold zow;rw [List.drop_eq_nil_of_le h];simp
theorem znn {c:DCode} {T:List DTouch} (hT:T.length≤18000) {n:Nat} (hn:n≤18000):(zf9 c T n).length≤324000000:=by
 have h1:=zf7 (l:=List.range n) (f:=zow c T) (B:=18000) λi _=>Nat.le_trans (zsR c T i) hT;rw [List.length_range] at h1;have:n*18000≤18000*18000:=Nat.mul_le_mul_right _ hn;unfold zf9;omega
theorem zkO (c:DCode) (T:List DTouch) (n:Nat):zf9 c T (n+1)=zf9 c T n++zow c T n:=by
 unfold zf9;rw [List.range_succ,List.flatMap_append];simp
theorem zpJ {c:DCode} (hc:CodeR c):(zl2 c).length≤18000:=zjY hc _ (Nat.le_trans za0 hc.f.ins)
structure TouR (c:DCode) (x:DTouch) (p:Nat):Prop where
 at_:x.at_=(p:Int)
 lt:p<c.ins.length
 met:MetP c p
 h0:0≤x.held
 h1:x.held≤63
theorem zpK {c:DCode} (hc:CodeR c) {x:DTouch} (h:x∈zl2 c):∃ p,TouR c x p:=by
 unfold zl2 at h;obtain ⟨i,hi,hx⟩:=List.mem_flatMap.1 h;obtain ⟨h1,h2⟩:=zd9 hx;have hm:=zcY (zlF c) i;obtain ⟨h3,h4⟩:=zaJ.1 hi;exact ⟨i,h1,h3,h4,by omega,by omega⟩
theorem zvO (c:DCode):(zl2 c).Pairwise λa b=>a.at_≤b.at_:=by
 unfold zl2;refine List.pairwise_flatMap.2 ⟨λi _=>?_,?_⟩
 · refine List.pairwise_iff_forall_sublist.2 λ{a b} h=>?_
   have h1:=zd9 (h.subset (by simp:a∈[a,b]));have h2:=zd9 (h.subset (by simp:b∈[a,b]));rw [h1.1,h2.1];omega
 have hr:(zaY c.ins.length (MetP c)).Pairwise (λa b=>a<b):=by
   unfold zaY;exact List.pairwise_lt_range.filter _
 refine hr.imp λ{i j} hij x hx y hy=>?_;have h1:=zd9 hx;have h2:=zd9 hy;rw [h1.1,h2.1];omega
theorem zkP {c:DCode} {p i j:Nat} (h:zaG c p i) (hj:j∈zaC c i):zaG c p j:=by
 rcases h with rfl | h
 · exact .inr (.one hj)
 exact .inr (h.trans (.one hj))
theorem zpL {c:DCode} (hc:CodeR c) {i:Nat} (h:MetP c i):zeI c i:=by
 induction h with
 | root h=>exact ⟨_,h.lt hc,.inl rfl⟩
 | call h ho _=>exact ⟨_,(zbZ hc (h.lt hc) (.inl ho)).2,.inl rfl⟩
 | next _ _ hj ih=>obtain ⟨p,hp,hl⟩:=ih;exact ⟨p,hp,zkP hl hj⟩
 | back _ _ _ hj ih _=>obtain ⟨p,hp,hl⟩:=ih;exact ⟨p,hp,zkP hl hj⟩
theorem zsS {c:DCode} (hc:CodeR c) {i j:Nat} (hi:MetP c i) (hj:MetP c j):zu2 (rtN c i) (rtN c j) (zos c)↔zgC c (zaw c i).toNat (zaw c j).toNat:=by
 have h1:=zpL hc hi;have h2:=zpL hc hj;have hb:∀ k r,(rtN c k).testBit r=true↔r<c.procs.length∧RtP c k r:=λk r=>zaT
 have hs:∀ r,r<c.procs.length→RootP c r→((zos c).testBit r=false↔¬zd6 c r):=λr hr hR=>by
   have:=zaT (n:=c.procs.length) (p:=λr=>RootP c r∧zd6 c r) (i:=r);unfold zos;constructor
   · intro h hS;rw [this.2 ⟨hr,hR,hS⟩] at h;cases h
   intro h;cases e:(zce (λr=>RootP c r∧zd6 c r) c.procs.length).testBit r
   · rfl
   exact absurd (this.1 e).2.2 h
 constructor
 · rintro ⟨r,t,hr,ht,h⟩
   obtain ⟨hr1,_,hr2,hr3⟩:=(hb _ _).1 hr;obtain ⟨ht1,_,ht2,ht3⟩:=(hb _ _).1 ht;exact ⟨r,t,hr2,ht2,hr3,ht3,h.imp id (hs r hr1 hr2).1⟩
 rintro ⟨r,t,hr2,ht2,hr3,ht3,h⟩;exact ⟨r,t,(hb _ _).2 ⟨hr2.lt hc,h1,hr2,hr3⟩,(hb _ _).2 ⟨ht2.lt hc,h2,ht2,ht3⟩,h.imp id (hs r (hr2.lt hc) hr2).2⟩
def F63 (a0:Value) (w:World) (R:VW):Prop:=
 cL 106 [a0] w λx12 w=>
 cL 107 [a0] w λx15 w=>
 rE x15 0 w λx16=>
 rE x15 1 w λx17=>
 rN 130 3 x12 w λx19=>
 LOOPI [6,20] [(Value.slice none 0 0),(iV 0)] w λu5 w n5=>
 rC (u5 20) x19 w λx21=>
 BR x21
 (rX 130 x12 (u5 20) w λx23=>
 rL 134 x23 w λx24=>
 oP (aL 134) w λx8 w=>
 oS 134 x8 x24 w λw=>
 rD (Instr.sliceAt 130 x12 (some (u5 20)) none none) w λx27=>
 rN 130 3 x27 w λx28=>
 LOOPI [6,29] [(u5 6),(iV 0)] w λu8 w n8=>
 rC (u8 29) x28 w λx30=>
 BR x30
 (rX 130 x27 (u8 29) w λx31=>
 rL 134 x31 w λx32=>
 oP (aL 134) w λx10 w=>
 oS 134 x10 x32 w λw=>
 (λw=>rL 134 x8 w λx33=>
 rL 134 x10 w λx34=>
 cL 108 [x33,x34] w λx35 w=>
 BR x35
 (rF 134 x8 0 w λx38=>
 rL 3 x38 w λx39=>
 rX 23 x16 x39 w λx40=>
 rL 3 x40 w λx41=>
 rF 134 x10 0 w λx43=>
 rL 3 x43 w λx44=>
 rX 23 x16 x44 w λx45=>
 rL 3 x45 w λx46=>
 cL 109 [x41,x46,x17] w λx48 w=>
 BR x48
 (rL 134 x8 w λx51=>
 rL 134 x10 w λx52=>
 cL 110 [x51,x52] w λx53 w=>
 oP (bS 43 x53) w λx54 w=>
 oP (aP 43 (u8 6) x54) w λx55 w=>
 rI (u8 29) w λx56=>
 n8 [x55,x56] w)
 (rI (u8 29) w λx56=>
 n8 [(u8 6),x56] w))
 (rI (u8 29) w λx56=>
 n8 [(u8 6),x56] w)) (World.drew1 w))
 (rI (u5 20) w λx57=>
 n5 [(u8 6),x57] w))
 (cL 111 [(u5 6)] w λx59 w=>
 R x59 w)
theorem F63_call {a0 w R} (h:F63 a0 w R):cL 63 [a0] w R:=co (g:=(kf [] [(5,288230376150664640,[6,20]),(8,144115187538986048,[6,29])] [(10,[0,1,2,3,4,5,6,7,8,9,10,11,12,13,14,15,16],0)])) Tryz.func63 h
def F56 (a0:Value) (w:World) (R:VW):Prop:=
 oX 32 a0 w λx1 w=>
 oP (Instr.buildSlice 43 0 #[]) w λx10 w=>
 rL 32 x1 w λx11=>
 cL 95 [x11] w λx12 w=>
 rL 32 x1 w λx13=>
 cL 96 [x13] w λx14 w=>
 LOOPI [3,6] [x10,(iV 0)] w λu5 w n5=>
 rN 130 3 x12 w λx17=>
 rC (u5 6) x17 w λx18=>
 BR x18
 (LOOPI [3,7] [(u5 3),(u5 6)] w λu8 w n8=>
 rN 130 3 x12 w λx24=>
 rC (u8 7) x24 w λx25=>
 BR x25
 (rX 130 x12 (u5 6) w λx30=>
 rL 134 x30 w λx31=>
 oP (aL 134) w λx8 w=>
 oS 134 x8 x31 w λw=>
 rX 130 x12 (u8 7) w λx34=>
 rL 134 x34 w λx35=>
 oP (aL 134) w λx9 w=>
 oS 134 x9 x35 w λw=>
 (λw=>rF 134 x8 1 w λx36=>
 rL 3 x36 w λx37=>
 rF 134 x9 1 w λx38=>
 rL 3 x38 w λx39=>
 rB .eql 3 T0 T0 x37 x39 w λx40=>
 BR x40
 (rF 134 x8 2 w λx42=>
 rL 4 x42 w λx43=>
 GBR x43
 (rF 134 x8 3 w λx50=>
 rL 3 x50 w λx51=>
 rF 134 x9 3 w λx52=>
 rL 3 x52 w λx53=>
 rB .and 3 T0 T0 x51 x53 w λx54=>
 rQ x54 (iV 0) w λx55=>
 BR x55
 (rL 32 x1 w λx59=>
 rF 134 x8 0 w λx60=>
 rL 3 x60 w λx61=>
 rL 32 x1 w λx65=>
 rF 134 x9 0 w λx66=>
 rL 3 x66 w λx67=>
 (λw_=>cL 97 [x59,x61] w_ λx62 w=>
 Ext w_ w ∧
 rX 99 x14 x62 w λx63=>
 rL 101 x63 w λx64=>
 (λw_=>cL 97 [x65,x67] w_ λx68 w=>
 Ext w_ w ∧
 rX 101 x64 x68 w λx69=>
 rL 4 x69 w λx70=>
 BR x70
 (rF 134 x8 1 w λx73=>
 rL 3 x73 w λx74=>
 rF 134 x8 0 w λx75=>
 rL 3 x75 w λx76=>
 rF 134 x9 0 w λx77=>
 rL 3 x77 w λx78=>
 rD (Instr.build 79 #[(0,x74),(1,x76),(2,x78)]) w λx79=>
 cL 98 [(u8 3),x79] w λx80 w=>
 rI (u8 7) w λx27=>
 n8 [x80,x27] w)
 (rI (u8 7) w λx27=>
 n8 [(u8 3),x27] w)) w) w)
 (rI (u8 7) w λx27=>
 n8 [(u8 3),x27] w))
 (rF 134 x9 2 w λx45=>
 rL 4 x45 w λx46=>
 BR x46
 (rF 134 x8 3 w λx50=>
 rL 3 x50 w λx51=>
 rF 134 x9 3 w λx52=>
 rL 3 x52 w λx53=>
 rB .and 3 T0 T0 x51 x53 w λx54=>
 rQ x54 (iV 0) w λx55=>
 BR x55
 (rL 32 x1 w λx59=>
 rF 134 x8 0 w λx60=>
 rL 3 x60 w λx61=>
 rL 32 x1 w λx65=>
 rF 134 x9 0 w λx66=>
 rL 3 x66 w λx67=>
 (λw_=>cL 97 [x59,x61] w_ λx62 w=>
 Ext w_ w ∧
 rX 99 x14 x62 w λx63=>
 rL 101 x63 w λx64=>
 (λw_=>cL 97 [x65,x67] w_ λx68 w=>
 Ext w_ w ∧
 rX 101 x64 x68 w λx69=>
 rL 4 x69 w λx70=>
 BR x70
 (rF 134 x8 1 w λx73=>
 rL 3 x73 w λx74=>
 rF 134 x8 0 w λx75=>
 rL 3 x75 w λx76=>
 rF 134 x9 0 w λx77=>
 rL 3 x77 w λx78=>
 rD (Instr.build 79 #[(0,x74),(1,x76),(2,x78)]) w λx79=>
 cL 98 [(u8 3),x79] w λx80 w=>
 rI (u8 7) w λx27=>
 n8 [x80,x27] w)
 (rI (u8 7) w λx27=>
 n8 [(u8 3),x27] w)) w) w)
 (rI (u8 7) w λx27=>
 n8 [(u8 3),x27] w))
 (rI (u8 7) w λx27=>
 n8 [(u8 3),x27] w))
 (BR undef
 (rF 134 x8 3 w λx50=>
 rL 3 x50 w λx51=>
 rF 134 x9 3 w λx52=>
 rL 3 x52 w λx53=>
 rB .and 3 T0 T0 x51 x53 w λx54=>
 rQ x54 (iV 0) w λx55=>
 BR x55
 (rL 32 x1 w λx59=>
 rF 134 x8 0 w λx60=>
 rL 3 x60 w λx61=>
 rL 32 x1 w λx65=>
 rF 134 x9 0 w λx66=>
 rL 3 x66 w λx67=>
 (λw_=>cL 97 [x59,x61] w_ λx62 w=>
 Ext w_ w ∧
 rX 99 x14 x62 w λx63=>
 rL 101 x63 w λx64=>
 (λw_=>cL 97 [x65,x67] w_ λx68 w=>
 Ext w_ w ∧
 rX 101 x64 x68 w λx69=>
 rL 4 x69 w λx70=>
 BR x70
 (rF 134 x8 1 w λx73=>
 rL 3 x73 w λx74=>
 rF 134 x8 0 w λx75=>
 rL 3 x75 w λx76=>
 rF 134 x9 0 w λx77=>
 rL 3 x77 w λx78=>
 rD (Instr.build 79 #[(0,x74),(1,x76),(2,x78)]) w λx79=>
 cL 98 [(u8 3),x79] w λx80 w=>
 rI (u8 7) w λx27=>
 n8 [x80,x27] w)
 (rI (u8 7) w λx27=>
 n8 [(u8 3),x27] w)) w) w)
 (rI (u8 7) w λx27=>
 n8 [(u8 3),x27] w))
 (BR undef
 (rF 134 x8 3 w λx50=>
 rL 3 x50 w λx51=>
 rF 134 x9 3 w λx52=>
 rL 3 x52 w λx53=>
 rB .and 3 T0 T0 x51 x53 w λx54=>
 rQ x54 (iV 0) w λx55=>
 BR x55
 (rL 32 x1 w λx59=>
 rF 134 x8 0 w λx60=>
 rL 3 x60 w λx61=>
 rL 32 x1 w λx65=>
 rF 134 x9 0 w λx66=>
 rL 3 x66 w λx67=>
 (λw_=>cL 97 [x59,x61] w_ λx62 w=>
 Ext w_ w ∧
 rX 99 x14 x62 w λx63=>
 rL 101 x63 w λx64=>
 (λw_=>cL 97 [x65,x67] w_ λx68 w=>
 Ext w_ w ∧
 rX 101 x64 x68 w λx69=>
 rL 4 x69 w λx70=>
 BR x70
 (rF 134 x8 1 w λx73=>
 rL 3 x73 w λx74=>
 rF 134 x8 0 w λx75=>
 rL 3 x75 w λx76=>
 rF 134 x9 0 w λx77=>
 rL 3 x77 w λx78=>
 rD (Instr.build 79 #[(0,x74),(1,x76),(2,x78)]) w λx79=>
 cL 98 [(u8 3),x79] w λx80 w=>
 rI (u8 7) w λx27=>
 n8 [x80,x27] w)
 (rI (u8 7) w λx27=>
 n8 [(u8 3),x27] w)) w) w)
 (rI (u8 7) w λx27=>
 n8 [(u8 3),x27] w))
 (rI (u8 7) w λx27=>
 n8 [(u8 3),x27] w))))
 (rI (u8 7) w λx27=>
 n8 [(u8 3),x27] w)) (World.drew1 w))
 (rI (u5 6) w λx20=>
 n5 [(u8 3),x20] w))
 (R (u5 3) w)
theorem F56_call {a0 w R} (h:F56 a0 w R):cL 56 [a0] w R:=co (g:=(kf [] [(5,2417851639229258349380552,[3,6]),(8,2417851639229258345218952,[3,7])] [(12,[0,1,2,3,4,5,6,7,8,9,10,11,12,13,14,15,16,17,18,19,20,21,22,23,24,25,29,30,31,26,27,28,32,33,34,35],4362076160)])) Tryz.func56 h
open Rep (rep)
theorem zug {w W0:World} {b:Nat} {c:DCode} (hW:WAt W0 b c) (e0:Ext W0 w) (hc:CodeR c) :
   CALL tp 63 [.pointer (some ⟨b,0,none⟩)] w λr w'=>Ext w w'∧Own w.heap.size w' r (zcO (zf9 c (zl2 c) (zl2 c).length)):=by
 refine F63_call ?_;unfold F63;refine (zqK hW e0 hc).mono ?_;rintro v12 w1 ⟨hx1,ho1⟩;refine (zqI hW (e0.t hx1) hc).mono ?_;rintro _ wb ⟨hx2,v16,rfl,ho2⟩;refine zbS rfl ?_;refine zbS rfl ?_;have hx1b:=hx1.t hx2;have hTb:=ho1.is.ext hx2;have hRb:=ho2.is;have hTl:=zpJ hc;have hTm:=λx (hx:x∈zl2 c)=>zpK hc hx;generalize zl2 c=T at *;have hs1b:=hx1b.size;have hsg:=zub hc;refine zae zhr hTb ?_;refine zam T.length (λk us w'=>∃ out lo hi,us=[out,.int .i64 (k:Int)]∧k≤T.length∧Ext wb w'∧wb.heap.size≤lo∧hi≤w'.heap.size∧RowI lo hi 79 w' out (zf9 c T k)) 0 (z0 _) ⟨_,wb.heap.size,wb.heap.size,rfl,z0 _,Ext.refl _,lr _,Nat.le_refl _,zcv _ _ _ _⟩ ?_;rintro i mk u w3 hkm ⟨out,lo0,hi0,hu,hkl,hx3,hlo0,hhi0,hr3⟩;obtain ⟨hu1,hu2⟩:=zbL hu;rw [hu1,hu2];refine zag ?_;have hall:=znn (c:=c) hTl (n:=i) (by omega);refine br (λhlt=>?_) (λhge=>?_)
 case refine_2=>
   have hke:i=T.length:=by omega
   rw [hke] at hr3 hall;refine (zov hr3.is (Ext.refl _) (by omega)).mono ?_;rintro r w4 ⟨hx4,ho4⟩;exact ⟨hx1b.t (hx3.t hx4),ho4.mono (by have:=hx3.size;omega)⟩
 have hi:i<T.length:=by omega
 have hrow:=zlY (c:=c) hi;have hsuc:=zkO c T i;obtain ⟨pa,hpa⟩:=hTm T[i] (List.getElem_mem _);refine zac zhr zb2 (i:=i) hTb hi λb4 o4 hA4=>?_;generalize hae:T[i]=a at *;refine zaa zb2 hA4 hx3 λv24 h24=>?_;refine zb7 zpY rfl zb2 rfl h24 hx3 λw4 hx4 hAa hVa=>?_;have hAB4:=zfA h24 hVa rfl;have hgl:w3.heap.size<w4.heap.size:=hVa.lt;have hs4:=hx4.size;refine zd0 (i:=(i:Int)) zhr zb2 hTb (by omega) (by simp;omega) λv27 h27=>?_;rw [Int.toNat_natCast] at h27;have hDl:(T.drop i).length=T.length-i:=List.length_drop;have hDm:∀ x∈T.drop i,∃ p,TouR c x p:=λx hx=>hTm x (List.mem_of_mem_drop hx);generalize T.drop i=D at *;refine zae zhr h27 ?_;refine zam D.length (λj us w'=>∃ out lo hi,us=[out,.int .i64 (j:Int)]∧j≤D.length∧Ext wb w'∧w4.heap.size≤w'.heap.size∧AtB wb w' w3.heap.size 0 a∧wb.heap.size≤lo∧hi≤w'.heap.size∧(w3.heap.size<lo∨hi≤w3.heap.size)∧RowI lo hi 79 w' out (zf9 c T i++(D.take j).flatMap (rc1 c a))) 0 (z0 _) ⟨out,lo0,hi0,rfl,z0 _,hx3.t hx4,lr _,hAB4,hlo0,by omega,.inr hhi0,by simpa using hr3.ext hx4⟩ ?_;rintro j mj u5 w5 hjm ⟨out5,lo,hi5,hu5,hjl,hx5,hs5,hAB5,hlo,hhi,hd,hr5⟩;obtain ⟨hu51,hu52⟩:=zbL hu5;rw [hu51,hu52];refine zag ?_;refine br (λhlt5=>?_) (λhge5=>?_)
 case refine_2=>refine zas ?_;refine ⟨mk-1,by omega,i+1,by omega,out5,lo,hi5,rfl,by omega,hx5,hlo,hhi,?_⟩;rw [List.take_of_length_le (by omega)] at hr5;rw [hsuc,hrow];exact hr5
 have hj:j<D.length:=by omega
 have hfs:=zbA (f:=rc1 c a) hj;have hrl:=zox c a (D.take j);have htl:=List.length_take_le' j D;obtain ⟨pb,hpb⟩:=hDm D[j] (List.getElem_mem _);refine zac zhr zb2 (i:=j) h27 hj λb6 o6 hA6=>?_;generalize hbe:D[j]=bb at *;refine zaa zb2 hA6 hx5 λv32 h32=>?_;refine zb7 zpY rfl zb2 rfl h32 hx5 λw6 hx6 hAb hVb=>?_;have hxd:=zaj w6;have hx56:=hx6.t hxd;have hAbd:=hAb.ext hxd;generalize World.drew1 w6=w7 at *;have hAB7:=hAB5.ext hx56;have hx7:=hx5.t hx56;have hAa7:=hAB7.at hx7;have hr7:=hr5.ext hx56;have hs57:=hx56.size;refine zaa zb2 hAa7 (Ext.refl _) λv33 h33=>?_;refine zaa zb2 hAbd (Ext.refl _) λv34 h34=>?_;refine (zpr h33 (Ext.refl _) h34 (Ext.refl _)).mono ?_;rintro _ w8 ⟨hx8,rfl⟩;have hs78:=hx8.size
 have hno:∀ {w9:World},Ext w7 w9→¬(zdb a bb∧zgC c (zaw c a.at_).toNat (zaw c bb.at_).toNat)→RD tp (bin .add 3 (.tmp 0) (.const undef) (.int .i64 (j:Int)) (.int .i64 1)) w9 λx56=>∃ m',m'<mj∧∃ k',k'+m'=D.length∧∃ out lo hi,[out5,x56]=[out,.int .i64 (k':Int)]∧k'≤D.length∧Ext wb w9∧w4.heap.size≤w9.heap.size∧AtB wb w9 w3.heap.size 0 a∧wb.heap.size≤lo∧hi≤w9.heap.size∧(w3.heap.size<lo∨hi≤w3.heap.size)∧RowI lo hi 79 w9 out (zf9 c T i++(D.take k').flatMap (rc1 c a)):=λhx9 hn=>by
   have:=hx9.size;refine zas ?_;refine ⟨mj-1,by omega,j+1,by omega,out5,lo,hi5,rfl,by omega,hx7.t hx9,by omega,hAB7.ext hx9,hlo,by omega,hd,?_⟩;rw [hfs];have:rc1 c a bb=[]:=by unfold rc1;rw [if_neg hn]
   rw [this,List.append_nil];exact hr7.ext hx9
 refine br (λhcl=>?_) (λhcl=>?_)
 case refine_2=>exact hno hx8 λh=>hcl h.1
 have hRl:∀ i,i<c.ins.length→i<(zaI ((List.range c.ins.length).map (rtN c))).length:=λi hi=>by simp [zaI];exact hi
 have hRg:∀ i (hi:i<(zaI ((List.range c.ins.length).map (rtN c))).length),(zaI ((List.range c.ins.length).map (rtN c)))[i]=((rtN c i:Nat):Int):=λi hi=>by simp [zaI]
 have hx8b:=hx7.t hx8;have hAa8:=hAa7;refine zab zeE ?_;refine zad ty3 (zbY hAa7) hx8 λ_=>?_;rw [hpa.at_];refine zac u23 ty3 (i:=pa) hRb (hRl pa hpa.lt) λb9 o9 hA9=>?_;rw [hRg] at hA9;refine zad ty3 hA9 hx8b λ_=>?_;refine zab zeE ?_;refine zad ty3 (zbY hAbd) hx8 λ_=>?_;rw [hpb.at_];refine zac u23 ty3 (i:=pb) hRb (hRl pb hpb.lt) λb10 o10 hA10=>?_;rw [hRg] at hA10;refine zad ty3 hA10 hx8b λ_=>?_;refine (zud (zsJ hc pa) (zsJ hc pb) hsg).mono ?_;rintro _ w9 ⟨hx9,x,rfl,hx⟩;rw [zsS hc hpa.met hpb.met] at hx;have hpa':zaw c a.at_=zaw c pa:=by rw [hpa.at_]
 have hpb':zaw c bb.at_=zaw c pb:=by rw [hpb.at_]
 have hx79:=hx8.t hx9;refine zbz (λhxt=>?_) (λhxf=>?_)
 case refine_2=>refine hno hx79 λh=>?_;have:=hx.2 (by rw [←hpa',←hpb'];exact h.2);rw [this] at hxf;cases hxf
 have hB:zgC c (zaw c a.at_).toNat (zaw c bb.at_).toNat:=by rw [hpa',hpb'];exact hx.1 hxt
 refine zaa zb2 hAa7 hx79 λv51 h51=>?_;refine zaa zb2 hAbd hx79 λv52 h52=>?_;refine (zmZ h51 hx79 h52 hx79).mono ?_;rintro v53 w10 ⟨hx10,ho10⟩;have hx710:=hx79.t hx10;have hs710:=hx710.size;refine zcS (x:=zdr a bb) u43 zbX z79 zre (by decide) (hr7.ext hx710) (ho10 0 0) (by rw [zan,List.length_append];omega) (by rw [List.length_append];omega) λv55 w11 lo' hi' hc11 hr11 hd11=>?_;have hs11:=hc11.size;have hsb:=hx7.size;refine zas ?_;refine ⟨mj-1,by omega,j+1,by omega,v55,lo',hi',rfl,by omega,(hx7.t hx710).chgI hc11 hlo,by omega,(hAB7.ext hx710).keep (hc11.block _ (by omega) hd),by omega,by omega,by omega,?_⟩;rw [hfs];have:rc1 c a bb=[zdr a bb]:=by unfold rc1;rw [if_pos ⟨hcl,hB⟩]
 rw [this,←List.append_assoc];exact hr11
theorem zsT {w W0:World} {v0:Value} {c:DCode} (h0:Is W0 v0 c) (e0:Ext W0 w) (hc:CodeR c) :
   CALL tp 56 [v0] w λr w'=>Ext w w'∧Own w.heap.size w' r (zcO (zf9 c (zl2 c) (zl2 c).length)):=by
 refine F56_call ?_;unfold F56;have h8:=hc.1.procs8;refine zbj h0 e0 λw1 hx1 hA=>?_;refine zaH (α:=DRace) u43 zbX λa10 w2 hx2 _=>?_;refine zaa zbq hA hx2 λv11 h11=>?_;refine (zsN h11 hx2 hc).mono ?_;rintro v12 w3 ⟨hx3,ho3⟩;refine zaa zbq hA (hx2.t hx3) λv13 h13=>?_;refine (zot h13 (hx2.t hx3) hc).mono ?_;rintro v14 wb ⟨hx4,ho4⟩;have hx1b:=hx2.t (hx3.t hx4);have hTb:=ho3.is.ext hx4;have hGb:=ho4.is;have hTl:=zpJ hc;have hTm:=λx (hx:x∈zl2 c)=>zpK hc hx;have hTp:=zvO c;generalize zl2 c=T at *;have hs1:=hx1.size;have hs1b:=hx1b.size
 have hM0:∀ w:World,Mine [] w (.slice (some a10) 0 0) (zcO (zf9 c T 0)):=λw=>by
   have h:RowG (α:=DRace) [] 79 w (.slice (some a10) 0 0) []:=.inl ⟨some a10,rfl,rfl,rfl⟩;exact ⟨h.own,List.nodup_nil,h.wr⟩
 refine zam T.length (λk us w'=>∃ out F,us=[out,.int .i64 (k:Int)]∧k≤T.length∧Ext wb w'∧Mine F w' out (zcO (zf9 c T k))∧∀ b∈F,wb.heap.size≤b) 0 (z0 _) ⟨_,[],rfl,z0 _,Ext.refl _,hM0 wb,by simp⟩ ?_;rintro i mk u w5 hkm ⟨out,F5,hu,hkl,hx5,hM5,hF5⟩;obtain ⟨hu1,hu2⟩:=zbL hu;rw [hu1,hu2];refine zae zhr hTb ?_;refine zag ?_;have hall:=znn (c:=c) hTl (n:=i) (by omega);refine br (λhlt=>?_) (λhge=>?_)
 case refine_2=>
   have hke:i=T.length:=by omega
   rw [hke] at hM5;exact ⟨hx1.t (hx1b.t hx5),F5,hM5,λb hb=>by have:=hF5 b hb;omega⟩
 have hi:i<T.length:=by omega
 have hrow:=zlY (c:=c) hi;have hsuc:=zkO c T i;obtain ⟨pa,hpa⟩:=hTm T[i] (List.getElem_mem _)
 have hle:∀ j (hj:j<T.length),i≤j→T[i].at_≤T[j].at_:=λj hj hij=>by
   by_cases e:i=j
   · subst e;omega
   exact List.pairwise_iff_getElem.1 hTp i j hi hj (by omega)
 have hDl:(T.drop i).length=T.length-i:=List.length_drop;generalize hae:T[i]=a at *;refine zam T.length (λj us w'=>∃ out F,us=[out,.int .i64 (j:Int)]∧i≤j∧j≤T.length∧Ext wb w'∧Mine F w' out (zcO (zf9 c T i++((T.drop i).take (j-i)).flatMap (rc1 c a)))∧∀ b∈F,wb.heap.size≤b) i (by omega) ⟨out,F5,rfl,lr _,by omega,hx5,by simpa using hM5,hF5⟩ ?_;rintro j mj u6 w6 hjm ⟨out6,F6,hu6,hij,hjl,hx6,hM6,hF6⟩;obtain ⟨hu61,hu62⟩:=zbL hu6;rw [hu61,hu62];refine zae zhr hTb ?_;refine zag ?_;refine br (λhlt6=>?_) (λhge6=>?_)
 case refine_2=>
   have hje:j=T.length:=by omega
   refine zas ?_;refine ⟨mk-1,by omega,i+1,by omega,out6,F6,rfl,by omega,hx6,?_,hF6⟩;rw [List.take_of_length_le (by omega)] at hM6;rw [hsuc,hrow];exact hM6
 have hj:j<T.length:=by omega
 have hjD:j-i<(T.drop i).length:=by omega
 have hDj:(T.drop i)[j-i]=T[j]:=by rw [List.getElem_drop];congr 1;omega
 have hfs:=zbA (f:=rc1 c a) hjD;rw [hDj,show j-i+1=j+1-i by omega] at hfs;have hrl:=zox c a ((T.drop i).take (j-i));have htl:=List.length_take_le' (j-i) (T.drop i);obtain ⟨pb,hpb⟩:=hTm T[j] (List.getElem_mem _);have hlej:=hle j hj hij;refine zac zhr zb2 (i:=i) hTb hi λb7 o7 hA7=>?_;rw [hae] at hA7;refine zaa zb2 hA7 hx6 λv31 h31=>?_;refine zb7 zpY rfl zb2 rfl h31 hx6 λw7 hx7 hAa hVa=>?_;refine zac zhr zb2 (i:=j) hTb hj λb8 o8 hA8=>?_;generalize hbe:T[j]=bb at *;refine zaa zb2 hA8 (hx6.t hx7) λv35 h35=>?_;refine zb7 zpY rfl zb2 rfl h35 (hx6.t hx7) λw8 hx8 hAb hVb=>?_;have hxd:=zaj w8;have hAa9:=hAa.ext (hx8.t hxd);have hAb9:=hAb.ext hxd;have hx69:=hx7.t (hx8.t hxd);generalize World.drew1 w8=w9 at *;have hx9:=hx6.t hx69;have hM9:=hM6.ext hx69
 have hno:∀ {w10:World},Ext w9 w10→¬(zdb a bb∧zgC c (zaw c a.at_).toNat (zaw c bb.at_).toNat)→RD tp (bin .add 3 (.tmp 0) (.const undef) (.int .i64 (j:Int)) (.int .i64 1)) w10 λx27=>∃ m',m'<mj∧∃ k',k'+m'=T.length∧∃ out F,[out6,x27]=[out,.int .i64 (k':Int)]∧i≤k'∧k'≤T.length∧Ext wb w10∧Mine F w10 out (zcO (zf9 c T i++((T.drop i).take (k'-i)).flatMap (rc1 c a)))∧∀ b∈F,wb.heap.size≤b:=λhx10 hn=>by
   refine zas ?_;refine ⟨mj-1,by omega,j+1,by omega,out6,F6,rfl,by omega,by omega,hx9.t hx10,?_,hF6⟩;rw [hfs];have:rc1 c a bb=[]:=by unfold rc1;rw [if_neg hn]
   rw [this,List.append_nil];exact hM9.ext hx10
 refine zab ze6 ?_;refine zad ty3 (zci hAa9) (Ext.refl _) λhg1=>?_;refine zab ze6 ?_;refine zad ty3 (zci hAb9) (Ext.refl _) λ_=>?_;refine zao ?_;refine br (λhgl=>?_) (λhgl=>hno (Ext.refl _) λh=>hgl h.1.1);refine zab zhz ?_;refine zay ty4 (zdB hAa9) (Ext.refl _) ?_;refine zsO (Q:=a.write=true∨bb.write=true) .inl (λhwr=>?_) (λkey hf=>?_)
 case refine_2=>
   refine zab zhz ?_;refine zay ty4 (zdB hAb9) (Ext.refl _) ?_;refine zbz (λh=>key (.inr h)) (λh=>hno (Ext.refl _) λh2=>?_);rcases h2.1.2.1 with h3 | h3
   · rw [h3] at hf;cases hf
   rw [h3] at h;cases h
 obtain ⟨ma,hma⟩:=Int.eq_ofNat_of_zero_le hpa.h0;obtain ⟨mb,hmb⟩:=Int.eq_ofNat_of_zero_le hpb.h0;have h1a:=hpa.h1;have h1b:=hpb.h1;refine zab zhA ?_;refine zad ty3 (zdC hAa9) (Ext.refl _) λ_=>?_;refine zab zhA ?_;refine zad ty3 (zdC hAb9) (Ext.refl _) λ_=>?_;rw [hma,hmb];refine zdW (m:=ma) (n:=mb) (by omega) (by omega) ?_;refine zao ?_
 have hcl:zdb a bb↔(a.global=bb.global∧(a.write=true∨bb.write=true)∧ma &&& mb=0):=by
   unfold zdb;rw [hma,hmb];simp only [Int.toNat_natCast];constructor
   · rintro ⟨h1,h2,_,_,h5⟩;exact ⟨h1,h2,h5⟩
   rintro ⟨h1,h2,h5⟩;exact ⟨h1,h2,⟨by omega,by omega⟩,⟨by omega,by omega⟩,h5⟩
 refine br (λhz=>?_) (λhz=>hno (Ext.refl _) λh=>hz (by rw [(hcl.1 h.1).2.2];rfl));have hC:zdb a bb:=hcl.2 ⟨hgl,hwr,by omega⟩;refine zaa zbq hA (hx1b.t hx9) λv59 h59=>?_;refine zab zeE ?_;refine zad ty3 (zbY hAa9) (Ext.refl _) λhIa=>?_;refine zaa zbq hA (hx1b.t hx9) λv65 h65=>?_;refine zab zeE ?_;refine zad ty3 (zbY hAb9) (Ext.refl _) λhIb=>?_;refine (zd8 (a:=a.at_) h59 (hx1b.t hx9)).mono ?_;rintro _ w10 ⟨hx10,rfl⟩;refine ⟨hx10,?_⟩;obtain ⟨qa,hqa,hpqa,_⟩:=zdO hc hpa.lt;obtain ⟨qb,hqb,hpqb,_⟩:=zdO hc hpb.lt;have hpa':zaw c a.at_=(qa:Int):=by rw [hpa.at_,hpqa]
 have hpb':zaw c bb.at_=(qb:Int):=by rw [hpb.at_,hpqb]
 rw [hpa',hpb'] at hno;simp only [Int.toNat_natCast] at hno;rw [hpa'];have hGl:(zqV c c.procs.length).length=c.procs.length:=by simp [zqV]
 have hx10b:=hx9.t hx10;refine zac u99 zcd (i:=qa) hGb (by rw [hGl];exact hqa) λb11 o11 hA11=>?_;rw [show (zqV c c.procs.length)[qa]'(by rw [hGl];exact hqa)=zby c.procs.length (zgC c qa) by simp only [zqV,List.getElem_map,List.getElem_range]] at hA11;refine zaa zcd hA11 hx10b λv64 h64=>?_;refine (zd8 (a:=bb.at_) h65 (hx1b.t hx10b)).mono ?_;rintro _ w11 ⟨hx11,rfl⟩;refine ⟨hx11,?_⟩;rw [hpb'];have hx11b:=hx10b.t hx11;have hx911:=hx10.t hx11;have hmk:=zaF (n:=c.procs.length) (p:=zgC c qa) (i:=qb);rw [zaQ (by rw [zak];exact hqb)] at hmk;refine zac zcy ty4 (i:=qb) h64 (by rw [zak];exact hqb) λb12 o12 hA12=>?_;refine zay ty4 hA12 hx11b ?_;refine zbz (λht=>?_) (λhf=>hno hx911 λh=>by rw [hmk.2 ⟨hqb,h.2⟩] at hf;cases hf);have hB:=(hmk.1 ht).2;refine zab ze6 ?_;refine zad ty3 (zci hAa9) hx911 λ_=>?_;refine zab zeE ?_;refine zad ty3 (zbY hAa9) hx911 λ_=>?_;refine zab zeE ?_;refine zad ty3 (zbY hAb9) hx911 λ_=>?_;refine zch (cells:=#[.int .i64 a.global,.int .i64 a.at_,.int .i64 bb.at_]) (by kernel_rfl) ?_
 have hro:zdr a bb=⟨a.global,a.at_,bb.at_⟩:=by
   unfold zdr;rw [show min a.at_ bb.at_=a.at_ by omega,show max a.at_ bb.at_=bb.at_ by omega]
 have hIr:Is w11 (.agg #[.int .i64 a.global,.int .i64 a.at_,.int .i64 bb.at_]) (zdr a bb):=by
   rw [hro];exact ziX.2 ⟨rfl,hg1,hIa,hIb⟩
 have hcn:=zjL (zf9 c T i++((T.drop i).take (j-i)).flatMap (rc1 c a));rw [List.length_append] at hcn;refine (zqO (hM9.ext hx911) hIr (Ext.refl _) (by omega)).mono ?_;rintro v80 w12 ⟨hx12,F12,hM12,hF12⟩;refine zas ?_;refine ⟨mj-1,by omega,j+1,by omega,v80,F12,rfl,by omega,by omega,hx11b.t hx12,?_,λb hb=>?_⟩
 · rw [hfs]
   have:rc1 c a bb=[zdr a bb]:=by
     unfold rc1;rw [if_pos ⟨hC,by rw [hpa',hpb'];simpa using hB⟩]
   rw [this,←List.append_assoc,zkE];exact hM12
 rcases hF12 b hb with h | h
 · exact hF6 b h
 have:=hx11b.size;omega
def zdJ (rounds:List (List Int)) (locks:List Int):Prop:=locks=[]∨∃ r∈rounds,∀ x∈locks,x∈r
instance (rounds:List (List Int)) (locks:List Int):Decidable (zdJ rounds locks):=inferInstanceAs (Decidable (locks=[]∨∃ r∈rounds,∀ x∈locks,x∈r))
theorem zno {rounds:List (List Int)} {locks:List Int} {k:Nat} (hk:k<rounds.length) (h:∀ r∈rounds.take k,¬ ∀ x∈locks,x∈r) (c:¬ ∀ x∈locks,x∈rounds[k]):∀ r∈rounds.take (k+1),¬ ∀ x∈locks,x∈r:=by
 intro r hr;rw [tk hk] at hr;rcases List.mem_append.1 hr with hr | hr
 · exact h r hr
 simp only [List.mem_cons,List.not_mem_nil,or_false] at hr;subst hr;exact c
theorem zho {l r:List Int} {j:Nat} (hj:j<l.length):(∀ x∈l.take (j+1),x∈r)↔(∀ x∈l.take j,x∈r)∧l[j]∈r:=by
 rw [tk hj];simp only [List.mem_append,List.mem_cons,List.not_mem_nil,or_false];constructor
 · intro h;exact ⟨λx hx=>h x (.inl hx),h _ (.inr rfl)⟩
 rintro ⟨h1,h2⟩ x (hx | hx)
 · exact h1 x hx
 subst hx;exact h2
def F60 (a0 a1:Value) (w:World) (R:VW):Prop:=
 rN 23 3 a1 w λx9=>
 rQ x9 (iV 0) w λx10=>
 BR x10
 (R vT w)
 (LOOPI [5] [(iV 0)] w λu4 w n4=>
 rN 39 3 a0 w λx13=>
 rC (u4 5) x13 w λx14=>
 BR x14
 (LOOPI [6,7] [vT,(iV 0)] w λu8 w n8=>
 rN 23 3 a1 w λx19=>
 rC (u8 7) x19 w λx20=>
 BR x20
 ((λw=>BR (u8 6)
 (rX 39 a0 (u4 5) w λx27=>
 rL 23 x27 w λx28=>
 rX 23 a1 (u8 7) w λx31=>
 rL 3 x31 w λx32=>
 cL 104 [x28,x32] w λx33 w=>
 rI (u8 7) w λx22=>
 n8 [x33,x22] w)
 (rI (u8 7) w λx22=>
 n8 [vF,x22] w)) (World.drew1 w))
 (BR (u8 6)
 (R vT w)
 (rI (u4 5) w λx16=>
 n4 [x16] w)))
 (R vF w))
theorem F60_call {a0 a1 w R} (h:F60 a0 a1 w R):cL 60 [a0,a1] w R:=co (g:=(kf [] [(4,68719474928,[5]),(8,34359607488,[6,7])] [(10,[0,1,2,3,4,5,6,7,8,9,10,11,12],0)])) Tryz.func60 h
theorem zjZ {w:World} {v0:Value} {W0:World} {rounds:(List (List Int))} {v1:Value} {W1:World} {locks:(List Int)}  (h0:Is W0 v0 rounds) (e0:Ext W0 w) (h1:Is W1 v1 locks) (e1:Ext W1 w)  :
   CALL tp 60 [v0,v1] w λr w'=>Ext w w'∧(r=.bool (decide (zdJ rounds locks))):=by
 refine F60_call ?_;unfold F60;have hln9:=zah h1;refine zae u23 h1 ?_;refine zao ?_;refine br (λc1=>?_) (λc1=>?_)
 · refine ⟨Ext.refl w,?_⟩
   have:locks=[]:=List.eq_nil_of_length_eq_zero (by omega);simp [zdJ,this]
 refine zam (rounds.length) (λk us w'=>us=[.int .i64 (k:Int)]∧Ext w w'∧(∀ r∈rounds.take k,¬ ∀ x∈locks,x∈r)) (0) (by omega) ⟨by simp,Ext.refl w,by simp⟩ ?_;rintro k m4 uu4 w1_ hk4 ⟨hu,η1,hinv⟩;try replace hu:=zbi hu
 try rw [hu]
 try clear hu
 have hln13:=zah h0;refine zae u39 h0 ?_;refine zag ?_;refine br (λc2=>?_) (λc2=>?_)
 · refine zam (locks.length) (λj us w'=>∃ q:Bool,us=[.bool q,.int .i64 (j:Int)]∧Ext w1_ w'∧(q=decide (∀ x∈locks.take j,x∈rounds[k]'(by omega)))) (0) (by omega) ⟨true,by simp,Ext.refl w1_,by simp⟩ ?_
   rintro j m8 uu8 w2_ hk8 ⟨q,hu,η2,hq⟩;obtain ⟨hu0,hu1⟩:=zbL hu;try rw [hu0]
   try rw [hu1]
   try clear hu0 hu1
   have hln19:=zah h1;refine zae u23 h1 ?_;refine zag ?_;refine br (λc3=>?_) (λc3=>?_)
   · have η3:=zaj w2_
     refine zbz (λc4=>?_) (λc4=>?_)
     · refine zac u39 za4 h0 (by omega) λb27 o27 h27=>?_
       refine zaa za4 h27 (e0.t (η1.t (η2.t η3))) λv28 h28=>?_;refine zac u23 ty3 h1 (by omega) λb31 o31 h31=>?_;refine zad ty3 h31 (e1.trans (η1.t (η2.t η3))) λhI32=>?_;refine (zni h28 (e0.t (η1.t (η2.t η3)))).mono ?_;rintro _ w4_ ⟨η4,rfl⟩;refine zas ?_;refine ⟨m8-1,by omega,j+1,by omega,_,rfl,(η2.t (η3.t η4)),?_⟩;rw [hq] at c4;simp only [decide_eq_true_eq] at c4
       have hh:(∀ x∈locks.take (j+1),x∈rounds[k]'(by omega))↔locks[j]'(by omega)∈rounds[k]'(by omega):=by
         rw [zho (show j<locks.length by omega)];exact ⟨And.right,λh=>⟨c4,h⟩⟩
       simp [hh]
     refine zas ?_;refine ⟨m8-1,by omega,j+1,by omega,false,by simp,(η2.t η3),?_⟩;rw [hq] at c4;simp only [decide_eq_false_iff_not] at c4;have:¬ ∀ x∈locks.take (j+1),x∈rounds[k]'(by omega):=λh=>c4 ((zho (show j<locks.length by omega)).1 h).1;simp [this]
   refine zbz (λc5=>?_) (λc5=>?_)
   · refine ⟨(η1.t η2),?_⟩
     have:zdJ rounds locks:=by
       rw [hq,List.take_of_length_le (by omega)] at c5;simp only [decide_eq_true_eq] at c5;exact .inr ⟨_,List.getElem_mem _,c5⟩
     simp [this]
   refine zas ?_;refine ⟨m4-1,by omega,k+1,by omega,by simp,(η1.t η2),?_⟩;rw [hq,List.take_of_length_le (by omega)] at c5;simp only [decide_eq_false_iff_not] at c5;exact zno (by omega) hinv c5
 refine ⟨η1,?_⟩;rw [List.take_of_length_le (by omega)] at hinv
 have:¬zdJ rounds locks:=by
   rintro (h | ⟨r,hr,h⟩)
   · exact c1 (by rw [h];rfl)
   exact hinv r hr h
 simp [this]
def F68 (a0 a1:Value) (w:World) (R:VW):Prop:=
 rN 23 3 a1 w λx11=>
 rQ x11 (iV 0) w λx12=>
 BR x12
 (R vT w)
 (rN 39 3 a0 w λx14=>
 LOOPI [15] [(iV 0)] w λu4 w n4=>
 rC (u4 15) x14 w λx16=>
 BR x16
 (rX 39 a0 (u4 15) w λx17=>
 rL 23 x17 w λx18=>
 rN 23 3 a1 w λx20=>
 LOOPI [7,21] [vT,(iV 0)] w λu8 w n8=>
 rC (u8 21) x20 w λx22=>
 BR x22
 (rX 23 a1 (u8 21) w λx23=>
 rL 3 x23 w λx24=>
 cL 119 [x18,x24] w λx27 w=>
 rT x27 w λx28=>
 BR x28
 (rI (u8 21) w λx29=>
 n8 [vF,x29] w)
 (rI (u8 21) w λx29=>
 n8 [(u8 7),x29] w))
 (BR (u8 7)
 (R vT w)
 (rI (u4 15) w λx31=>
 n4 [x31] w)))
 (R vF w))
theorem F68_call {a0 a1 w R} (h:F68 a0 a1 w R):cL 68 [a0,a1] w R:=co (g:=(kf [] [(4,4294935248,[15]),(8,1071645312,[7,21])] [])) Tryz.func68 h
theorem zj0 {w:World} {v0:Value} {W0:World} {rounds:(List (List Int))} {v1:Value} {W1:World} {locks:(List Int)}  (h0:Is W0 v0 rounds) (e0:Ext W0 w) (h1:Is W1 v1 locks) (e1:Ext W1 w)  :
   CALL tp 68 [v0,v1] w λr w'=>Ext w w'∧(r=.bool (decide (zdJ rounds locks))):=by
 refine F68_call ?_;unfold F68;have hln11:=zah h1;refine zae u23 h1 ?_;refine zao ?_;refine br (λc1=>?_) (λc1=>?_)
 · refine ⟨Ext.refl w,?_⟩
   have:locks=[]:=List.eq_nil_of_length_eq_zero (by omega);simp [zdJ,this]
 have hln14:=zah h0;refine zae u39 h0 ?_;refine zam (rounds.length) (λk us w'=>us=[.int .i64 (k:Int)]∧Ext w w'∧(∀ r∈rounds.take k,¬ ∀ x∈locks,x∈r)) (0) (by omega) ⟨by simp,Ext.refl w,by simp⟩ ?_;rintro k m4 uu4 w1_ hk4 ⟨hu,η1,hinv⟩;try replace hu:=zbi hu
 try rw [hu]
 try clear hu
 refine zag ?_;refine br (λc2=>?_) (λc2=>?_)
 · refine zac u39 za4 h0 (by omega) λb17 o17 h17=>?_
   refine zaa za4 h17 (e0.t η1) λv18 h18=>?_;have hln20:=zah h1;refine zae u23 h1 ?_;refine zam (locks.length) (λj us w'=>∃ q:Bool,us=[.bool q,.int .i64 (j:Int)]∧Ext w1_ w'∧(q=decide (∀ x∈locks.take j,x∈rounds[k]'(by omega)))) (0) (by omega) ⟨true,by simp,Ext.refl w1_,by simp⟩ ?_;rintro j m8 uu8 w2_ hk8 ⟨q,hu,η2,hq⟩;obtain ⟨hu0,hu1⟩:=zbL hu;try rw [hu0]
   try rw [hu1]
   try clear hu0 hu1
   refine zag ?_;refine br (λc3=>?_) (λc3=>?_)
   · refine zac u23 ty3 h1 (by omega) λb23 o23 h23=>?_
     refine zad ty3 h23 (e1.trans (η1.t η2)) λhI24=>?_;refine (zkh h18 (e0.t (η1.t η2))).mono ?_;rintro _ w3_ ⟨η3,rfl⟩;refine zaq ?_;refine br (λc4=>?_) (λc4=>?_)
     · refine zas ?_
       refine ⟨m8-1,by omega,j+1,by omega,false,by simp,(η2.t η3),?_⟩;have:¬ ∀ x∈locks.take (j+1),x∈rounds[k]'(by omega):=λh=>c4 ((zho (show j<locks.length by omega)).1 h).2;simp [this]
     refine zas ?_;refine ⟨m8-1,by omega,j+1,by omega,q,by simp,(η2.t η3),?_⟩;rw [hq];simp only [zho (show j<locks.length by omega),Decidable.not_not.1 c4,and_true]
   refine zbz (λc5=>?_) (λc5=>?_)
   · refine ⟨(η1.t η2),?_⟩
     have:zdJ rounds locks:=by
       rw [hq,List.take_of_length_le (by omega)] at c5;simp only [decide_eq_true_eq] at c5;exact .inr ⟨_,List.getElem_mem _,c5⟩
     simp [this]
   refine zas ?_;refine ⟨m4-1,by omega,k+1,by omega,by simp,(η1.t η2),?_⟩;rw [hq,List.take_of_length_le (by omega)] at c5;simp only [decide_eq_false_iff_not] at c5;exact zno (by omega) hinv c5
 refine ⟨η1,?_⟩;rw [List.take_of_length_le (by omega)] at hinv
 have:¬zdJ rounds locks:=by
   rintro (h | ⟨r,hr,h⟩)
   · exact c1 (by rw [h];rfl)
   exact hinv r hr h
 simp [this]
theorem zgh {l:List DRace} {k:Nat} {y:DRace} (hk:k<l.length) (h:y∉l.take k) (c:¬l[k]=y):y∉l.take (k+1):=by
 rw [tk hk];simp only [List.mem_append,List.mem_cons,List.not_mem_nil,or_false,not_or];exact ⟨h,λe=>c e.symm⟩
def F58 (a0 a1:Value) (w:World) (R:VW):Prop:=
 oX 79 a1 w λx3 w=>
 LOOPI [5] [(iV 0)] w λu2 w n2=>
 rN 43 3 a0 w λx8=>
 rC (u2 5) x8 w λx9=>
 BR x9
 ((λw=>rX 43 a0 (u2 5) w λx14=>
 rL 79 x14 w λx15=>
 rL 79 x3 w λx16=>
 rB .eql 79 T0 T0 x15 x16 w λx17=>
 BR x17
 (R vT w)
 (rI (u2 5) w λx11=>
 n2 [x11] w)) (World.drew1 w))
 (R vF w)
theorem F58_call {a0 a1 w R} (h:F58 a0 a1 w R):cL 58 [a0,a1] w R:=co (g:=(kf [] [(2,262128,[5])] [(4,[0,1,2,3,4,5],0)])) Tryz.func58 h
theorem zj1 {w:World} {v0:Value} {W0:World} {l:(List DRace)} {v1:Value} {W1:World} {y:DRace}  (h0:Is W0 v0 l) (e0:Ext W0 w) (h1:Is W1 v1 y) (e1:Ext W1 w)  :
   CALL tp 58 [v0,v1] w λr w'=>Ext w w'∧(r=.bool (decide (y∈l))):=by
 refine F58_call ?_;unfold F58;refine zar zbX rfl h1 e1 λw1_ η1 hA3 hV3=>?_;refine zam (l.length) (λk us w'=>us=[.int .i64 (k:Int)]∧Ext w1_ w'∧(y∉l.take k)) (0) (by omega) ⟨by simp,Ext.refl w1_,by simp⟩ ?_;rintro k m2 uu2 w2_ hk2 ⟨hu,η2,hinv⟩;try replace hu:=zbi hu
 try rw [hu]
 try clear hu
 have hln8:=zah h0;refine zae u43 h0 ?_;refine zag ?_;refine br (λc1=>?_) (λc1=>?_)
 · have η3:=zaj w2_
   refine zac u43 zbX h0 (by omega) λb14 o14 h14=>?_;refine zaa zbX h14 (e0.t (η1.t (η2.t η3))) λv15 h15=>?_;refine zaR hV3 (η2.t η3) ?_;refine zek h15 h1 ?_;refine br (λc2=>?_) (λc2=>?_)
   · refine ⟨(η1.t (η2.t η3)),?_⟩
     have:y∈l:=c2▸List.getElem_mem _;simp [this]
   refine zas ?_;refine ⟨m2-1,by omega,k+1,by omega,by simp,(η2.t η3),?_⟩;exact zgh (by omega) hinv c2
 refine ⟨(η1.t η2),?_⟩;rw [List.take_of_length_le (by omega)] at hinv;simp [hinv]
def F170 (a0 a1:Value) (w:World) (R:VW):Prop:=
 oX 79 a1 w λx3 w=>
 rN 43 3 a0 w λx7=>
 LOOPI [8] [(iV 0)] w λu2 w n2=>
 rC (u2 8) x7 w λx9=>
 BR x9
 ((λw=>rL 79 x3 w λx11=>
 rX 43 a0 (u2 8) w λx14=>
 rL 79 x14 w λx15=>
 rB .eql 79 T0 T0 x11 x15 w λx16=>
 BR x16
 (R (u2 8) w)
 (rI (u2 8) w λx18=>
 n2 [x18] w)) (World.drew1 w))
 (R (iV (-1)) w)
theorem F170_call {a0 a1 w R} (h:F170 a0 a1 w R):cL 170 [a0,a1] w R:=co (g:=(kf [] [(2,524080,[8])] [(4,[0,1,2,3,4,5],0)])) Tryz.func170 h
theorem znp {w:World} {v0:Value} {W0:World} {l:(List DRace)} {v1:Value} {W1:World} {y:DRace}  (h0:Is W0 v0 l) (e0:Ext W0 w) (h1:Is W1 v1 y) (e1:Ext W1 w)  :
   CALL tp 170 [v0,v1] w λr w'=>Ext w w'∧(∃ n:Int,r=.int .i64 n∧(0≤n↔y∈l)):=by
 refine F170_call ?_;unfold F170;refine zar zbX rfl h1 e1 λw1_ η1 hA3 hV3=>?_;have hln7:=zah h0;refine zae u43 h0 ?_;refine zam (l.length) (λk us w'=>us=[.int .i64 (k:Int)]∧Ext w1_ w'∧(y∉l.take k)) (0) (by omega) ⟨by simp,Ext.refl w1_,by simp⟩ ?_;rintro k m2 uu2 w2_ hk2 ⟨hu,η2,hinv⟩;try replace hu:=zbi hu
 try rw [hu]
 try clear hu
 refine zag ?_;refine br (λc1=>?_) (λc1=>?_)
 · have η3:=zaj w2_
   refine zaR hV3 (η2.t η3) ?_;refine zac u43 zbX h0 (by omega) λb14 o14 h14=>?_;refine zaa zbX h14 (e0.t (η1.t (η2.t η3))) λv15 h15=>?_;refine zek h1 h15 ?_;refine br (λc2=>?_) (λc2=>?_)
   · refine ⟨(η1.t (η2.t η3)),?_⟩
     have:y∈l:=c2▸List.getElem_mem _;exact ⟨_,rfl,by simp [this]⟩
   refine zas ?_;refine ⟨m2-1,by omega,k+1,by omega,by simp,(η2.t η3),?_⟩;exact zgh (by omega) hinv (λe=>c2 e.symm)
 refine ⟨(η1.t η2),?_⟩;rw [List.take_of_length_le (by omega)] at hinv;exact ⟨-1,rfl,by simp [hinv]⟩
def F115 (a0 a1:Value) (w:World) (R:VW):Prop:=
 oX 79 a1 w λx3 w=>
 rL 79 x3 w λx6=>
 cL 170 [a0,x6] w λx7 w=>
 rB .geq 3 T0 U0 x7 (iV 0) w λx8=>
 R x8 w
theorem F115_call {a0 a1 w R} (h:F115 a0 a1 w R):cL 115 [a0,a1] w R:=co (g:=(kf [] [] [])) Tryz.func115 h
theorem zj2 {w:World} {v0:Value} {W0:World} {l:(List DRace)} {v1:Value} {W1:World} {y:DRace}  (h0:Is W0 v0 l) (e0:Ext W0 w) (h1:Is W1 v1 y) (e1:Ext W1 w)  :
   CALL tp 115 [v0,v1] w λr w'=>Ext w w'∧(r=.bool (decide (y∈l))):=by
 refine F115_call ?_;unfold F115;refine zar zbX rfl h1 e1 λw1_ η1 hA3 hV3=>?_;refine zaR hV3 (Ext.refl w1_) ?_;refine (znp h0 (e0.t η1) h1 (e1.trans η1)).mono ?_;rintro _ w2_ ⟨η2,n7,rfl,hn7⟩;refine zb0 ?_;refine ⟨(η1.t η2),?_⟩;simp [hn7]
def F65 (a0 a1:Value) (w:World) (R:VW):Prop:=
 oX 79 a1 w λx3 w=>
 rL 79 x3 w λx6=>
 cL 115 [a0,x6] w λx7 w=>
 R x7 w
theorem F65_call {a0 a1 w R} (h:F65 a0 a1 w R):cL 65 [a0,a1] w R:=co (g:=(kf [] [] [])) Tryz.func65 h
theorem zj3 {w:World} {v0:Value} {W0:World} {l:(List DRace)} {v1:Value} {W1:World} {y:DRace}  (h0:Is W0 v0 l) (e0:Ext W0 w) (h1:Is W1 v1 y) (e1:Ext W1 w)  :
   CALL tp 65 [v0,v1] w λr w'=>Ext w w'∧(r=.bool (decide (y∈l))):=by
 refine F65_call ?_;unfold F65;refine zar zbX rfl h1 e1 λw1_ η1 hA3 hV3=>?_;refine zaR hV3 (Ext.refl w1_) ?_;refine (zj2 h0 (e0.t η1) h1 (e1.trans η1)).mono ?_;rintro _ w2_ ⟨η2,rfl⟩;refine ⟨(η1.t η2),?_⟩;rfl
def zxf {α β:Type} [Rep α] [Rep β] (w w':World) (r:Value) (x:α) (y:β):Prop:=∃ a b lo hi lo2 hi2,r=.tuple #[a,b]∧OwnI lo hi w' a x∧OwnI lo2 hi2 w' b y∧w.heap.size≤lo∧w.heap.size≤lo2∧hi≤w'.heap.size∧hi2≤w'.heap.size∧(hi≤lo2∨hi2≤lo)
def F29 (a0 a1:Value) (w:World) (R:VW):Prop:=
 oX 32 a0 w λx2 w=>
 oX 53 a1 w λx3 w=>
 rL 32 x2 w λx16=>
 cL 42 [x16] w λx17 w=>
 rE x17 0 w λx18=>
 rE x17 1 w λx19=>
 rT x19 w λx21=>
 BR x21
 (R (Value.tuple #[(Value.slice none 0 0),(Value.slice none 0 0)]) w)
 (rL 32 x2 w λx23=>
 rL 53 x3 w λx24=>
 cL 62 [x23,x24] w λx25 w=>
 rT x25 w λx26=>
 BR x26
 (R (Value.tuple #[(Value.slice none 0 0),(Value.slice none 0 0)]) w)
 (cL 63 [x18] w λx29 w=>
 rL 32 x2 w λx30=>
 rL 53 x3 w λx31=>
 cL 64 [x30,x31] w λx32 w=>
 rN 43 3 x32 w λx33=>
 LOOPI [9,34] [(Value.slice none 0 0),(iV 0)] w λu7 w n7=>
 rC (u7 34) x33 w λx35=>
 BR x35
 (rX 43 x32 (u7 34) w λx36=>
 rL 79 x36 w λx37=>
 oP (aL 79) w λx11 w=>
 oS 79 x11 x37 w λw=>
 rL 79 x11 w λx39=>
 cL 65 [x29,x39] w λx40 w=>
 rT x40 w λx41=>
 BR x41
 (rL 79 x11 w λx43=>
 oP (bS 43 x43) w λx44 w=>
 oP (aP 43 (u7 9) x44) w λx45 w=>
 rI (u7 34) w λx46=>
 n7 [x45,x46] w)
 (rI (u7 34) w λx46=>
 n7 [(u7 9),x46] w))
 (cL 43 [x18] w λx48 w=>
 rF 53 x3 2 w λx49=>
 rL 39 x49 w λx50=>
 rN 39 3 x50 w λx51=>
 LOOPI [52] [(iV 0)] w λu14 w n14=>
 rC (u14 52) x51 w λx53=>
 BR x53
 (rL 32 x2 w λx55=>
 rL 53 x3 w λx56=>
 cL 67 [x55,x56,(u14 52)] w λx58 w=>
 cL 66 [x58] w λx59 w=>
 cL 68 [x48,x59] w λx62 w=>
 rT x62 w λx63=>
 BR x63
 (R (Value.tuple #[(u7 9),x59]) w)
 (rI (u14 52) w λx66=>
 n14 [x66] w))
 (R (Value.tuple #[(u7 9),(Value.slice none 0 0)]) w))))
theorem F29_call {a0 a1 w R} (h:F29 a0 a1 w R):cL 29 [a0,a1] w R:=co (g:=(kf [] [(7,140720308488704,[9,34]),(14,147569448990049067056,[52])] [])) Tryz.func29 h
def F27 (a0 a1:Value) (w:World) (R:VW):Prop:=
 oX 32 a0 w λx2 w=>
 oX 53 a1 w λx3 w=>
 oP (Instr.buildSlice 43 0 #[]) w λx13 w=>
 rL 32 x2 w λx14=>
 rL 53 x3 w λx15=>
 cL 55 [x14,x15] w λx16 w=>
 rT x16 w λx17=>
 BR x17
 (oP (Instr.buildSlice 23 0 #[]) w λx19 w=>
 R (Value.tuple #[x13,x19]) w)
 (rL 32 x2 w λx20=>
 cL 56 [x20] w λx21 w=>
 rL 32 x2 w λx22=>
 rL 53 x3 w λx23=>
 cL 57 [x22,x23] w λx24 w=>
 LOOPI [6,9] [x13,(iV 0)] w λu7 w n7=>
 rN 43 3 x24 w λx27=>
 rC (u7 9) x27 w λx28=>
 BR x28
 (rX 43 x24 (u7 9) w λx34=>
 rL 79 x34 w λx35=>
 cL 58 [x21,x35] w λx36 w=>
 rT x36 w λx37=>
 BR x37
 (rX 43 x24 (u7 9) w λx41=>
 rL 79 x41 w λx42=>
 oP (bS 43 x42) w λx43 w=>
 oP (aP 43 (u7 6) x43) w λx44 w=>
 rI (u7 9) w λx30=>
 n7 [x44,x30] w)
 (rI (u7 9) w λx30=>
 n7 [(u7 6),x30] w))
 (rL 32 x2 w λx45=>
 cL 36 [x45] w λx46 w=>
 LOOPI [11] [(iV 0)] w λu13 w n13=>
 rF 53 x3 2 w λx48=>
 rL 39 x48 w λx49=>
 rN 39 3 x49 w λx50=>
 rC (u13 11) x50 w λx51=>
 BR x51
 (rL 32 x2 w λx54=>
 rL 53 x3 w λx55=>
 cL 59 [x54,x55,(u13 11)] w λx57 w=>
 cL 60 [x46,x57] w λx60 w=>
 rT x60 w λx61=>
 BR x61
 (R (Value.tuple #[(u7 6),x57]) w)
 (rI (u13 11) w λx53=>
 n13 [x53] w))
 (oP (Instr.buildSlice 23 0 #[]) w λx65 w=>
 R (Value.tuple #[(u7 6),x65]) w)))
theorem F27_call {a0 a1 w R} (h:F27 a0 a1 w R):cL 27 [a0,a1] w R:=co (g:=(kf [] [(7,35184338534976,[6,9]),(13,18446603336221202480,[11])] [])) Tryz.func27 h
open Rep (rep)
noncomputable def rcs (c:DCode):List DRace:=zcO (zf9 c (zl2 c) (zl2 c).length)
noncomputable def zim (c:DCode) (s:DState) (k:Nat):List DRace:=((zem c s).take k).filter λx=>decide (x∉rcs c)
theorem znq {c:DCode} {s:DState} {k:Nat} (hk:k<(zem c s).length) (h:(zem c s)[k]∉rcs c):zim c s (k+1)=zim c s k++[(zem c s)[k]]:=by
 unfold zim;rw [tk hk,List.filter_append];simp [h]
theorem zpM {c:DCode} {s:DState} {k:Nat} (hk:k<(zem c s).length) (h:(zem c s)[k]∈rcs c):zim c s (k+1)=zim c s k:=by
 unfold zim;rw [tk hk,List.filter_append];simp [h]
theorem zj4 (c:DCode) (s:DState) (k:Nat):(zim c s k).length≤k:=Nat.le_trans (List.length_filter_le _ _) (by rw [List.length_take];omega)
def zdp (c:DCode) (s:DState) (t:Nat):Prop:=zdJ ((zid c).map zaI) (zbn (zhb c s (t:Int)))
noncomputable instance (c:DCode) (s:DState) (t:Nat):Decidable (zdp c s t):=by unfold zdp;infer_instance
noncomputable def zoy (c:DCode) (s:DState):List Int:=match (List.range s.stacks.length).find? λt=>decide (¬zdp c s t) with
 | some t=>zbn (zhb c s (t:Int))
 | none=>[]
theorem zkQ {c:DCode} {s:DState} (h:∀ t,t<s.stacks.length→zdp c s t):zoy c s=[]:=by
 unfold zoy
 have:(List.range s.stacks.length).find? (λt=>decide (¬zdp c s t))=none:=by
   rw [List.find?_eq_none];intro t ht;simp [h t (List.mem_range.1 ht)]
 rw [this]
theorem zkR {c:DCode} {s:DState} {t:Nat} (ht:t<s.stacks.length) (hn:¬zdp c s t) (h:∀ j,j<t→zdp c s j):zoy c s=zbn (zhb c s (t:Int)):=by
 unfold zoy
 have:(List.range s.stacks.length).find? (λt=>decide (¬zdp c s t))=some t:=by
   cases e:(List.range s.stacks.length).find? (λt=>decide (¬zdp c s t)) with
   | none=>
     rw [List.find?_eq_none] at e;exact absurd (by simpa using e t (List.mem_range.2 ht)) hn
   | some j=>
     have hj:=List.find?_some e;simp only [decide_eq_true_eq] at hj;have hjm:=List.mem_range.1 (List.mem_of_find?_eq_some e);rw [List.find?_eq_some_iff_append] at e;obtain ⟨_,l1,l2,hr,ha⟩:=e;have h1:(List.range s.stacks.length)[l1.length]?=some j:=by rw [hr];simp
     have h2:l1.length=j:=by
       obtain ⟨h3,h4⟩:=List.getElem?_eq_some_iff.1 h1;simpa using h4
     rcases Nat.lt_trichotomy t j with hl | rfl | hl
     · exfalso
       have h3:t∈l1:=by
         have h4:(List.range s.stacks.length)[t]?=some t:=by simp [ht]
         rw [hr,List.getElem?_append_left (by omega)] at h4;exact List.mem_of_getElem? h4
       simpa [hn] using ha t h3
     · rfl
     exact absurd (h j hl) hj
 rw [this]
open Classical in
noncomputable def zep (c:DCode) (s:DState):List DRace:=if CodeR c∧zbc c s then zim c s (zem c s).length else []
open Classical in
noncomputable def zeq (c:DCode) (s:DState):List Int:=if CodeR c∧zbc c s then zoy c s else []
theorem zsU (c:DCode) (s:DState):(zoy c s).length≤64:=by
 unfold zoy;split
 · exact zdA _ 64
 simp
theorem zoz (c:DCode) (s:DState):(zep c s).length≤5184:=by
 unfold zep;split
 · rename_i h;exact Nat.le_trans (zj4 _ _ _) (zjM s h.1 h.2)
 simp
theorem zoA (c:DCode) (s:DState):(zeq c s).length≤64:=by
 unfold zeq;split
 · exact zsU c s
 simp
theorem zhp {w W0 W1:World} {v0 v1:Value} {c:DCode} {s:DState} (h0:Is W0 v0 c) (e0:Ext W0 w) (h1:Is W1 v1 s) (e1:Ext W1 w) :
   CALL tp 29 [v0,v1] w λr w'=>Ext w w'∧zxf w w' r (zep c s) (zeq c s):=by
 refine F29_call ?_;unfold F29;refine zbj h0 e0 λwa hxa hA=>?_;refine zbj h1 (e1.trans hxa) λwb hxb hB=>?_;have hAb:=hA.ext hxb;refine zaa zbq hAb (Ext.refl _) λv16 h16=>?_;refine (zqy h16 (Ext.refl _)).mono ?_;rintro r17 w2 ⟨hx2,hr⟩;have hxw2:=(hxa.t hxb).trans hx2;have hs2:=hxw2.size
 have hno:¬(CodeR c∧zbc c s)→∀ w9,Ext w2 w9→Ext w w9∧zxf w w9 (.tuple #[.slice none 0 0,.slice none 0 0]) (zep c s) (zeq c s):=λh w9 hx9=>by
   have hs9:=hx9.size;refine ⟨hxw2.t hx9,_,_,w.heap.size,w.heap.size,w.heap.size,w.heap.size,rfl,?_,?_,lr _,Nat.le_refl _,by omega,by omega,.inl (lr _)⟩
   · unfold zep;rw [if_neg h];exact zk2
   unfold zeq;rw [if_neg h];exact zk2
 rcases hr with ⟨hn,rfl⟩ | ⟨hc,b,rfl,hW⟩
 · refine zbS rfl ?_
   refine zbS rfl ?_;refine zaX ?_;refine zbz (λ_=>?_) (λh=>by cases h);exact hno (λh=>hn h.1) _ (Ext.refl _)
 refine zbS rfl ?_;refine zbS rfl ?_;refine zaX ?_;refine zbz (λh=>by cases h) (λ_=>?_);refine zaa zbq hAb hx2 λv23 h23=>?_;refine zaa zik hB hx2 λv24 h24=>?_;refine (zlv h23 hx2 h24 hx2 hc).mono ?_;rintro _ w3 ⟨hx3,rfl⟩;refine zaq ?_;refine br (λhn=>hno (λh=>hn h.2) _ hx3) (λhy=>?_);have hs:=Decidable.not_not.1 hy;have hyes:CodeR c∧zbc c s:=⟨hc,hs⟩;refine (zug hW hx3 hc).mono ?_;rintro v29 w4 ⟨hx4,ho4⟩;change Own w3.heap.size w4 v29 (rcs c) at ho4;have hxb4:=(hx2.t hx3).trans hx4;refine zaa zbq hAb hxb4 λv30 h30=>?_;refine zaa zik hB hxb4 λv31 h31=>?_;refine (zou h30 hxb4 h31 hxb4 hc hs).mono ?_;rintro v32 w5 ⟨hx5,ho5⟩;have hml:=zjM s hc hs;have hxb5:=hxb4.t hx5;have hxw5:=(hxa.t hxb).trans hxb5;have hs5:=hxw5.size;refine zae u43 ho5.is ?_;refine zam (zem c s).length (λk us w'=>∃ out,us=[out,.int .i64 (k:Int)]∧k≤(zem c s).length∧Ext w5 w'∧RowI w5.heap.size w'.heap.size 79 w' out (zim c s k)) 0 (z0 _) ⟨_,rfl,z0 _,Ext.refl _,by simpa [zim] using zcv (α:=DRace) w5.heap.size w5.heap.size 79 w5⟩ ?_;rintro k mk q w6 hkm ⟨out,hq,hkl,hx6,hr6⟩;obtain ⟨hq1,hq2⟩:=zbL hq;rw [hq1,hq2];have hs6:=hx6.size;have hMl:=zj4 c s k;refine zag ?_;refine br (λhlt=>?_) (λhge=>?_)
 · have hk:k<(zem c s).length:=by omega
   refine zac u43 zbX ho5.is hk λb3 o3 hA3=>?_;refine zaa zbX hA3 hx6 λv37 h37=>?_;refine zb7 zwM rfl zbX rfl h37 hx6 λw7 hx7 hAt7 hV7=>?_;refine zaa zbX hAt7 (Ext.refl _) λv39 h39=>?_;refine (zj3 ho4.is ((hx5.t hx6).trans hx7) h39 (Ext.refl _)).mono ?_;rintro _ w8 ⟨hx8,rfl⟩;have hx68:=hx7.t hx8;have hs68:=hx68.size;refine zaq ?_;refine br (λhn=>?_) (λhy=>?_)
   · refine zaa zbX hAt7 hx8 λv43 h43=>?_
     refine zbF (lo2:=w8.heap.size) (hi2:=w8.heap.size) (x:=(zem c s)[k]) u43 zbX z79 zre (by decide) (hr6.ext hx68) (by omega) (zdH (h43.ext hx8)) (by omega) (by omega) (by rw [zan];omega) (by omega) λv' w9 hc9 hr9=>?_;refine zas ?_;refine ⟨mk-1,by omega,k+1,by omega,v',rfl,by omega,(hx6.t hx68).chgI hc9 (lr _),?_⟩;rw [znq hk hn];exact hr9
   refine zas ?_;refine ⟨mk-1,by omega,k+1,by omega,out,rfl,by omega,hx6.t hx68,?_⟩;rw [zpM hk (Decidable.not_not.1 hy)];exact (hr6.ext hx68).mono (lr _) hs68
 have hke:k=(zem c s).length:=by omega
 rw [hke] at hr6;refine (zsE hW ((((hx3.t hx4).trans hx5)).trans hx6) hc).mono ?_;rintro v48 w7 ⟨hx7,ho7⟩;have hs7:=hx7.size;have hxb7:=(hxb5.t hx6).trans hx7;refine zab zcl ?_;refine zaa zhy (zaE hB) hxb7 λv50 h50=>?_;refine zae u39 h50 ?_;have hn6:=hs.2.2.1;refine zam s.stacks.length (λt us w'=>us=[.int .i64 (t:Int)]∧t≤s.stacks.length∧Ext w7 w'∧∀ j,j<t→zdp c s j) 0 (z0 _) ⟨rfl,z0 _,Ext.refl _,λj hj=>by omega⟩ ?_;rintro t mt q8 w8 htm ⟨hq8,htl,hx8,htold⟩;try replace hq8:=zbi hq8
 rw [hq8];have hs8:=hx8.size;have hxw8:=(((hxw5.t hx6).trans hx7).trans hx8);refine zag ?_;refine br (λhlt8=>?_) (λhge8=>?_)
 case refine_2=>
   have hte:t=s.stacks.length:=by omega
   rw [hte] at htold;refine ⟨hxw8,_,_,w5.heap.size,w6.heap.size,w6.heap.size,w6.heap.size,rfl,?_,?_,hs5,by omega,by omega,by omega,.inl (lr _)⟩
   · unfold zep;rw [if_pos hyes];exact ((hr6.ext hx7).ext hx8).own
   unfold zeq;rw [if_pos hyes,zkQ htold];exact zk2
 have ht:t<s.stacks.length:=by omega
 refine zaa zbq hAb (hxb7.t hx8) λv55 h55=>?_;refine zaa zik hB (hxb7.t hx8) λv56 h56=>?_;refine (zvt h55 (hxb7.t hx8) h56 (hxb7.t hx8) hc hs).mono ?_;rintro _ w9 ⟨hx9,rfl⟩;have hk64:=zrW hc hs (t:Int);refine (zcU (by omega)).mono ?_;rintro v59 w10 ⟨hx10,ho10⟩;have hx710:=(hx8.t hx9).trans hx10;have hs9:=hx9.size;have hs10:=hx10.size;refine (zj0 ho7.is hx710 ho10.is (Ext.refl _)).mono ?_;rintro _ w11 ⟨hx11,rfl⟩;have hs11:=hx11.size;refine zaq ?_;refine br (λhn=>?_) (λhy=>?_)
 · have hxx:=(hx9.t hx10).trans hx11
   refine ⟨hxw8.t hxx,_,_,w5.heap.size,w6.heap.size,w9.heap.size,w11.heap.size,rfl,?_,?_,hs5,by omega,by omega,lr _,.inl (by omega)⟩
   · unfold zep;rw [if_pos hyes];exact (((hr6.ext hx7).ext hx8).ext hxx).own
   unfold zeq;rw [if_pos hyes,zkR ht hn htold];exact (ho10.toI.ext hx11).mono (lr _) hs11
 refine zas ?_;refine ⟨mt-1,by omega,t+1,by omega,rfl,by omega,hx710.t hx11,λj hj=>?_⟩;rcases Nat.lt_or_eq_of_le (Nat.lt_succ_iff.1 hj) with h | rfl
 · exact htold j h
 exact Decidable.not_not.1 hy
theorem zlZ {w W0 W1:World} {v0 v1:Value} {c:DCode} {s:DState} (h0:Is W0 v0 c) (e0:Ext W0 w) (h1:Is W1 v1 s) (e1:Ext W1 w) :
   CALL tp 27 [v0,v1] w λr w'=>Ext w w'∧∃ a b,r=.tuple #[a,b]∧Own w.heap.size w' a (zep c s)∧Own w.heap.size w' b (zeq c s):=by
 refine F27_call ?_;unfold F27;refine zbj h0 e0 λwa hxa hA=>?_;refine zbj h1 (e1.trans hxa) λwb hxb hB=>?_;have hAb:=hA.ext hxb;refine zaH (α:=DRace) u43 zbX λa13 w1 hx1 hr1=>?_;refine zaa zbq hAb hx1 λv14 h14=>?_;refine zaa zik hB hx1 λv15 h15=>?_;refine (zkd h14 hx1 h15 hx1).mono ?_;rintro _ w2 ⟨hx2,rfl⟩;have hxb2:=hx1.t hx2;have hxw2:=(hxa.t hxb).trans hxb2;have hs2:=hxw2.size;refine zaq ?_;refine br (λhn=>?_) (λhy=>?_)
 · refine zaH (α:=Int) u23 ty3 λa19 w3 hx3 hr3=>?_
   have hs3:=hx3.size;refine ⟨hxw2.t hx3,_,_,rfl,?_,?_⟩
   · unfold zep;rw [if_neg hn];exact (zgW (lo:=w3.heap.size) (hi:=w3.heap.size) _).own.mono (by omega)
   unfold zeq;rw [if_neg hn];exact hr3.own.own.mono (by omega)
 have hyes:=Decidable.not_not.1 hy;obtain ⟨hc,hs⟩:=hyes;have hyes:CodeR c∧zbc c s:=⟨hc,hs⟩;refine zaa zbq hAb hxb2 λv20 h20=>?_;refine (zsT h20 hxb2 hc).mono ?_;rintro v21 w3 ⟨hx3,ho3⟩;change Own w2.heap.size w3 v21 (rcs c) at ho3;have hxb3:=hxb2.t hx3;refine zaa zbq hAb hxb3 λv22 h22=>?_;refine zaa zik hB hxb3 λv23 h23=>?_;refine (zqN h22 hxb3 h23 hxb3 hc hs).mono ?_;rintro v24 w5 ⟨hx5,ho5⟩;have hml:=zjM s hc hs;have hxb5:=hxb3.t hx5;have hxw5:=(hxa.t hxb).trans hxb5;have hs5:=hxw5.size;refine zam (zem c s).length (λk us w'=>∃ out,us=[out,.int .i64 (k:Int)]∧k≤(zem c s).length∧Ext w5 w'∧RowI w5.heap.size w'.heap.size 79 w' out (zim c s k)) 0 (z0 _) ⟨_,rfl,z0 _,Ext.refl _,by simpa [zim] using zb8 (α:=DRace) w5.heap.size w5.heap.size 79 w5 (some a13)⟩ ?_;rintro k mk q w6 hkm ⟨out,hq,hkl,hx6,hr6⟩;obtain ⟨hq1,hq2⟩:=zbL hq;rw [hq1,hq2];have hs6:=hx6.size;have hMl:=zj4 c s k;refine zae u43 ho5.is ?_;refine zag ?_;refine br (λhlt=>?_) (λhge=>?_)
 · have hk:k<(zem c s).length:=by omega
   refine zac u43 zbX ho5.is hk λb3 o3 hA3=>?_;refine zaa zbX hA3 hx6 λv35 h35=>?_;refine (zj1 ho3.is (hx5.t hx6) h35 hx6).mono ?_;rintro _ w8 ⟨hx8,rfl⟩;have hs68:=hx8.size;refine zaq ?_;refine br (λhn=>?_) (λhy=>?_)
   · refine zac u43 zbX ho5.is hk λb4 o4 hA4=>?_
     refine zaa zbX hA4 (hx6.t hx8) λv42 h42=>?_;refine zbF (lo2:=w8.heap.size) (hi2:=w8.heap.size) (x:=(zem c s)[k]) u43 zbX z79 zre (by decide) (hr6.ext hx8) (by omega) (zdH (h42.ext (hx6.t hx8))) (by omega) (by omega) (by rw [zan];omega) (by omega) λv' w9 hc9 hr9=>?_;refine zas ?_;refine ⟨mk-1,by omega,k+1,by omega,v',rfl,by omega,(hx6.t hx8).chgI hc9 (lr _),?_⟩;rw [znq hk hn];exact hr9
   refine zas ?_;refine ⟨mk-1,by omega,k+1,by omega,out,rfl,by omega,hx6.t hx8,?_⟩;rw [zpM hk (Decidable.not_not.1 hy)];exact (hr6.ext hx8).mono (lr _) hs68
 have hke:k=(zem c s).length:=by omega
 rw [hke] at hr6;refine zaa zbq hAb (hxb5.t hx6) λv45 h45=>?_;refine (znh h45 (hxb5.t hx6) hc).mono ?_;rintro v46 w7 ⟨hx7,ho7⟩;have hs7:=hx7.size;have hxb7:=(hxb5.t hx6).trans hx7;have hn6:=hs.2.2.1;refine zam s.stacks.length (λt us w'=>us=[.int .i64 (t:Int)]∧t≤s.stacks.length∧Ext w7 w'∧∀ j,j<t→zdp c s j) 0 (z0 _) ⟨rfl,z0 _,Ext.refl _,λj hj=>by omega⟩ ?_;rintro t mt q8 w8 htm ⟨hq8,htl,hx8,htold⟩;try replace hq8:=zbi hq8
 rw [hq8];have hs8:=hx8.size;have hxw8:=(((hxw5.t hx6).trans hx7).trans hx8);have hxb8:=hxb7.t hx8;refine zab zcl ?_;refine zaa zhy (zaE hB) hxb8 λv49 h49=>?_;refine zae u39 h49 ?_;refine zag ?_;refine br (λhlt8=>?_) (λhge8=>?_)
 case refine_2=>
   have hte:t=s.stacks.length:=by omega
   rw [hte] at htold;refine zaH (α:=Int) u23 ty3 λa65 w9 hx9 hr9=>?_;have hs9:=hx9.size;refine ⟨hxw8.t hx9,_,_,rfl,?_,?_⟩
   · unfold zep;rw [if_pos hyes];exact (((hr6.ext hx7).ext hx8).ext hx9).own.own.mono hs5
   unfold zeq;rw [if_pos hyes,zkQ htold];exact hr9.own.own.mono (by omega)
 have ht:t<s.stacks.length:=by omega
 refine zaa zbq hAb hxb8 λv54 h54=>?_;refine zaa zik hB hxb8 λv55 h55=>?_;refine (zmQ h54 hxb8 h55 hxb8 hc hs).mono ?_;rintro v57 w9 ⟨hx9,ho9⟩;have hs9:=hx9.size;refine (zjZ ho7.is (hx8.t hx9) ho9.is (Ext.refl _)).mono ?_;rintro _ w10 ⟨hx10,rfl⟩;refine zaq ?_;refine br (λhn=>?_) (λhy=>?_)
 · have hxx:=hx9.t hx10
   refine ⟨hxw8.t hxx,_,_,rfl,?_,?_⟩
   · unfold zep;rw [if_pos hyes];exact (((hr6.ext hx7).ext hx8).ext hxx).own.own.mono hs5
   unfold zeq;rw [if_pos hyes,zkR ht hn htold];exact (ho9.ext hx10).mono (by omega)
 refine zas ?_;refine ⟨mt-1,by omega,t+1,by omega,rfl,by omega,(hx8.t hx9).trans hx10,λj hj=>?_⟩;rcases Nat.lt_or_eq_of_le (Nat.lt_succ_iff.1 hj) with h | rfl
 · exact htold j h
 exact Decidable.not_not.1 hy
end Go.Proofs.YtifonhplnmpgaaaGreat
namespace Go.Sh
open Rep (rep)
instance:Rep UInt8 where
 size:=1
 agg:=false
 rep F _ cs x:=F=[]∧cs=[.int .u8 (x.toNat:Int)]
 pos:=by decide
 sz _:=rfl
 len:=by rintro _ _ _ _ ⟨_,rfl⟩;rfl
 one:=by rintro _ _ _ _ ⟨_,rfl⟩ v hv;simp at hv;subst hv;rfl
 keep:=by rintro _ _ _ _ _ h _;exact h
 lt:=by rintro _ _ _ _ ⟨rfl,_⟩ b hb;cases hb
instance:Flat UInt8:=⟨λh=>h.1⟩
instance:RepZ UInt8:=⟨0,[.int .u8 0],λ_=>⟨rfl,rfl⟩⟩
section
variable {P:Program} {w w0:World} {K:Value→Prop} {t:TypeId} {x y:Operand}
theorem zvP {b:UInt8}:Mine [] w (.int .u8 (b.toNat:Int)) b:=⟨⟨_,⟨rfl,rfl⟩,rfl⟩,List.nodup_nil,Wr.nil w⟩
theorem zvQ {lo hi:Nat} {b:UInt8}:OwnI lo hi w (.int .u8 (b.toNat:Int)) b:=⟨[],zvP,by simp⟩
theorem zvR {src dst:TypeId} {n:Nat} (hs:(P.underlying src).isSome=true) (hd:P.underlying dst=some (.int .u8)) (hn:n<256) (k:K (.int .u8 ((UInt8.ofNat n).toNat:Int))):RD P (convert src dst (.int .i64 (n:Int))) w K:=by
 refine za7 (λw' _=>?_) k;obtain ⟨d,hd'⟩:=Option.isSome_iff_exists.mp hs;have h1:IntKind.u8.wrap (n:Int)=n:=by simp [IntKind.wrap,IntKind.signed,IntKind.bits];omega
 have h2:(UInt8.ofNat n).toNat=n:=by simp;omega
 simp [convert,run_underlying hd',run_underlying hd,Conv.intToInt,h1];omega
theorem zoB {src dst e:TypeId} {v:Value} {l:List UInt8} (hs:P.underlying src=some (.slice e)) (he:P.underlying e=some (.int .u8)) (hd:P.underlying dst=some .string) (h:Is w0 v l) (hx:Ext w0 w)
   (k:K (.string ⟨l.toArray⟩)):RD P (convert src dst v) w K:=by
 obtain ⟨a,cap,Fi,xs,rfl,h1,h2,hc,h4⟩:=zdt h
 have hcells:∀ {l:List UInt8} {F:List Nat} {xs:List Value},Cells F w0 xs l→xs=l.map λb=>Value.int .u8 (b.toNat:Int):=by
   intro l
   induction l with
   | nil=>rintro _ _ ⟨_,rfl⟩;rfl
   | cons b l ih=>
     rintro _ _ ⟨F1,F2,c1,c2,_,rfl,⟨_,rfl⟩,h⟩;rw [ih h];rfl
 have hxs:=hcells hc;refine za7 (λw' hx'=>?_) k;rcases h4 with rfl | ⟨b,o,rfl,hr,hb⟩
 · cases a with
   | none=>exact run_convert_bytes_nil w' src e hs he _ _ dst hd
   | some a=>
     rw [run_convert_bytes_string w' src dst e _ _ cap hs he hd];have:=run_bytesToString (P:=P) w' a 0 cap [] (by simp [loadCells,loadCellsFrom]);exact this
 have:=run_convert_bytes_arg w' src e hs he b o l.length cap (l.map λb=>(b.toNat:Int)) (by simp) (λi hi=>by
   have hr':=zbr (zbr hr hx) hx';have:=hr' i (.int .u8 (l[i].toNat:Int)) (by rw [hxs];simp [hi]);rw [this];simp [List.getD,hi]) dst hd
 rw [this]
 have e:strOfNums (l.map λb=>(b.toNat:Int))=⟨l.toArray⟩:=by
   unfold strOfNums;congr 2;rw [List.map_map]
   conv=>rhs;rw [←List.map_id l]
   congr 1;funext b;simp
 rw [e]
theorem zsV {a b:ByteArray} (h:a.size+b.size≤9223372036854775807) (k:K (.string (a++b))):RD P (bin .add t x y (.string a) (.string b)) w K:=
 za7 (λw' _=>by
   have hh:¬(((a.size+b.size:Nat):Int)>IntKind.i64.max):=by
     have:IntKind.i64.max=9223372036854775807:=by decide
     omega
   show (do eqGuard .add t x y (.string a) (.string b);binOp .add t (.string a) (.string b):Sem Value).run P w'=_;simp only [eqGuard,binOp,Op.stringOp,hh,if_false];rfl) k
theorem zwG {a b:Int} (hb:b≠0) (h:I64 (a.tdiv b)) (k:K (.int .i64 (a.tdiv b))):RD P (bin .quo t x y (.int .i64 a) (.int .i64 b)) w K:=
 za7 (λw' _=>by simp [bin,eqGuard,binOp,Op.intDiv,hb,IntWalk.i64_in _ h]) k
end
end Go.Sh
namespace Go.Proofs.YtifonhplnmpgaaaGreat
open Go Go.Sh Go.Proofs
open Rep (rep)
def F92 (a0:Value) (w:World) (R:VW):Prop:=
 rB .leq 3 T0 U0 a0 (iV 0) w λx5=>
 BR x5
 (R (Value.string (ByteArray.mk #[109,48])) w)
 (LOOPI [0,3] [a0,(Value.string (ByteArray.mk #[]))] w λu4 w n4=>
 rB .gtr 3 T0 U0 (u4 0) (iV 0) w λx7=>
 BR x7
 (rB .rem 3 T0 U0 (u4 0) (iV 10) w λx9=>
 rB .add 3 U0 T0 (iV 48) x9 w λx10=>
 rD (convert 3 5 x10) w λx11=>
 oP (bS 170 x11) w λx12 w=>
 rD (convert 170 9 x12) w λx13=>
 rB .add 9 T0 T0 x13 (u4 3) w λx15=>
 rB .quo 3 T0 U0 (u4 0) (iV 10) w λx17=>
 n4 [x17,x15] w)
 (rB .add 9 U0 T0 (Value.string (ByteArray.mk #[109])) (u4 3) w λx19=>
 R x19 w))
theorem F92_call {a0 w R} (h:F92 a0 w R):cL 92 [a0] w R:=co (g:=(kf [] [(4,262089,[0,3])] [])) Tryz.func92 h
def F49 (a0 a1:Value) (w:World) (R:VW):Prop:=
 LOOPI [1,5] [a1,(iV 0)] w λu2 w n2=>
 rN 22 3 a0 w λx8=>
 rC (u2 5) x8 w λx9=>
 BR x9
 (cL 92 [(u2 1)] w λx15 w=>
 rX 22 a0 (u2 5) w λx16=>
 oS 9 x16 x15 w λw=>
 rI (u2 1) w λx18=>
 rI (u2 5) w λx11=>
 n2 [x18,x11] w)
 (R (u2 1) w)
theorem F49_call {a0 a1 w R} (h:F49 a0 a1 w R):cL 49 [a0,a1] w R:=co (g:=(kf [] [(2,524258,[1,5])] [])) Tryz.func49 h
def F93 (a0 a1:Value) (w:World) (R:VW):Prop:=
 LOOPI [1,5] [a1,(iV 0)] w λu2 w n2=>
 rN 107 3 a0 w λx8=>
 rC (u2 5) x8 w λx9=>
 BR x9
 (rX 107 a0 (u2 5) w λx15=>
 rF 109 x15 0 w λx16=>
 oS 3 x16 (u2 1) w λw=>
 rI (u2 1) w λx18=>
 rX 107 a0 (u2 5) w λx22=>
 rF 109 x22 1 w λx23=>
 oS 3 x23 x18 w λw=>
 rI x18 w λx25=>
 cL 92 [x25] w λx29 w=>
 rX 107 a0 (u2 5) w λx30=>
 rF 109 x30 2 w λx31=>
 oS 9 x31 x29 w λw=>
 rI x25 w λx33=>
 rX 107 a0 (u2 5) w λx36=>
 rF 109 x36 3 w λx37=>
 rL 107 x37 w λx38=>
 cL 93 [x38,x33] w λx40 w=>
 rI (u2 5) w λx11=>
 n2 [x40,x11] w)
 (R (u2 1) w)
theorem F93_call {a0 a1 w R} (h:F93 a0 a1 w R):cL 93 [a0,a1] w R:=co (g:=(kf [] [(2,2199023255522,[1,5])] [])) Tryz.func93 h
def F50 (a0 a1:Value) (w:World) (R:VW):Prop:=
 LOOPI [1,5] [a1,(iV 0)] w λu2 w n2=>
 rN 30 3 a0 w λx8=>
 rC (u2 5) x8 w λx9=>
 BR x9
 (rX 30 a0 (u2 5) w λx15=>
 rF 111 x15 0 w λx16=>
 oS 3 x16 (u2 1) w λw=>
 rI (u2 1) w λx18=>
 rX 30 a0 (u2 5) w λx22=>
 rF 111 x22 1 w λx23=>
 oS 3 x23 x18 w λw=>
 rI x18 w λx25=>
 rX 30 a0 (u2 5) w λx29=>
 rF 111 x29 2 w λx30=>
 rF 109 x30 0 w λx31=>
 oS 3 x31 x25 w λw=>
 rI x25 w λx33=>
 rX 30 a0 (u2 5) w λx37=>
 rF 111 x37 2 w λx38=>
 rF 109 x38 1 w λx39=>
 oS 3 x39 x33 w λw=>
 rI x33 w λx41=>
 cL 92 [x41] w λx45 w=>
 rX 30 a0 (u2 5) w λx46=>
 rF 111 x46 2 w λx47=>
 rF 109 x47 2 w λx48=>
 oS 9 x48 x45 w λw=>
 rI x41 w λx50=>
 rX 30 a0 (u2 5) w λx53=>
 rF 111 x53 2 w λx54=>
 rF 109 x54 3 w λx55=>
 rL 107 x55 w λx56=>
 cL 93 [x56,x50] w λx58 w=>
 rX 30 a0 (u2 5) w λx62=>
 rF 111 x62 3 w λx63=>
 oS 3 x63 x58 w λw=>
 rI x58 w λx65=>
 rI (u2 5) w λx11=>
 n2 [x65,x11] w)
 (R (u2 1) w)
theorem F50_call {a0 a1 w R} (h:F50 a0 a1 w R):cL 50 [a0,a1] w R:=co (g:=(kf [] [(2,73786976294838206434,[1,5])] [])) Tryz.func50 h
def F13 (a0 a1:Value) (w:World) (R:VW):Prop:=
 oX 32 a0 w λx2 w=>
 rF 32 x2 0 w λx5=>
 rL 22 x5 w λx6=>
 cL 49 [x6,a1] w λx8 w=>
 rF 32 x2 1 w λx9=>
 rL 22 x9 w λx10=>
 cL 49 [x10,x8] w λx12 w=>
 rF 32 x2 2 w λx13=>
 rL 22 x13 w λx14=>
 cL 49 [x14,x12] w λx16 w=>
 rF 32 x2 3 w λx17=>
 rL 23 x17 w λx18=>
 cL 14 [x18,x16] w λx20 w=>
 rF 32 x2 4 w λx21=>
 rL 30 x21 w λx22=>
 cL 50 [x22,x20] w λx24 w=>
 R x24 w
theorem F13_call {a0 a1 w R} (h:F13 a0 a1 w R):cL 13 [a0,a1] w R:=co (g:=(kf [] [] [])) Tryz.func13 h
def F19 (a0 a1:Value) (w:World) (R:VW):Prop:=
 LOOPI [1,5] [a1,(iV 0)] w λu2 w n2=>
 rN 39 3 a0 w λx8=>
 rC (u2 5) x8 w λx9=>
 BR x9
 (rX 39 a0 (u2 5) w λx14=>
 rL 23 x14 w λx15=>
 cL 14 [x15,(u2 1)] w λx17 w=>
 rI (u2 5) w λx11=>
 n2 [x17,x11] w)
 (R (u2 1) w)
theorem F19_call {a0 a1 w R} (h:F19 a0 a1 w R):cL 19 [a0,a1] w R:=co (g:=(kf [] [(2,262114,[1,5])] [])) Tryz.func19 h
def F20 (a0 a1:Value) (w:World) (R:VW):Prop:=
 LOOPI [1,5] [a1,(iV 0)] w λu2 w n2=>
 rN 39 3 a0 w λx8=>
 rC (u2 5) x8 w λx9=>
 BR x9
 (rX 39 a0 (u2 5) w λx14=>
 rL 23 x14 w λx15=>
 cL 15 [x15,(u2 1)] w λx17 w=>
 rB .lss 3 T0 U0 x17 (iV 0) w λx19=>
 BR x19
 (R (iV (-1)) w)
 (rI (u2 5) w λx11=>
 n2 [x17,x11] w))
 (R (u2 1) w)
def F31 (a0 a1:Value) (w:World) (R:VW):Prop:=
 oX 53 a0 w λx2 w=>
 rF 53 x2 0 w λx5=>
 rL 23 x5 w λx6=>
 cL 14 [x6,a1] w λx8 w=>
 rF 53 x2 1 w λx9=>
 rL 23 x9 w λx10=>
 cL 14 [x10,x8] w λx12 w=>
 rF 53 x2 2 w λx13=>
 rL 39 x13 w λx14=>
 cL 19 [x14,x12] w λx16 w=>
 R x16 w
theorem F31_call {a0 a1 w R} (h:F31 a0 a1 w R):cL 31 [a0,a1] w R:=co (g:=(kf [] [] [])) Tryz.func31 h
theorem zgD {w:World} {k:Int} (hk:k≤4611686018427387904) :
   CALL tp 92 [.int .i64 k] w λr w'=>Ext w w'∧∃ s,r=.string s∧s.size≤maxLen:=by
 refine F92_call ?_;unfold F92;refine zdV ?_;refine br (λh=>?_) (λh=>?_)
 · exact ⟨Ext.refl w,_,rfl,by rw [zan];decide⟩
 have hk19:k<10^(19-0):=by
   have:(10:Int)^(19-0)=10000000000000000000:=by decide
   omega
 refine zam 19 (λj us w'=>∃ (q:Int) (s:ByteArray),us=[.int .i64 q,.string s]∧Ext w w'∧0≤q∧q<10^(19-j)∧s.size=j) 0 (by omega) ⟨k,_,rfl,Ext.refl w,by omega,hk19,rfl⟩ ?_;rintro j m u w2 hkm ⟨q,s,hu,hx2,hq0,hq1,hs⟩;obtain ⟨hu1,hu2⟩:=zbL hu;rw [hu1,hu2]
 have hj:0<q→j<19:=λh=>by
   rcases Nat.lt_or_ge j 19 with h' | h'
   · exact h'
   rw [show 19-j=0 by omega] at hq1;simp at hq1;omega
 have hb:q<10000000000000000000:=by
   have h2:(10:Int)^(19-j)≤10^19:=by
     have h3:(10:Nat)^(19-j)≤10^19:=Nat.pow_le_pow_right (by omega) (by omega);have h4:=Int.ofNat_le.2 h3;simpa using h4
   have h3:(10:Int)^19=10000000000000000000:=by decide
   omega
 refine zcK ?_;refine br (λh1=>?_) (λh1=>?_)
 · have hj:=hj h1
   refine zwd (by omega) ?_;have hm:q.tmod 10=q%10:=Int.tmod_eq_emod_of_nonneg hq0;rw [hm];refine zcL (by unfold I64;omega) ?_;obtain ⟨n,hn⟩:∃ n:Nat,48+q%10=(n:Int):=⟨(48+q%10).toNat,by omega⟩;rw [hn];refine zvR (by kernel_rfl) u5 (by omega) ?_;refine zp4 (α:=UInt8) zxb ty5 z5 (by decide) (zvQ (lo:=w2.heap.size) (hi:=w2.heap.size)) (by omega) λv3 w3 hx3 o3=>?_;refine zoB zxb u5 u9 o3.is (Ext.refl w3) ?_;have hone:ByteArray.size ⟨[UInt8.ofNat n].toArray⟩=1:=rfl;refine zsV (by omega) ?_;have hd:q.tdiv 10=q / 10:=Int.tdiv_eq_ediv_of_nonneg hq0;refine zwG (by omega) (by rw [hd];unfold I64;omega) ?_;rw [hd];refine ⟨m-1,by omega,j+1,by omega,q / 10,_,rfl,hx2.t hx3,by omega,?_,by rw [ByteArray.size_append];omega⟩;rw [show 19-j=(19-(j+1))+1 by omega,Int.pow_succ] at hq1;omega
 refine zsV (by have:(ByteArray.mk #[109]).size=1:=rfl;omega) ?_;have hj19:j≤19:=by omega
 exact ⟨hx2,_,rfl,by rw [zan,ByteArray.size_append];have:(ByteArray.mk #[109]).size=1:=rfl;omega⟩
theorem zeJ {w:World} {F:List Nat} {v:Value} {l:List ByteArray} {k:Int} (h:Mine F w v l) (hn:l.length≤1048576) (hk0:0≤k) (hk1:k≤1152921504606846976) :
   CALL tp 49 [v,.int .i64 k] w λr w'=>r=.int .i64 (k+l.length)∧Chg F w w'∧∃ F',∃ l':List ByteArray,Mine F' w' v l'∧(∀ b∈F',b∈F)∧l'.length=l.length:=by
 refine F49_call ?_;unfold F49;refine zam l.length (λi us w'=>us=[.int .i64 (k+i),.int .i64 (i:Int)]∧Chg F w w'∧∃ F',∃ cur:List ByteArray,Mine F' w' v cur∧(∀ b∈F',b∈F)∧cur.length=l.length) 0 (z0 _) ⟨by simp,Chg.refl _ _,F,l,h,λ_ h=>h,rfl⟩ ?_;rintro i m u w2 hkm ⟨hu,hc2,F',cur,hm2,hF',hlen⟩;obtain ⟨hu1,hu2⟩:=zbL hu;rw [hu1,hu2];refine zae u22 hm2.is ?_;rw [hlen];refine zag ?_;refine br (λhlt=>?_) (λhge=>?_)
 · have hi:i<l.length:=by omega
   refine (zgD (by omega)).mono ?_;rintro _ w3 ⟨hx3,s,rfl,hs⟩;refine zcI u22 ty9 (hm2.ext hx3) (by omega) λb o G hL=>?_;refine zcR ty9 hL (zlb hs) λw4 F4 hc4 hm4 hF4=>?_;refine zcL (by unfold I64;omega) ?_;refine zas ?_;exact ⟨m-1,by omega,i+1,by omega,by simp [Int.add_assoc],(hc2.trans (hx3.chg F)).sub hc4 hF',F4,_,hm4,λb hb=>hF' b (hF4 b hb),by simp [hlen]⟩
 have:i=l.length:=by omega
 subst this;exact ⟨rfl,hc2,F',cur,hm2,hF',hlen⟩
def znr (l:List DTerm):Prop:=∀ {w:World} {F:List Nat} {v:Value} {k:Int},Mine F w v l→wTs l≤1048576→0≤k→k+3*wTs l≤1152921504606846976 →
 CALL tp 93 [v,.int .i64 k] w λr w'=>∃ n:Int,r=.int .i64 n∧k≤n∧n≤k+3*wTs l∧Chg F w w'∧∃ F',∃ l':List DTerm,Mine F' w' v l'∧(∀ b∈F',b∈F)∧l'.length=l.length
theorem zoC {l:List DTerm} (ih:∀ t∈l,znr t.kids):znr l:=by
 intro w F v k h hn hk0 hk1;rw [zrE] at hn hk1 ⊢;refine F93_call ?_;unfold F93;refine zam l.length (λi us w'=>∃ q:Int,us=[.int .i64 q,.int .i64 (i:Int)]∧Chg F w w'∧k≤q∧q≤k+3*(i+sm wT (l.take i):Nat)∧∃ F',∃ cur:List DTerm,Mine F' w' v cur∧(∀ b∈F',b∈F)∧RestL i cur l) 0 (z0 _) ⟨k,rfl,Chg.refl _ _,by omega,by simp [sm],F,l,h,λ_ h=>h,rfl,λ_ _=>rfl⟩ ?_;rintro i m u w2 hkm ⟨q,hu,hc2,hq0,hq1,F',cur,hm2,hF',hr⟩;obtain ⟨hu1,hu2⟩:=zbL hu;rw [hu1,hu2];have hlen:=hr.1;refine zae zfp hm2.is ?_;rw [hlen];refine zag ?_;refine br (λhlt=>?_) (λhge=>?_)
 · have hi:i<l.length:=by omega
   have hsum:=zhB wT hi
   have hle:sm wT (l.take (i+1))≤sm wT l:=by
     conv=>rhs;rw [←List.take_append_drop (i+1) l]
     unfold sm;rw [List.map_append,List.sum_append];omega
   have hwi:=ztF l[i];have hK:=hr.keepF (f:=DTerm.kids) hi;refine zgd (α:=DTerm) (β:=Int) (sel:=DTerm.kind) (g:=λa y=>.mk y a.num a.name a.kids) zfp zbB zdj ty3 (λh=>zfC h) hm2 (by omega) (zbh (by unfold I64;omega)) λw3 F3 hc3 hm3 hF3=>?_
   replace hK:=hK.set (x:=.mk q cur[i].num cur[i].name cur[i].kids) λ_=>rfl
   generalize hcur3:cur.set i (.mk q cur[i].num cur[i].name cur[i].kids)=cur3 at hm3 hK;clear hcur3;refine zcL (by unfold I64;omega) ?_;refine zgd (α:=DTerm) (β:=Int) (sel:=DTerm.num) (g:=λa y=>.mk a.kind y a.name a.kids) zfp zbB zcX ty3 (λh=>zfD h) hm3 hK.2.1 (zbh (by unfold I64;omega)) λw4 F4 hc4 hm4 hF4=>?_
   replace hK:=hK.set (x:=.mk (cur3[i]'hK.2.1).kind (q+1) (cur3[i]'hK.2.1).name (cur3[i]'hK.2.1).kids) λ_=>rfl
   generalize hcur4:cur3.set i _=cur4 at hm4 hK;clear hcur4;refine zcL (by unfold I64;omega) ?_;refine (zgD (by omega)).mono ?_;rintro _ w5 ⟨hx5,s,rfl,hs⟩;refine zgd (α:=DTerm) (β:=ByteArray) (sel:=DTerm.name) (g:=λa y=>.mk a.kind a.num y a.kids) zfp zbB zcA ty9 (λh=>zfE h) (hm4.ext hx5) hK.2.1 (zlb hs) λw6 F6 hc6 hm6 hF6=>?_
   replace hK:=hK.set (x:=.mk (cur4[i]'hK.2.1).kind (cur4[i]'hK.2.1).num s (cur4[i]'hK.2.1).kids) λ_=>rfl
   generalize hcur6:cur4.set i _=cur6 at hm6 hK;clear hcur6;refine zcL (by unfold I64;omega) ?_;refine zcI zfp zbB hm6 hK.2.1 λb o G hL=>?_;refine zab zbs ?_;obtain ⟨G1,hL1⟩:=zfF hL;refine zed zdw hL1 λu7 hM7 hG7 hb7=>?_;obtain ⟨hR,hi6,_,hkids⟩:=hK;rw [hkids] at hM7;have hF26:∀ c∈F6,c∈F':=λc hc=>hF3 c (hF4 c (hF6 c hc));refine (ih l[i] (List.getElem_mem hi) hM7 (by omega) (by omega) (by omega)).mono ?_;rintro _ w8 ⟨n,rfl,hn0,hn1,hc8,F8,l8,hm8,hF8,hl8⟩;obtain ⟨F9,hm9,hF9⟩:=hb7 w8 F8 l8 hc8 hm8 λc hc=>.inl (hF8 c hc);refine zas ?_;have hc26:Chg F' w2 w6:=((hc3.sub hc4 hF3).trans (hx5.chg F')).sub hc6 λc hc=>hF3 c (hF4 c hc);have hc28:Chg F' w2 w8:=hc26.sub hc8 λc hc=>hF26 c (hG7 c hc);refine ⟨m-1,by omega,i+1,by omega,n,rfl,hc2.sub hc28 hF',by omega,by omega,F9,_,hm9,λc hc=>?_,hR.set1 _⟩;rcases hF9 c hc with h | h
   · exact hF' c (hF26 c h)
   exact hF' c (hF26 c (hG7 c (hF8 c h)))
 have:i=l.length:=by omega
 subst this;rw [List.take_length] at hq1;exact ⟨q,rfl,hq0,by omega,hc2,F',cur,hm2,hF',hlen⟩
theorem zsW (t:DTerm):znr t.kids:=DTerm.ind (p:=λt=>znr t.kids) (λt ih=>zoC ih) t
theorem zns (l:List DTerm):znr l:=zsW (.mk 0 0 ByteArray.empty l)
theorem zoD {w:World} {F:List Nat} {v:Value} {l:List DIns} {k:Int} (h:Mine F w v l) (hn:zuE l≤1048576) (hk0:0≤k) (hk1:k≤1000000000000000000) :
   CALL tp 50 [v,.int .i64 k] w λr w'=>∃ n:Int,r=.int .i64 n∧k≤n∧n≤k+6*zuE l∧Chg F w w'∧∃ F',∃ l':List DIns,Mine F' w' v l'∧(∀ b∈F',b∈F)∧l'.length=l.length:=by
 unfold zuE at hn ⊢;refine F50_call ?_;unfold F50;refine zam l.length (λi us w'=>∃ q:Int,us=[.int .i64 q,.int .i64 (i:Int)]∧Chg F w w'∧k≤q∧q≤k+6*(i+sm (λi=>wT i.term) (l.take i):Nat)∧∃ F',∃ cur:List DIns,Mine F' w' v cur∧(∀ b∈F',b∈F)∧RestL i cur l) 0 (z0 _) ⟨k,rfl,Chg.refl _ _,by omega,by simp [sm],F,l,h,λ_ h=>h,rfl,λ_ _=>rfl⟩ ?_;rintro i m u w2 hkm ⟨q,hu,hc2,hq0,hq1,F',cur,hm2,hF',hr⟩;obtain ⟨hu1,hu2⟩:=zbL hu;rw [hu1,hu2];have hlen:=hr.1;refine zae u30 hm2.is ?_;rw [hlen];refine zag ?_;refine br (λhlt=>?_) (λhge=>?_)
 · have hi:i<l.length:=by omega
   have hsum:=zhB (λi:DIns=>wT i.term) hi
   have hle:sm (λi:DIns=>wT i.term) (l.take (i+1))≤sm (λi:DIns=>wT i.term) l:=by
     conv=>rhs;rw [←List.take_append_drop (i+1) l]
     unfold sm;rw [List.map_append,List.sum_append];omega
   have hwi:=ztF l[i].term;have hK:=hr.keepF (f:=λa:DIns=>a.term.kids) hi;refine zgd (α:=DIns) (β:=Int) (sel:=DIns.op) (g:=λa y=>⟨y,a.arg,a.term,a.to⟩) u30 zaO zaM ty3 (λh=>zi9 h) hm2 hK.2.1 (zbh (by unfold I64;omega)) λw3 F3 hc3 hm3 hF3=>?_
   replace hK:=hK.set (x:=⟨q,(cur[i]'hK.2.1).arg,(cur[i]'hK.2.1).term,(cur[i]'hK.2.1).to⟩) λ_=>rfl
   generalize hcur3:cur.set i _=cur3 at hm3 hK;clear hcur3;refine zcL (by unfold I64;omega) ?_;refine zgd (α:=DIns) (β:=Int) (sel:=DIns.arg) (g:=λa y=>⟨a.op,y,a.term,a.to⟩) u30 zaO zaK ty3 (λh=>zja h) hm3 hK.2.1 (zbh (by unfold I64;omega)) λw4 F4 hc4 hm4 hF4=>?_
   replace hK:=hK.set (x:=⟨(cur3[i]'hK.2.1).op,q+1,(cur3[i]'hK.2.1).term,(cur3[i]'hK.2.1).to⟩) λ_=>rfl
   generalize hcur4:cur3.set i _=cur4 at hm4 hK;clear hcur4;refine zcL (by unfold I64;omega) ?_;refine znM (α:=DIns) (β:=Int) (sel:=λa=>a.term.kind) (g:=λa y=>⟨a.op,a.arg,.mk y a.term.num a.term.name a.term.kids,a.to⟩) u30 zaO zcf zdj ty3 (λh=>by obtain ⟨G1,h1⟩:=zef h;exact zfC h1) hm4 hK.2.1 (zbh (by unfold I64;omega)) λw5 F5 hc5 hm5 hF5=>?_
   replace hK:=hK.set (x:=⟨(cur4[i]'hK.2.1).op,(cur4[i]'hK.2.1).arg,.mk (q+1+1) (cur4[i]'hK.2.1).term.num (cur4[i]'hK.2.1).term.name (cur4[i]'hK.2.1).term.kids,(cur4[i]'hK.2.1).to⟩) λ_=>rfl
   generalize hcur5:cur4.set i _=cur5 at hm5 hK;clear hcur5;refine zcL (by unfold I64;omega) ?_;refine znM (α:=DIns) (β:=Int) (sel:=λa=>a.term.num) (g:=λa y=>⟨a.op,a.arg,.mk a.term.kind y a.term.name a.term.kids,a.to⟩) u30 zaO zcf zcX ty3 (λh=>by obtain ⟨G1,h1⟩:=zef h;exact zfD h1) hm5 hK.2.1 (zbh (by unfold I64;omega)) λw6 F6 hc6 hm6 hF6=>?_
   replace hK:=hK.set (x:=⟨(cur5[i]'hK.2.1).op,(cur5[i]'hK.2.1).arg,.mk (cur5[i]'hK.2.1).term.kind (q+1+1+1) (cur5[i]'hK.2.1).term.name (cur5[i]'hK.2.1).term.kids,(cur5[i]'hK.2.1).to⟩) λ_=>rfl
   generalize hcur6:cur5.set i _=cur6 at hm6 hK;clear hcur6;refine zcL (by unfold I64;omega) ?_;refine (zgD (by omega)).mono ?_;rintro _ w7 ⟨hx7,s,rfl,hs⟩;refine znM (α:=DIns) (β:=ByteArray) (sel:=λa=>a.term.name) (g:=λa y=>⟨a.op,a.arg,.mk a.term.kind a.term.num y a.term.kids,a.to⟩) u30 zaO zcf zcA ty9 (λh=>by obtain ⟨G1,h1⟩:=zef h;exact zfE h1) (hm6.ext hx7) hK.2.1 (zlb hs) λw8 F8 hc8 hm8 hF8=>?_
   replace hK:=hK.set (x:=⟨(cur6[i]'hK.2.1).op,(cur6[i]'hK.2.1).arg,.mk (cur6[i]'hK.2.1).term.kind (cur6[i]'hK.2.1).term.num s (cur6[i]'hK.2.1).term.kids,(cur6[i]'hK.2.1).to⟩) λ_=>rfl
   generalize hcur8:cur6.set i _=cur8 at hm8 hK;clear hcur8;refine zcL (by unfold I64;omega) ?_;refine zcI u30 zaO hm8 hK.2.1 λb o G hL=>?_;refine zab zcf ?_;refine zab zbs ?_;obtain ⟨G0,hL0⟩:=zef hL;obtain ⟨G1,hL1⟩:=zfF hL0;refine zed zdw hL1 λu9 hM9 hG9 hb9=>?_;obtain ⟨hR,hi8,_,hkids⟩:=hK;have hkids':(cur8[i]'hi8).term.kids=l[i].term.kids:=hkids;rw [hkids'] at hM9;have hF28:∀ c∈F8,c∈F':=λc hc=>hF3 c (hF4 c (hF5 c (hF6 c (hF8 c hc))));refine (zns _ hM9 (by omega) (by omega) (by omega)).mono ?_;rintro _ w10 ⟨n,rfl,hn0,hn1,hc10,F10,l10,hm10,hF10,hl10⟩;obtain ⟨F11,hm11,hF11⟩:=hb9 w10 F10 l10 hc10 hm10 λc hc=>.inl (hF10 c hc)
   have hF211:∀ c∈F11,c∈F':=λc hc=>by
     rcases hF11 c hc with h | h
     · exact hF28 c h
     exact hF28 c (hG9 c (hF10 c h))
   replace hR:=hR.set1 (⟨(cur8[i]'hi8).op,(cur8[i]'hi8).arg,.mk (cur8[i]'hi8).term.kind (cur8[i]'hi8).term.num (cur8[i]'hi8).term.name l10,(cur8[i]'hi8).to⟩:DIns)
   have hi11:i<(cur8.set i (⟨(cur8[i]'hi8).op,(cur8[i]'hi8).arg,.mk (cur8[i]'hi8).term.kind (cur8[i]'hi8).term.num (cur8[i]'hi8).term.name l10,(cur8[i]'hi8).to⟩:DIns)).length:=by simpa using hi8
   generalize hcur11:cur8.set i _=cur11 at hm11 hR hi11;clear hcur11;have hc28:Chg F' w2 w8:=(((((hc3.sub hc4 hF3).sub hc5 λc hc=>hF3 c (hF4 c hc)).sub hc6 λc hc=>hF3 c (hF4 c (hF5 c hc)))).trans (hx7.chg F')).sub hc8 λc hc=>hF3 c (hF4 c (hF5 c (hF6 c hc)));have hc210:Chg F' w2 w10:=hc28.sub hc10 λc hc=>hF28 c (hG9 c hc);refine zgd (α:=DIns) (β:=Int) (sel:=DIns.to) (g:=λa y=>⟨a.op,a.arg,a.term,y⟩) u30 zaO zcB ty3 (λh=>zjb h) hm11 hi11 (zbh (by unfold I64;omega)) λw12 F12 hc12 hm12 hF12=>?_;refine zcL (by unfold I64;omega) ?_;refine zas ?_;exact ⟨m-1,by omega,i+1,by omega,n+1,rfl,hc2.sub (hc210.sub hc12 hF211) hF',by omega,by omega,F12,_,hm12,λc hc=>hF' c (hF211 c (hF12 c hc)),hR.set1 _⟩
 have:i=l.length:=by omega
 subst this;rw [List.take_length] at hq1;exact ⟨q,rfl,hq0,by omega,hc2,F',cur,hm2,hF',hlen⟩
theorem zsX {w:World} {F:List Nat} {v:Value} {c:DCode} (h:Mine F w v c):∃ (a0 a1 a2 a3 a4:Value) (F0 F1 F2 F3 F4:List Nat),v=.agg #[a0,a1,a2,a3,a4]∧F=F0++(F1++(F2++(F3++F4)))∧F.Nodup ∧
   Mine F0 w a0 c.globals∧Mine F1 w a1 c.locks∧Mine F2 w a2 c.procs∧Mine F3 w a3 c.entry∧Mine F4 w a4 c.ins:=by
 obtain ⟨⟨cs,hr,rfl⟩,hn,hw⟩:=h;obtain ⟨F0,c0,F1,c1,F2,c2,F3,c3,F4,c4,rfl,rfl,h0,h1,h2,h3,h4⟩:=zjc hr;have n0:=zcm hn;have n1:=zcm n0.2.1;have n2:=zcm n1.2.1;have n3:=zcm n2.2.1;obtain ⟨a0,rfl,m0⟩:=zcC h0 n0.1 (hw.sub (by simp +contextual));obtain ⟨a1,rfl,m1⟩:=zcC h1 n1.1 (hw.sub (by simp +contextual));obtain ⟨a2,rfl,m2⟩:=zcC h2 n2.1 (hw.sub (by simp +contextual));obtain ⟨a3,rfl,m3⟩:=zcC h3 n3.1 (hw.sub (by simp +contextual));obtain ⟨a4,rfl,m4⟩:=zcC h4 n3.2.1 (hw.sub (by simp +contextual));exact ⟨a0,a1,a2,a3,a4,F0,F1,F2,F3,F4,rfl,rfl,hn,m0,m1,m2,m3,m4⟩
theorem zoE {w:World} {lo hi:Nat} {v:Value} {c:DCode} {k:Int} (h:OwnI lo hi w v c) (hn:zlo c≤1048576) (hk0:0≤k) (hk1:k≤100000000000000000) :
   CALL tp 13 [v,.int .i64 k] w λr w'=>∃ n:Int,r=.int .i64 n∧(k≤n∧n≤k+8388608)∧ChgI lo hi w w':=by
 obtain ⟨F,hM,hF⟩:=h;obtain ⟨a0,a1,a2,a3,a4,F0,F1,F2,F3,F4,rfl,rfl,hnd,m0,m1,m2,m3,m4⟩:=zsX hM;unfold zlo zvl at hn;have d0:=zcm hnd;have d1:=zcm d0.2.1;have d2:=zcm d1.2.1;have d3:=zcm d2.2.1;refine F13_call ?_;unfold F13;refine zla λw1 hx1 hB1=>?_;have hg:∀ b∈F0++(F1++(F2++(F3++F4))),b≠w.heap.size:=λb hb e=>by have:=hM.lt b hb;omega
 refine zab zdi ?_;refine zaA zb1 hB1 rfl ?_;refine (zeJ (m0.ext hx1) (by omega) (by omega) (by omega)).mono ?_;rintro _ w2 ⟨rfl,hc2,_⟩;have hB2:=hB1.chg hc2 λhm=>hg _ (by simp [hm]) rfl;have m12:=(m1.ext hx1).chgD hc2 λb hb h0=>d0.2.2 b h0 (by simp [hb]);have m22:=(m2.ext hx1).chgD hc2 λb hb h0=>d0.2.2 b h0 (by simp [hb]);have m32:=(m3.ext hx1).chgD hc2 λb hb h0=>d0.2.2 b h0 (by simp [hb]);have m42:=(m4.ext hx1).chgD hc2 λb hb h0=>d0.2.2 b h0 (by simp [hb]);refine zab zc5 ?_;refine zaA zb1 hB2 rfl ?_;refine (zeJ m12 (by omega) (by omega) (by omega)).mono ?_;rintro _ w3 ⟨rfl,hc3,_⟩;have hB3:=hB2.chg hc3 λhm=>hg _ (by simp [hm]) rfl;have m23:=m22.chgD hc3 λb hb h0=>d1.2.2 b h0 (by simp [hb]);have m33:=m32.chgD hc3 λb hb h0=>d1.2.2 b h0 (by simp [hb]);have m43:=m42.chgD hc3 λb hb h0=>d1.2.2 b h0 (by simp [hb]);refine zab zbf ?_;refine zaA zb1 hB3 rfl ?_;refine (zeJ m23 (by omega) (by omega) (by omega)).mono ?_;rintro _ w4 ⟨rfl,hc4,_⟩;have hB4:=hB3.chg hc4 λhm=>hg _ (by simp [hm]) rfl;have m34:=m33.chgD hc4 λb hb h0=>d2.2.2 b h0 (by simp [hb]);have m44:=m43.chgD hc4 λb hb h0=>d2.2.2 b h0 (by simp [hb]);refine zab za6 ?_;refine zaA za4 hB4 rfl ?_;refine (zec m34 (by omega) (by omega) (by omega)).mono ?_;rintro _ w5 ⟨rfl,hc5,_⟩;have hB5:=hB4.chg hc5 λhm=>hg _ (by simp [hm]) rfl;have m45:=m44.chgD hc5 λb hb h0=>d3.2.2 b h0 hb;refine zab zaD ?_;refine zaA zcu hB5 rfl ?_;refine (zoD m45 (by omega) (by omega) (by omega)).mono ?_;rintro _ w6 ⟨n,rfl,hn0,hn1,hc6,_⟩;refine ⟨n,rfl,by omega,?_⟩;have hc:Chg (F0++(F1++(F2++(F3++F4)))) w w6:=(((((hx1.chg _).sub hc2 (by simp +contextual)).sub hc3 (by simp +contextual)).sub hc4 (by simp +contextual)).sub hc5 (by simp +contextual)).sub hc6 (by simp +contextual);exact hc.toI hF
def znt (k:Int):List (List Int)→List (List Int)
 | []=>[]
 | x :: r=>cnt k x.length :: znt (k+x.length) r
theorem zhq (k:Int) (l:List (List Int)):(znt k l).length=l.length:=by
 induction l generalizing k with
 | nil=>rfl
 | cons x r ih=>simp [znt,ih]
theorem zoF (k:Int) (l m:List (List Int)):znt k (l++m)=znt k l++znt (k+nLL l) m:=by
 induction l generalizing k with
 | nil=>simp [znt,nLL,sm]
 | cons x r ih=>simp [znt,ih,nLL,sm,Int.add_assoc]
theorem znu {w:World} {F:List Nat} {v:Value} {l:List (List Int)} {k:Int} (h:Mine F w v l) (hn:l.length+nLL l≤1073741824) (hk0:0≤k) (hk1:k≤1000000000000000000) :
   CALL tp 19 [v,.int .i64 k] w λr w'=>r=.int .i64 (k+nLL l)∧Chg F w w'∧OwnS F w' v (znt k l):=by
 refine F19_call ?_;unfold F19;refine zam l.length (λi us w'=>us=[.int .i64 (k+nLL (l.take i)),.int .i64 (i:Int)]∧Chg F w w'∧OwnS F w' v (znt k (l.take i)++l.drop i)) 0 (z0 _) ⟨by simp [nLL,sm],Chg.refl _ _,by simpa [znt] using h.toS⟩ ?_;rintro i m u w2 hkm ⟨hu,hc2,F',hm2,hF'⟩;obtain ⟨hu1,hu2⟩:=zbL hu;rw [hu1,hu2];have hlen:(znt k (l.take i)++l.drop i).length=l.length:=by simp [zhq];omega
 refine zae u39 hm2.is ?_;rw [hlen];refine zag ?_;refine br (λhlt=>?_) (λhge=>?_)
 · have hi:i<l.length:=by omega
   have h1:=zoU hi;have h2:=zwr (l:=l) (i+1);refine zcI u39 za4 hm2 (by omega) λb o G hL=>?_;refine zed za4 hL λu3 hM3 hG3 hb3=>?_
   have hget:(znt k (l.take i)++l.drop i)[i]'(by omega)=l[i]:=by
     rw [List.getElem_append_right (by rw [zhq,List.length_take];omega)];simp [zhq,Nat.min_eq_left (Nat.le_of_lt hi)]
   rw [hget] at hM3;refine (zec hM3 (by omega) (by omega) (by omega)).mono ?_;rintro _ w3 ⟨rfl,hc3,hm3⟩;obtain ⟨F4,hm4,hF4⟩:=hb3 w3 G _ hc3 hm3 λc hc=>.inl hc;refine zas ?_;refine ⟨m-1,by omega,i+1,by omega,by rw [h1];simp [Int.add_assoc],hc2.sub hc3 λc hc=>hF' c (hG3 c hc),F4,?_,λc hc=>?_⟩
   · have:(znt k (l.take i)++l.drop i).set i (cnt (k+nLL (l.take i)) l[i].length)=znt k (l.take (i+1))++l.drop (i+1):=by
       rw [List.drop_eq_getElem_cons hi,List.set_append_right _ _ (by rw [zhq,List.length_take];omega),tk hi,zoF,zhq,List.length_take,Nat.min_eq_left (Nat.le_of_lt hi),Nat.sub_self,List.set_cons_zero];simp only [znt,List.append_assoc,List.cons_append,List.nil_append]
     rw [←this];exact hm4
   rcases hF4 c hc with h | h
   · exact hF' c h
   exact hF' c (hG3 c h)
 have:i=l.length:=by omega
 subst this;rw [List.take_length,List.drop_length,List.append_nil] at hm2;exact ⟨by rw [List.take_length],hc2,F',hm2,hF'⟩
def nSt (s:DState):Nat:=s.vars.length+s.owner.length+nLL s.stacks
def zw2 (k:Int) (s:DState):DState:=⟨cnt k s.vars.length,cnt (k+s.vars.length) s.owner.length,znt (k+s.vars.length+s.owner.length) s.stacks⟩
theorem zki {w:World} {F:List Nat} {v:Value} {s:DState} (h:Mine F w v s):∃ (a0 a1 a2:Value) (F0 F1 F2:List Nat),v=.agg #[a0,a1,a2]∧F=F0++(F1++F2)∧F.Nodup ∧
   Mine F0 w a0 s.vars∧Mine F1 w a1 s.owner∧Mine F2 w a2 s.stacks:=by
 obtain ⟨⟨cs,hr,rfl⟩,hn,hw⟩:=h;obtain ⟨F0,c0,F1,c1,F2,c2,rfl,rfl,h0,h1,h2⟩:=zpZ hr;have n0:=zcm hn;have n1:=zcm n0.2.1;obtain ⟨a0,rfl,m0⟩:=zcC h0 n0.1 (hw.sub (by simp +contextual));obtain ⟨a1,rfl,m1⟩:=zcC h1 n1.1 (hw.sub (by simp +contextual));obtain ⟨a2,rfl,m2⟩:=zcC h2 n1.2.1 (hw.sub (by simp +contextual));exact ⟨a0,a1,a2,F0,F1,F2,rfl,rfl,hn,m0,m1,m2⟩
theorem zkj {w:World} {F:List Nat} {v:Value} {s:DState} {k:Int} (hM:Mine F w v s) (hn:s.stacks.length+nSt s≤1073741824) (hk0:0≤k) (hk1:k≤100000000000000000) :
   CALL tp 31 [v,.int .i64 k] w λr w'=>r=.int .i64 (k+nSt s)∧Chg F w w'∧OwnS F w' v (zw2 k s):=by
 obtain ⟨a0,a1,a2,F0,F1,F2,rfl,rfl,hnd,m0,m1,m2⟩:=zki hM;unfold nSt at hn;have d0:=zcm hnd;have d1:=zcm d0.2.1;refine F31_call ?_;unfold F31;refine zla λw1 hx1 hB1=>?_;have hg:∀ b∈F0++(F1++F2),b≠w.heap.size:=λb hb e=>by have:=hM.lt b hb;omega
 refine zab zgT ?_;refine zaA za4 hB1 rfl ?_;refine (zec (m0.ext hx1) (by omega) (by omega) (by omega)).mono ?_;rintro _ w2 ⟨rfl,hc2,r0⟩;have hB2:=hB1.chg hc2 λhm=>hg _ (by simp [hm]) rfl;have m12:=(m1.ext hx1).chgD hc2 λb hb h0=>d0.2.2 b h0 (by simp [hb]);have m22:=(m2.ext hx1).chgD hc2 λb hb h0=>d0.2.2 b h0 (by simp [hb]);refine zab zeN ?_;refine zaA za4 hB2 rfl ?_;refine (zec m12 (by omega) (by omega) (by omega)).mono ?_;rintro _ w3 ⟨rfl,hc3,r1⟩;have hB3:=hB2.chg hc3 λhm=>hg _ (by simp [hm]) rfl;have m23:=m22.chgD hc3 λb hb h0=>d1.2.2 b h0 hb;refine zab zcl ?_;refine zaA zhy hB3 rfl ?_;refine (znu m23 (by omega) (by omega) (by omega)).mono ?_;rintro _ w4 ⟨rfl,hc4,F4,r2,hF4⟩;have r03:=(r0.chgD hc3 λb hb h0=>d0.2.2 b hb (by simp [h0])).chgD hc4 λb hb h0=>d0.2.2 b hb (by simp [h0]);have r13:=r1.chgD hc4 λb hb h0=>d1.2.2 b hb h0;have hc:Chg (F0++(F1++F2)) w w4:=(((hx1.chg _).sub hc2 (by simp +contextual)).sub hc3 (by simp +contextual)).sub hc4 (by simp +contextual);refine ⟨by unfold nSt;simp [Int.add_assoc],hc,F0++(F1++F4),zkq (s:=zw2 k s) r03 r13 r2 ?_,λb hb=>?_⟩
 · rw [List.nodup_append,List.nodup_append]
   refine ⟨d0.1,⟨d1.1,r2.nodup,λa ha b hb e=>d1.2.2 a ha (hF4 _ (e▸hb))⟩,λa ha b hb e=>?_⟩;subst e;rcases List.mem_append.1 hb with hb | hb
   · exact d0.2.2 a ha (by simp [hb])
   exact d0.2.2 a ha (by simp [hF4 a hb])
 rcases List.mem_append.1 hb with hb | hb
 · simp [hb]
 rcases List.mem_append.1 hb with hb | hb
 · simp [hb]
 simp [hF4 b hb]
theorem znv {w:World} {lo hi:Nat} {v:Value} {s:DState} {k:Int} (h:OwnI lo hi w v s) (hn:s.stacks.length+nSt s≤1073741824) (hk0:0≤k) (hk1:k≤100000000000000000) :
   CALL tp 31 [v,.int .i64 k] w λr w'=>r=.int .i64 (k+nSt s)∧ChgI lo hi w w'∧OwnI lo hi w' v (zw2 k s):=by
 obtain ⟨F,hM,hF⟩:=h;exact (zkj hM hn hk0 hk1).mono λr w' ⟨h1,h2,h3⟩=>⟨h1,h2.toI hF,h3.toI hF⟩
theorem zqP {w:World} {lo hi:Nat} {v:Value} {l:List Int} {k:Int} (h:OwnI lo hi w v l) (hn:l.length≤1073741824) (hk0:0≤k) (hk1:k≤100000000000000000) :
   CALL tp 14 [v,.int .i64 k] w λr w'=>r=.int .i64 (k+l.length)∧ChgI lo hi w w'∧OwnI lo hi w' v (cnt k l.length):=by
 obtain ⟨F,hM,hF⟩:=h;exact (zec hM hn hk0 (by omega)).mono λr w' ⟨h1,h2,h3⟩=>⟨h1,h2.toI hF,h3.toS.toI hF⟩
theorem zj5 {w w0:World} {v:Value} {n:Nat} {k:Int} (h:Is w0 v (cnt k n)) (hx:Ext w0 w) (hn:n≤1073741824) (hk0:0≤k) (hk1:k≤100000000000000000) :
   CALL tp 15 [v,.int .i64 k] w λr w'=>Ext w w'∧r=.int .i64 (k+n):=(znI h hx hn hk0 (by omega)).mono λr w' ⟨h1,h2⟩=>⟨h2,h1⟩
def F24 (a0 a1:Value) (w:World) (R:VW):Prop:=
 LOOPI [1,5] [a1,(iV 0)] w λu2 w n2=>
 rN 43 3 a0 w λx8=>
 rC (u2 5) x8 w λx9=>
 BR x9
 (rX 43 a0 (u2 5) w λx15=>
 rF 79 x15 0 w λx16=>
 oS 3 x16 (u2 1) w λw=>
 rI (u2 1) w λx18=>
 rX 43 a0 (u2 5) w λx22=>
 rF 79 x22 1 w λx23=>
 oS 3 x23 x18 w λw=>
 rI x18 w λx25=>
 rX 43 a0 (u2 5) w λx29=>
 rF 79 x29 2 w λx30=>
 oS 3 x30 x25 w λw=>
 rI x25 w λx32=>
 rI (u2 5) w λx11=>
 n2 [x32,x11] w)
 (R (u2 1) w)
theorem F24_call {a0 a1 w R} (h:F24 a0 a1 w R):cL 24 [a0,a1] w R:=co (g:=(kf [] [(2,8589934562,[1,5])] [])) Tryz.func24 h
def F25 (a0 a1:Value) (w:World) (R:VW):Prop:=
 LOOPI [1,5] [a1,(iV 0)] w λu2 w n2=>
 rN 43 3 a0 w λx8=>
 rC (u2 5) x8 w λx9=>
 BR x9
 (rX 43 a0 (u2 5) w λx14=>
 rF 79 x14 0 w λx15=>
 rL 3 x15 w λx16=>
 rB .neq 3 T0 T0 x16 (u2 1) w λx18=>
 BR x18
 (R (iV (-1)) w)
 (rI (u2 1) w λx20=>
 rX 43 a0 (u2 5) w λx23=>
 rF 79 x23 1 w λx24=>
 rL 3 x24 w λx25=>
 rB .neq 3 T0 T0 x25 x20 w λx27=>
 BR x27
 (R (iV (-1)) w)
 (rI x20 w λx29=>
 rX 43 a0 (u2 5) w λx32=>
 rF 79 x32 2 w λx33=>
 rL 3 x33 w λx34=>
 rB .neq 3 T0 T0 x34 x29 w λx36=>
 BR x36
 (R (iV (-1)) w)
 (rI x29 w λx38=>
 rI (u2 5) w λx11=>
 n2 [x38,x11] w))))
 (R (u2 1) w)
theorem F25_call {a0 a1 w R} (h:F25 a0 a1 w R):cL 25 [a0,a1] w R:=co (g:=(kf [] [(2,549755813874,[1,5])] [])) Tryz.func25 h
def zl0 (k:Int):DRace:=⟨k,k+1,k+1+1⟩
def zcP (k:Int) (n:Nat):List DRace:=(List.range n).map λi:Nat=>zl0 (k+3*(i:Int))
theorem zcG (k:Int) (n:Nat):(zcP k n).length=n:=by simp [zcP]
theorem znw (k:Int) (n:Nat):zcP k (n+1)=zcP k n++[zl0 (k+3*(n:Int))]:=by simp [zcP,List.range_succ]
theorem zoG (k:Int) (n:Nat) {i:Nat} (hi:i<n):(zcP k n)[i]'(by rw [zcG];exact hi)=zl0 (k+3*(i:Int)):=by simp [zcP]
theorem znx {w:World} {F:List Nat} {v:Value} {l:List DRace} {k:Int} (h:Mine F w v l) (hn:l.length≤1073741824) (hk0:0≤k) (hk1:k≤1000000000000000000) :
   CALL tp 24 [v,.int .i64 k] w λr w'=>r=.int .i64 (k+3*(l.length:Int))∧Chg F w w'∧OwnS F w' v (zcP k l.length):=by
 refine F24_call ?_;unfold F24;refine zam l.length (λi us w'=>us=[.int .i64 (k+3*(i:Int)),.int .i64 (i:Int)]∧Chg F w w'∧OwnS F w' v (zcP k i++l.drop i)) 0 (z0 _) ⟨by simp,Chg.refl _ _,by simpa [zcP] using h.toS⟩ ?_;rintro i m u w0 hkm ⟨hu,hc,F',hm0,hF'⟩;obtain ⟨hu1,hu2⟩:=zbL hu;rw [hu1,hu2];have hlen:(zcP k i++l.drop i).length=l.length:=by rw [List.length_append,zcG,List.length_drop];omega
 refine zae u43 hm0.is ?_;rw [hlen];refine zag ?_;refine br (λhlt=>?_) (λhge=>?_)
 · have hi:i<l.length:=by omega
   have hset:(zcP k i++l.drop i).set i (zl0 (k+3*(i:Int)))=zcP k (i+1)++l.drop (i+1):=by
     rw [List.drop_eq_getElem_cons hi,List.set_append_right _ _ (by rw [zcG];omega),zcG,Nat.sub_self,List.set_cons_zero,znw];simp only [List.append_assoc,List.cons_append,List.nil_append]
   generalize hL:zcP k i++l.drop i=L at hm0 hlen hset;clear hL;obtain ⟨q,hq⟩:∃ q,q=k+3*(i:Int):=⟨_,rfl⟩;rw [←hq] at hset ⊢;refine zgd (α:=DRace) (β:=Int) (sel:=DRace.g) (g:=λa y=>⟨y,a.a,a.b⟩) u43 zbX zgc ty3 (λh=>zmi h) hm0 (by first | omega | (simp only [List.length_set];omega)) (zbh (by unfold I64;omega)) λw1 F1 hc1 hm1 hF1=>?_;refine zcL (by unfold I64;omega) ?_;refine zgd (α:=DRace) (β:=Int) (sel:=DRace.a) (g:=λa y=>⟨a.g,y,a.b⟩) u43 zbX zfw ty3 (λh=>zh4 h) hm1 (by first | omega | (simp only [List.length_set];omega)) (zbh (by unfold I64;omega)) λw2 F2 hc2 hm2 hF2=>?_;refine zcL (by unfold I64;omega) ?_;refine zgd (α:=DRace) (β:=Int) (sel:=DRace.b) (g:=λa y=>⟨a.g,a.a,y⟩) u43 zbX zgU ty3 (λh=>zh5 h) hm2 (by first | omega | (simp only [List.length_set];omega)) (zbh (by unfold I64;omega)) λw3 F3 hc3 hm3 hF3=>?_;refine zcL (by unfold I64;omega) ?_;refine zas ?_;simp only [List.set_set,List.getElem_set_self] at hm3;have hcc:Chg F' w0 w3:=((hc1).sub hc2 λc hc=>hF1 c hc).sub hc3 λc hc=>hF1 c (hF2 c hc);refine ⟨m-1,by omega,i+1,by omega,by rw [hq];simp only [List.cons.injEq,Value.int.injEq,true_and,and_true,Int.natCast_add,Int.natCast_one];omega,hc.sub hcc hF',F3,?_,λc hc=>hF' c (hF1 c (hF2 c (hF3 c hc)))⟩;rw [←hset];exact hm3
 have:i=l.length:=by omega
 subst this;rw [List.drop_length,List.append_nil] at hm0;exact ⟨rfl,hc,F',hm0,hF'⟩
theorem zoH {w:World} {lo hi:Nat} {v:Value} {l:List DRace} {k:Int} (h:OwnI lo hi w v l) (hn:l.length≤1073741824) (hk0:0≤k) (hk1:k≤1000000000000000000) :
   CALL tp 24 [v,.int .i64 k] w λr w'=>r=.int .i64 (k+3*(l.length:Int))∧ChgI lo hi w w'∧OwnI lo hi w' v (zcP k l.length):=by
 obtain ⟨F,hM,hF⟩:=h;exact (znx hM hn hk0 hk1).mono λr w' ⟨h1,h2,h3⟩=>⟨h1,h2.toI hF,h3.toI hF⟩
theorem zii {w w0:World} {v:Value} {n:Nat} {k:Int} (h:Is w0 v (zcP k n)) (hx:Ext w0 w) (hn:n≤1073741824) (hk0:0≤k) (hk1:k≤1000000000000000000) :
   CALL tp 25 [v,.int .i64 k] w λr w'=>Ext w w'∧r=.int .i64 (k+3*(n:Int)):=by
 refine F25_call ?_;unfold F25;refine zam n (λi us w'=>us=[.int .i64 (k+3*(i:Int)),.int .i64 (i:Int)]∧Ext w w') 0 (z0 _) ⟨by simp,Ext.refl w⟩ ?_;rintro i m u w2 hkm ⟨hu,hx2⟩;obtain ⟨hu1,hu2⟩:=zbL hu;rw [hu1,hu2];refine zae u43 h ?_;rw [zcG];refine zag ?_;refine br (λhlt=>?_) (λhge=>?_)
 · have hi:i<n:=by omega
   have hg:=zoG k n hi;obtain ⟨q,hq⟩:∃ q,q=k+3*(i:Int):=⟨_,rfl⟩;rw [←hq] at hg ⊢;refine zac u43 zbX h (by rw [zcG];exact hi) λb0 o0 hA0=>?_;rw [hg] at hA0;refine zab zgc ?_;refine zad ty3 (zdx hA0) (hx.t hx2) λ_=>?_;refine zaB ?_;refine br (λh=>absurd rfl h) (λ_=>?_);refine zcL (by unfold I64;omega) ?_;refine zac u43 zbX h (by rw [zcG];exact hi) λb1 o1 hA1=>?_;rw [hg] at hA1;refine zab zfw ?_;refine zad ty3 (zdy hA1) (hx.t hx2) λ_=>?_;refine zaB ?_;refine br (λh=>absurd rfl h) (λ_=>?_);refine zcL (by unfold I64;omega) ?_;refine zac u43 zbX h (by rw [zcG];exact hi) λb2 o2 hA2=>?_;rw [hg] at hA2;refine zab zgU ?_;refine zad ty3 (zeP hA2) (hx.t hx2) λ_=>?_;refine zaB ?_;refine br (λh=>absurd rfl h) (λ_=>?_);refine zcL (by unfold I64;omega) ?_;refine zas ?_;exact ⟨m-1,by omega,i+1,by omega,by rw [hq];simp only [List.cons.injEq,Value.int.injEq,true_and,and_true,Int.natCast_add,Int.natCast_one];omega,hx2⟩
 have:i=n:=by omega
 subst this;exact ⟨hx2,rfl⟩
theorem zsY {c:DCode} {n m:Int} (hm:m≤1048576) (h:-1≤n∧n≤m∧(0≤n→n+zlo c≤m)) (hc:¬n<0):zlo c≤1048576:=by
 have:=h.2.2 (by omega);omega
theorem zsZ {s:DState} {n m:Int} (hm:m≤1048576) (h:-1≤n∧n≤m∧(0≤n→(s.vars.length:Int)≤m∧(s.owner.length:Int)≤m∧(s.stacks.length:Int)≤m∧(∀ x∈s.stacks,(x.length:Int)≤m)∧n+s.vars.length+s.owner.length+s.stacks.length+nLL s.stacks≤m)) (c:¬n<0):zxe s:=by
 obtain ⟨h1,h2,h3⟩:=h;obtain ⟨h4,h5,h6,h7,h8⟩:=h3 (by omega);exact ⟨by omega,by omega,by omega,λx hx=>by have:=h7 x hx;omega⟩
theorem zuh {s:DState} {n m:Int} (hm:m≤1048576) (h:-1≤n∧n≤m∧(0≤n→(s.vars.length:Int)≤m∧(s.owner.length:Int)≤m∧(s.stacks.length:Int)≤m∧(∀ x∈s.stacks,(x.length:Int)≤m)∧n+s.vars.length+s.owner.length+s.stacks.length+nLL s.stacks≤m)) (c:¬n<0):s.stacks.length+nSt s≤1073741824:=by
 have:=(h.2.2 (by omega)).2.2.2.2;unfold nSt;omega
def F6 (a0 a1:Value) (w:World) (R:VW):Prop:=
 oX 26 a0 w λx2 w=>
 oX 49 a1 w λx3 w=>
 rL 26 x2 w λx17=>
 cL 7 [x17,(iV 1048576)] w λx19 w=>
 rB .lss 3 T0 U0 x19 (iV 0) w λx21=>
 BR x21
 (R vT w)
 (rL 49 x3 w λx22=>
 cL 26 [x22,x19] w λx24 w=>
 rB .lss 3 T0 U0 x24 (iV 0) w λx26=>
 BR x26
 (R vT w)
 ((λw=>rL 26 x2 w λx28=>
 rL 49 x3 w λx30=>
 (λw_=>cL 9 [x28] w_ λx29 w=>
 Ext w_ w ∧
 cL 28 [x30] w λx31 w=>
 cL 27 [x29,x31] w λx32 w=>
 rE x32 0 w λx33=>
 rE x32 1 w λx34=>
 rL 26 x2 w λx35=>
 cL 9 [x35] w λx36 w=>
 oP (aL 32) w λx8 w=>
 oS 32 x8 x36 w λw=>
 rL 49 x3 w λx37=>
 cL 28 [x37] w λx38 w=>
 oP (aL 53) w λx9 w=>
 oS 53 x9 x38 w λw=>
 rL 32 x8 w λx40=>
 rL 53 x9 w λx41=>
 cL 29 [x40,x41] w λx42 w=>
 rE x42 0 w λx43=>
 rE x42 1 w λx44=>
 cL 23 [x43,x33] w λx47 w=>
 rT x47 w λx48=>
 BR x48
 (R vF w)
 (cL 11 [x44,x34] w λx52 w=>
 rT x52 w λx53=>
 BR x53
 (R vF w)
 ((λw=>rL 32 x8 w λx55=>
 rL 26 x2 w λx56=>
 (λw_=>cL 9 [x56] w_ λx57 w=>
 Ext w_ w ∧
 cL 12 [x55,x57] w λx58 w=>
 rT x58 w λx59=>
 BR x59
 (R vF w)
 ((λw=>rL 53 x9 w λx60=>
 rL 49 x3 w λx61=>
 (λw_=>cL 28 [x61] w_ λx62 w=>
 Ext w_ w ∧
 cL 30 [x60,x62] w λx63 w=>
 rT x63 w λx64=>
 BR x64
 (R vF w)
 (rL 32 x8 w λx65=>
 cL 13 [x65,(iV 1)] w λx67 w=>
 rL 53 x9 w λx68=>
 cL 31 [x68,x67] w λx70 w=>
 rB .lss 3 T0 U0 x70 (iV 0) w λx72=>
 BR x72
 (R vF w)
 (cL 23 [x43,x33] w λx76 w=>
 rT x76 w λx77=>
 BR x77
 (R vF w)
 (cL 11 [x44,x34] w λx82 w=>
 rT x82 w λx83=>
 BR x83
 (R vF w)
 (cL 24 [x43,(iV 1)] w λx87 w=>
 cL 14 [x44,x87] w λx90 w=>
 cL 25 [x43,(iV 1)] w λx93 w=>
 rB .lss 3 T0 U0 x93 (iV 0) w λx95=>
 BR x95
 (R vF w)
 (cL 15 [x44,x93] w λx98 w=>
 rB .lss 3 T0 U0 x98 (iV 0) w λx100=>
 BR x100
 (R vF w)
 (rB .neq 3 T0 T0 x98 x90 w λx103=>
 BR x103
 (R vF w)
 ((λw=>rL 26 x2 w λx105=>
 rL 49 x3 w λx107=>
 (λw_=>cL 9 [x105] w_ λx106 w=>
 Ext w_ w ∧
 cL 28 [x107] w λx108 w=>
 cL 29 [x106,x108] w λx109 w=>
 rE x109 0 w λx110=>
 rE x109 1 w λx111=>
 cL 23 [x110,x33] w λx114 w=>
 rT x114 w λx115=>
 BR x115
 (R vF w)
 (cL 11 [x111,x34] w λx119 w=>
 rT x119 w λx120=>
 BR x120
 (R vF w)
 (cL 25 [x43,(iV 1)] w λx124 w=>
 rB .lss 3 T0 U0 x124 (iV 0) w λx126=>
 BR x126
 (R vF w)
 (cL 15 [x44,x124] w λx129 w=>
 rB .lss 3 T0 U0 x129 (iV 0) w λx131=>
 BR x131
 (R vF w)
 (rB .neq 3 T0 T0 x129 x90 w λx134=>
 BR x134
 (R vF w)
 (R vT w)))))) w) (World.drew1 w))))))))) w) (World.drew1 w))) w) (World.drew1 w)))) w) (World.drew1 w)))
theorem F6_call {a0 a1 w R} (h:F6 a0 a1 w R):cL 6 [a0,a1] w R:=co (g:=(kf [] [] [(8,[0,2,1,3,4,5,6,7,8,9],2),(14,[0,1,2,3,4],4),(16,[0,1,2,3,4],4),(35,[0,2,1,3,4,5,6,7,8,9],2)])) Tryz.func6 h
theorem zs0 {w:World} {v0:Value} {W0:World} {c:DCode} {v1:Value} {W1:World} {s:DState}  (h0:Is W0 v0 c) (e0:Ext W0 w) (h1:Is W1 v1 s) (e1:Ext W1 w)  :
   CALL tp 6 [v0,v1] w λr w'=>Ext w w'∧(r=.bool true):=by
 refine F6_call ?_;unfold F6;have σe0:=e0.size;have σe1:=e1.size;refine zar zwT rfl h0 e0 λw1_ η1 hA2 hV2=>?_;have σ1:=η1.size;refine zar zw6 rfl h1 (e1.trans η1) λw2_ η2 hA3 hV3=>?_;have σ2:=η2.size;refine zaR hV2 η2 ?_;refine (zrH h0 (e0.t (η1.t η2)) (by omega) (by omega)).mono ?_;rintro _ w3_ ⟨η3,n19,rfl,hn19⟩;have σ3:=η3.size;refine zag ?_;refine br (λc1=>?_) (λc1=>?_)
 · refine ⟨(η1.t (η2.t η3)),?_⟩
   first | rfl | contradiction | (exfalso;omega)
 refine zaR hV3 η3 ?_;refine (zp2 h1 (e1.trans (η1.t (η2.t η3))) (by omega) (by omega)).mono ?_;rintro _ w4_ ⟨η4,n24,rfl,hn24⟩;have σ4:=η4.size;refine zag ?_;refine br (λc2=>?_) (λc2=>?_)
 · refine ⟨(η1.t (η2.t (η3.t η4))),?_⟩
   first | rfl | contradiction | (exfalso;omega)
 have η5:=zaj w4_;have σ5:=η5.size;have hcd:=zsY (by omega) hn19 c1;have hst:=zsZ (by omega) hn24 c2;have hsn:=zuh (by omega) hn24 c2;have hlr:=zoz c s;have hlk:=zoA c s;refine zaR hV2 (η2.t (η3.t (η4.t η5))) ?_;refine zaR hV3 (η3.t (η4.t η5)) ?_;refine (zg5 (h0.ext (e0.t (η1.t (η2.t (η3.t (η4.t η5)))))) (by omega)).mono ?_;rintro r29 w6_ ⟨η6,o29⟩;have o29:=o29.toI;have σ6:=η6.size;refine ⟨η6,?_⟩;refine (zfT (h1.ext (e1.trans (η1.t (η2.t (η3.t (η4.t (η5.t η6))))))) (by assumption)).mono ?_;rintro r31 w7_ ⟨η7,o31⟩;have o31:=o31.toI;have σ7:=η7.size;refine (zlZ o29.is η7 o31.is (Ext.refl w7_)).mono ?_;rintro _ w8_ ⟨η8,r32_0,r32_1,rfl,o32_0,o32_1⟩;have o32_0:=o32_0.toI;have o32_1:=o32_1.toI;have σ8:=η8.size;refine zbS rfl ?_;refine zbS rfl ?_;refine zaR hV2 (η2.t (η3.t (η4.t (η5.t (η6.t (η7.t η8)))))) ?_;refine (zg5 (h0.ext (e0.t (η1.t (η2.t (η3.t (η4.t (η5.t (η6.t (η7.t η8))))))))) (by omega)).mono ?_;rintro r36 w9_ ⟨η9,o36⟩;have o36:=o36.toI;have σ9:=η9.size;refine zb7 zwU rfl zbq rfl o36.is (Ext.refl w9_) λw10_ η10 hA8 hV8=>?_;have σ10:=η10.size;have hg8:=hV8.lt;refine zaR hV3 (η3.t (η4.t (η5.t (η6.t (η7.t (η8.t (η9.t η10))))))) ?_;refine (zfT (h1.ext (e1.trans (η1.t (η2.t (η3.t (η4.t (η5.t (η6.t (η7.t (η8.t (η9.t η10))))))))))) (by assumption)).mono ?_;rintro r38 w11_ ⟨η11,o38⟩;have o38:=o38.toI;have σ11:=η11.size;refine zb7 zxk rfl zik rfl o38.is (Ext.refl w11_) λw12_ η12 hA9 hV9=>?_;have σ12:=η12.size;have hg9:=hV9.lt;refine zaR hV8 (η11.t η12) ?_;refine zaR hV9 (Ext.refl w12_) ?_;refine (zhp o36.is (η10.t (η11.t η12)) o38.is η12).mono ?_;rintro _ w13_ ⟨η13,a42,b42,lo42,hi42,lo42_,hi42_,rfl,oa42,ob42,bd42⟩;have σ13:=η13.size;refine zbS rfl ?_;refine zbS rfl ?_;refine (zhC oa42.is (Ext.refl w13_) o32_0.is (η9.t (η10.t (η11.t (η12.t η13))))).mono ?_;rintro _ w14_ ⟨η14,rfl⟩;have σ14:=η14.size;refine zaq ?_;refine br (λc3=>?_) (λc3=>?_)
 · refine ⟨(η1.t (η2.t (η3.t (η4.t (η5.t (η6.t (η7.t (η8.t (η9.t (η10.t (η11.t (η12.t (η13.t η14))))))))))))),?_⟩
   first | rfl | contradiction | (exfalso;omega)
 refine (zdz ob42.is η14 o32_1.is (η9.t (η10.t (η11.t (η12.t (η13.t η14)))))).mono ?_;rintro _ w15_ ⟨η15,rfl⟩;have σ15:=η15.size;refine zaq ?_;refine br (λc4=>?_) (λc4=>?_)
 · refine ⟨(η1.t (η2.t (η3.t (η4.t (η5.t (η6.t (η7.t (η8.t (η9.t (η10.t (η11.t (η12.t (η13.t (η14.t η15)))))))))))))),?_⟩
   first | rfl | contradiction | (exfalso;omega)
 have η16:=zaj w15_;have σ16:=η16.size;refine zaR hV8 (η11.t (η12.t (η13.t (η14.t (η15.t η16))))) ?_;refine zaR hV2 (η2.t (η3.t (η4.t (η5.t (η6.t (η7.t (η8.t (η9.t (η10.t (η11.t (η12.t (η13.t (η14.t (η15.t η16)))))))))))))) ?_;refine (zg5 (h0.ext (e0.t (η1.t (η2.t (η3.t (η4.t (η5.t (η6.t (η7.t (η8.t (η9.t (η10.t (η11.t (η12.t (η13.t (η14.t (η15.t η16))))))))))))))))) (by omega)).mono ?_;rintro r57 w17_ ⟨η17,o57⟩;have o57:=o57.toI;have σ17:=η17.size;refine ⟨η17,?_⟩;refine (zrK o36.is (η10.t (η11.t (η12.t (η13.t (η14.t (η15.t (η16.t η17))))))) o57.is (Ext.refl w17_)).mono ?_;rintro _ w18_ ⟨η18,rfl⟩;have σ18:=η18.size;refine zaq ?_;refine br (λc5=>?_) (λc5=>?_)
 · refine ⟨(η1.t (η2.t (η3.t (η4.t (η5.t (η6.t (η7.t (η8.t (η9.t (η10.t (η11.t (η12.t (η13.t (η14.t (η15.t (η16.t (η17.t η18))))))))))))))))),?_⟩
   first | rfl | contradiction | (exfalso;omega)
 have η19:=zaj w18_;have σ19:=η19.size;refine zaR hV9 (η13.t (η14.t (η15.t (η16.t (η17.t (η18.t η19)))))) ?_;refine zaR hV3 (η3.t (η4.t (η5.t (η6.t (η7.t (η8.t (η9.t (η10.t (η11.t (η12.t (η13.t (η14.t (η15.t (η16.t (η17.t (η18.t η19)))))))))))))))) ?_;refine (zfT (h1.ext (e1.trans (η1.t (η2.t (η3.t (η4.t (η5.t (η6.t (η7.t (η8.t (η9.t (η10.t (η11.t (η12.t (η13.t (η14.t (η15.t (η16.t (η17.t (η18.t η19)))))))))))))))))))) (by assumption)).mono ?_;rintro r62 w20_ ⟨η20,o62⟩;have o62:=o62.toI;have σ20:=η20.size;refine ⟨η20,?_⟩;refine (zp3 o38.is (η12.t (η13.t (η14.t (η15.t (η16.t (η17.t (η18.t (η19.t η20)))))))) o62.is (Ext.refl w20_)).mono ?_;rintro _ w21_ ⟨η21,rfl⟩;have σ21:=η21.size;refine zaq ?_;refine br (λc6=>?_) (λc6=>?_)
 · refine ⟨(η1.t (η2.t (η3.t (η4.t (η5.t (η6.t (η7.t (η8.t (η9.t (η10.t (η11.t (η12.t (η13.t (η14.t (η15.t (η16.t (η17.t (η18.t (η19.t (η20.t η21)))))))))))))))))))),?_⟩
   first | rfl | contradiction | (exfalso;omega)
 refine zaR hV8 (η11.t (η12.t (η13.t (η14.t (η15.t (η16.t (η17.t (η18.t (η19.t (η20.t η21)))))))))) ?_;refine (zoE (o36.ext (η10.t (η11.t (η12.t (η13.t (η14.t (η15.t (η16.t (η17.t (η18.t (η19.t (η20.t η21)))))))))))) (by omega) (by omega) (by omega)).mono ?_;rintro _ w22_ ⟨n67,rfl,hn67,hc22_⟩;have σhc22_:=hc22_.size;have o29_c22:=(o29.ext (η7.t (η8.t (η9.t (η10.t (η11.t (η12.t (η13.t (η14.t (η15.t (η16.t (η17.t (η18.t (η19.t (η20.t η21))))))))))))))).chg hc22_ (by omega);have o31_c22:=(o31.ext (η8.t (η9.t (η10.t (η11.t (η12.t (η13.t (η14.t (η15.t (η16.t (η17.t (η18.t (η19.t (η20.t η21)))))))))))))).chg hc22_ (by omega);have o32_0_c22:=(o32_0.ext (η9.t (η10.t (η11.t (η12.t (η13.t (η14.t (η15.t (η16.t (η17.t (η18.t (η19.t (η20.t η21))))))))))))).chg hc22_ (by omega);have o32_1_c22:=(o32_1.ext (η9.t (η10.t (η11.t (η12.t (η13.t (η14.t (η15.t (η16.t (η17.t (η18.t (η19.t (η20.t η21))))))))))))).chg hc22_ (by omega);have hV8_c22:=(hV8.ext (η11.t (η12.t (η13.t (η14.t (η15.t (η16.t (η17.t (η18.t (η19.t (η20.t η21))))))))))).chgI hc22_ (by omega);have o38_c22:=(o38.ext (η12.t (η13.t (η14.t (η15.t (η16.t (η17.t (η18.t (η19.t (η20.t η21)))))))))).chg hc22_ (by omega);have hV9_c22:=(hV9.ext (η13.t (η14.t (η15.t (η16.t (η17.t (η18.t (η19.t (η20.t η21))))))))).chgI hc22_ (by omega);have oa42_c22:=(oa42.ext (η14.t (η15.t (η16.t (η17.t (η18.t (η19.t (η20.t η21)))))))).chg hc22_ (by omega);have ob42_c22:=(ob42.ext (η14.t (η15.t (η16.t (η17.t (η18.t (η19.t (η20.t η21)))))))).chg hc22_ (by omega);have o57_c22:=(o57.ext (η18.t (η19.t (η20.t η21)))).chg hc22_ (by omega);have o62_c22:=(o62.ext η21).chg hc22_ (by omega);refine zaR hV9_c22 (Ext.refl w22_) ?_;refine (znv (o38_c22.ext (Ext.refl w22_)) (by omega) (by omega) (by omega)).mono ?_;rintro _ w23_ ⟨rfl,hc23_,o38_c23⟩;have σhc23_:=hc23_.size;have o29_c23:=(o29_c22.ext (Ext.refl w22_)).chg hc23_ (by omega);have o31_c23:=(o31_c22.ext (Ext.refl w22_)).chg hc23_ (by omega);have o32_0_c23:=(o32_0_c22.ext (Ext.refl w22_)).chg hc23_ (by omega);have o32_1_c23:=(o32_1_c22.ext (Ext.refl w22_)).chg hc23_ (by omega);have hV9_c23:=(hV9_c22.ext (Ext.refl w22_)).chgI hc23_ (by omega);have oa42_c23:=(oa42_c22.ext (Ext.refl w22_)).chg hc23_ (by omega);have ob42_c23:=(ob42_c22.ext (Ext.refl w22_)).chg hc23_ (by omega);have o57_c23:=(o57_c22.ext (Ext.refl w22_)).chg hc23_ (by omega);have o62_c23:=(o62_c22.ext (Ext.refl w22_)).chg hc23_ (by omega);refine zag ?_;refine br (λc7=>?_) (λc7=>?_)
 · refine ⟨(Ext.chgI (Ext.chgI ((((((((((((((((((((η1.t η2).trans η3).trans η4).trans η5).trans η6).trans η7).trans η8).trans η9).trans η10).trans η11).trans η12).trans η13).trans η14).trans η15).trans η16).trans η17).trans η18).trans η19).trans η20).trans η21) hc22_ (by omega)) hc23_ (by omega)),?_⟩
   first | rfl | contradiction | (exfalso;omega)
 refine (zhC oa42_c23.is (Ext.refl w23_) o32_0_c23.is (Ext.refl w23_)).mono ?_;rintro _ w24_ ⟨η24,rfl⟩;have σ24:=η24.size;refine zaq ?_;refine br (λc8=>?_) (λc8=>?_)
 · refine ⟨((Ext.chgI (Ext.chgI ((((((((((((((((((((η1.t η2).trans η3).trans η4).trans η5).trans η6).trans η7).trans η8).trans η9).trans η10).trans η11).trans η12).trans η13).trans η14).trans η15).trans η16).trans η17).trans η18).trans η19).trans η20).trans η21) hc22_ (by omega)) hc23_ (by omega)).trans η24),?_⟩
   first | rfl | contradiction | (exfalso;omega)
 refine (zdz ob42_c23.is η24 o32_1_c23.is η24).mono ?_;rintro _ w25_ ⟨η25,rfl⟩;have σ25:=η25.size;refine zaq ?_;refine br (λc9=>?_) (λc9=>?_)
 · refine ⟨(((Ext.chgI (Ext.chgI ((((((((((((((((((((η1.t η2).trans η3).trans η4).trans η5).trans η6).trans η7).trans η8).trans η9).trans η10).trans η11).trans η12).trans η13).trans η14).trans η15).trans η16).trans η17).trans η18).trans η19).trans η20).trans η21) hc22_ (by omega)) hc23_ (by omega)).trans η24).trans η25),?_⟩
   first | rfl | contradiction | (exfalso;omega)
 refine (zoH (oa42_c23.ext (η24.t η25)) (by omega) (by omega) (by omega)).mono ?_;rintro _ w26_ ⟨rfl,hc26_,oa42_c26⟩;have σhc26_:=hc26_.size;have o29_c26:=(o29_c23.ext (η24.t η25)).chg hc26_ (by omega);have o31_c26:=(o31_c23.ext (η24.t η25)).chg hc26_ (by omega);have o32_0_c26:=(o32_0_c23.ext (η24.t η25)).chg hc26_ (by omega);have o32_1_c26:=(o32_1_c23.ext (η24.t η25)).chg hc26_ (by omega);have o38_c26:=(o38_c23.ext (η24.t η25)).chg hc26_ (by omega);have hV9_c26:=(hV9_c23.ext (η24.t η25)).chgI hc26_ (by omega);have ob42_c26:=(ob42_c23.ext (η24.t η25)).chg hc26_ (by omega);have o57_c26:=(o57_c23.ext (η24.t η25)).chg hc26_ (by omega);have o62_c26:=(o62_c23.ext (η24.t η25)).chg hc26_ (by omega);refine (zqP (ob42_c26.ext (Ext.refl w26_)) (by omega) (by omega) (by omega)).mono ?_;rintro _ w27_ ⟨rfl,hc27_,ob42_c27⟩;have σhc27_:=hc27_.size;have o29_c27:=(o29_c26.ext (Ext.refl w26_)).chg hc27_ (by omega);have o31_c27:=(o31_c26.ext (Ext.refl w26_)).chg hc27_ (by omega);have o32_0_c27:=(o32_0_c26.ext (Ext.refl w26_)).chg hc27_ (by omega);have o32_1_c27:=(o32_1_c26.ext (Ext.refl w26_)).chg hc27_ (by omega);have o38_c27:=(o38_c26.ext (Ext.refl w26_)).chg hc27_ (by omega);have hV9_c27:=(hV9_c26.ext (Ext.refl w26_)).chgI hc27_ (by omega);have oa42_c27:=(oa42_c26.ext (Ext.refl w26_)).chg hc27_ (by omega);have o57_c27:=(o57_c26.ext (Ext.refl w26_)).chg hc27_ (by omega);have o62_c27:=(o62_c26.ext (Ext.refl w26_)).chg hc27_ (by omega);refine (zii oa42_c27.is (Ext.refl w27_) (by omega) (by omega) (by omega)).mono ?_;rintro _ w28_ ⟨η28,rfl⟩;have σ28:=η28.size;refine zag ?_;refine br (λc10=>?_) (λc10=>?_)
 · refine ⟨((Ext.chgI (Ext.chgI (((Ext.chgI (Ext.chgI ((((((((((((((((((((η1.t η2).trans η3).trans η4).trans η5).trans η6).trans η7).trans η8).trans η9).trans η10).trans η11).trans η12).trans η13).trans η14).trans η15).trans η16).trans η17).trans η18).trans η19).trans η20).trans η21) hc22_ (by omega)) hc23_ (by omega)).trans η24).trans η25) hc26_ (by omega)) hc27_ (by omega)).trans η28),?_⟩
   first | rfl | contradiction | (exfalso;omega)
 refine (zj5 ob42_c27.is η28 (by omega) (by omega) (by omega)).mono ?_;rintro _ w29_ ⟨η29,rfl⟩;have σ29:=η29.size;refine zag ?_;refine br (λc11=>?_) (λc11=>?_)
 · refine ⟨(((Ext.chgI (Ext.chgI (((Ext.chgI (Ext.chgI ((((((((((((((((((((η1.t η2).trans η3).trans η4).trans η5).trans η6).trans η7).trans η8).trans η9).trans η10).trans η11).trans η12).trans η13).trans η14).trans η15).trans η16).trans η17).trans η18).trans η19).trans η20).trans η21) hc22_ (by omega)) hc23_ (by omega)).trans η24).trans η25) hc26_ (by omega)) hc27_ (by omega)).trans η28).trans η29),?_⟩
   first | rfl | contradiction | (exfalso;omega)
 refine zaB ?_;refine br (λc12=>?_) (λc12=>?_)
 · refine ⟨(((Ext.chgI (Ext.chgI (((Ext.chgI (Ext.chgI ((((((((((((((((((((η1.t η2).trans η3).trans η4).trans η5).trans η6).trans η7).trans η8).trans η9).trans η10).trans η11).trans η12).trans η13).trans η14).trans η15).trans η16).trans η17).trans η18).trans η19).trans η20).trans η21) hc22_ (by omega)) hc23_ (by omega)).trans η24).trans η25) hc26_ (by omega)) hc27_ (by omega)).trans η28).trans η29),?_⟩
   first | rfl | contradiction | (exfalso;omega)
 have η30:=zaj w29_;have σ30:=η30.size;refine zaR hV2 ((((Ext.chgI (Ext.chgI (((Ext.chgI (Ext.chgI (((((((((((((((((((η2.t η3).trans η4).trans η5).trans η6).trans η7).trans η8).trans η9).trans η10).trans η11).trans η12).trans η13).trans η14).trans η15).trans η16).trans η17).trans η18).trans η19).trans η20).trans η21) hc22_ (by omega)) hc23_ (by omega)).trans η24).trans η25) hc26_ (by omega)) hc27_ (by omega)).trans η28).trans η29).trans η30) ?_;refine zaR hV3 ((((Ext.chgI (Ext.chgI (((Ext.chgI (Ext.chgI ((((((((((((((((((η3.t η4).trans η5).trans η6).trans η7).trans η8).trans η9).trans η10).trans η11).trans η12).trans η13).trans η14).trans η15).trans η16).trans η17).trans η18).trans η19).trans η20).trans η21) hc22_ (by omega)) hc23_ (by omega)).trans η24).trans η25) hc26_ (by omega)) hc27_ (by omega)).trans η28).trans η29).trans η30) ?_;refine (zg5 (h0.ext ((((Ext.chgI (Ext.chgI (((Ext.chgI (Ext.chgI (((((((((((((((((((((e0.t η1).trans η2).trans η3).trans η4).trans η5).trans η6).trans η7).trans η8).trans η9).trans η10).trans η11).trans η12).trans η13).trans η14).trans η15).trans η16).trans η17).trans η18).trans η19).trans η20).trans η21) hc22_ (by omega)) hc23_ (by omega)).trans η24).trans η25) hc26_ (by omega)) hc27_ (by omega)).trans η28).trans η29).trans η30)) (by omega)).mono ?_;rintro r106 w31_ ⟨η31,o106⟩;have o106:=o106.toI;have σ31:=η31.size;refine ⟨η31,?_⟩;refine (zfT (h1.ext (((((Ext.chgI (Ext.chgI (((Ext.chgI (Ext.chgI (((((((((((((((((((((e1.trans η1).trans η2).trans η3).trans η4).trans η5).trans η6).trans η7).trans η8).trans η9).trans η10).trans η11).trans η12).trans η13).trans η14).trans η15).trans η16).trans η17).trans η18).trans η19).trans η20).trans η21) hc22_ (by omega)) hc23_ (by omega)).trans η24).trans η25) hc26_ (by omega)) hc27_ (by omega)).trans η28).trans η29).trans η30).trans η31)) (by assumption)).mono ?_;rintro r108 w32_ ⟨η32,o108⟩;have o108:=o108.toI;have σ32:=η32.size;refine (zhp o106.is η32 o108.is (Ext.refl w32_)).mono ?_;rintro _ w33_ ⟨η33,a109,b109,lo109,hi109,lo109_,hi109_,rfl,oa109,ob109,bd109⟩;have σ33:=η33.size;refine zbS rfl ?_;refine zbS rfl ?_;refine (zhC oa109.is (Ext.refl w33_) o32_0_c27.is (η28.t (η29.t (η30.t (η31.t (η32.t η33)))))).mono ?_;rintro _ w34_ ⟨η34,rfl⟩;have σ34:=η34.size;refine zaq ?_;refine br (λc13=>?_) (λc13=>?_)
 · refine ⟨((((((((Ext.chgI (Ext.chgI (((Ext.chgI (Ext.chgI ((((((((((((((((((((η1.t η2).trans η3).trans η4).trans η5).trans η6).trans η7).trans η8).trans η9).trans η10).trans η11).trans η12).trans η13).trans η14).trans η15).trans η16).trans η17).trans η18).trans η19).trans η20).trans η21) hc22_ (by omega)) hc23_ (by omega)).trans η24).trans η25) hc26_ (by omega)) hc27_ (by omega)).trans η28).trans η29).trans η30).trans η31).trans η32).trans η33).trans η34),?_⟩
   first | rfl | contradiction | (exfalso;omega)
 refine (zdz ob109.is η34 o32_1_c27.is (η28.t (η29.t (η30.t (η31.t (η32.t (η33.t η34))))))).mono ?_;rintro _ w35_ ⟨η35,rfl⟩;have σ35:=η35.size;refine zaq ?_;refine br (λc14=>?_) (λc14=>?_)
 · refine ⟨(((((((((Ext.chgI (Ext.chgI (((Ext.chgI (Ext.chgI ((((((((((((((((((((η1.t η2).trans η3).trans η4).trans η5).trans η6).trans η7).trans η8).trans η9).trans η10).trans η11).trans η12).trans η13).trans η14).trans η15).trans η16).trans η17).trans η18).trans η19).trans η20).trans η21) hc22_ (by omega)) hc23_ (by omega)).trans η24).trans η25) hc26_ (by omega)) hc27_ (by omega)).trans η28).trans η29).trans η30).trans η31).trans η32).trans η33).trans η34).trans η35),?_⟩
   first | rfl | contradiction | (exfalso;omega)
 refine (zii oa42_c27.is (η28.t (η29.t (η30.t (η31.t (η32.t (η33.t (η34.t η35))))))) (by omega) (by omega) (by omega)).mono ?_;rintro _ w36_ ⟨η36,rfl⟩;have σ36:=η36.size;refine zag ?_;refine br (λc15=>?_) (λc15=>?_)
 · refine ⟨((((((((((Ext.chgI (Ext.chgI (((Ext.chgI (Ext.chgI ((((((((((((((((((((η1.t η2).trans η3).trans η4).trans η5).trans η6).trans η7).trans η8).trans η9).trans η10).trans η11).trans η12).trans η13).trans η14).trans η15).trans η16).trans η17).trans η18).trans η19).trans η20).trans η21) hc22_ (by omega)) hc23_ (by omega)).trans η24).trans η25) hc26_ (by omega)) hc27_ (by omega)).trans η28).trans η29).trans η30).trans η31).trans η32).trans η33).trans η34).trans η35).trans η36),?_⟩
   first | rfl | contradiction | (exfalso;omega)
 refine (zj5 ob42_c27.is (η28.t (η29.t (η30.t (η31.t (η32.t (η33.t (η34.t (η35.t η36)))))))) (by omega) (by omega) (by omega)).mono ?_;rintro _ w37_ ⟨η37,rfl⟩;have σ37:=η37.size;refine zag ?_;refine br (λc16=>?_) (λc16=>?_)
 · refine ⟨(((((((((((Ext.chgI (Ext.chgI (((Ext.chgI (Ext.chgI ((((((((((((((((((((η1.t η2).trans η3).trans η4).trans η5).trans η6).trans η7).trans η8).trans η9).trans η10).trans η11).trans η12).trans η13).trans η14).trans η15).trans η16).trans η17).trans η18).trans η19).trans η20).trans η21) hc22_ (by omega)) hc23_ (by omega)).trans η24).trans η25) hc26_ (by omega)) hc27_ (by omega)).trans η28).trans η29).trans η30).trans η31).trans η32).trans η33).trans η34).trans η35).trans η36).trans η37),?_⟩
   first | rfl | contradiction | (exfalso;omega)
 refine zaB ?_;refine br (λc17=>?_) (λc17=>?_)
 · refine ⟨(((((((((((Ext.chgI (Ext.chgI (((Ext.chgI (Ext.chgI ((((((((((((((((((((η1.t η2).trans η3).trans η4).trans η5).trans η6).trans η7).trans η8).trans η9).trans η10).trans η11).trans η12).trans η13).trans η14).trans η15).trans η16).trans η17).trans η18).trans η19).trans η20).trans η21) hc22_ (by omega)) hc23_ (by omega)).trans η24).trans η25) hc26_ (by omega)) hc27_ (by omega)).trans η28).trans η29).trans η30).trans η31).trans η32).trans η33).trans η34).trans η35).trans η36).trans η37),?_⟩
   first | rfl | contradiction | (exfalso;omega)
 refine ⟨(((((((((((Ext.chgI (Ext.chgI (((Ext.chgI (Ext.chgI ((((((((((((((((((((η1.t η2).trans η3).trans η4).trans η5).trans η6).trans η7).trans η8).trans η9).trans η10).trans η11).trans η12).trans η13).trans η14).trans η15).trans η16).trans η17).trans η18).trans η19).trans η20).trans η21) hc22_ (by omega)) hc23_ (by omega)).trans η24).trans η25) hc26_ (by omega)) hc27_ (by omega)).trans η28).trans η29).trans η30).trans η31).trans η32).trans η33).trans η34).trans η35).trans η36).trans η37),?_⟩
 first | rfl | contradiction | (exfalso;omega)
theorem zs1:∀ n,zdL tp 23 (List Int) n:=zcF u23 (by kernel_rfl) (zee u3)
theorem zvS:∀ n,zdL tp 39 (List (List Int)) n:=zcF u39 (by kernel_rfl) zs1
theorem zvT:∀ n,zdL tp 49 DState n:=λn=>
 zi6 (g:=λp=>⟨p.1,p.2.1,p.2.2⟩) (λ_=>rfl) (zdS (α:=List Int×List Int×List (List Int)) zw7 (by kernel_rfl)
   (λn=>.cons rfl (by kernel_rfl) (zs1 n) (.cons rfl (by kernel_rfl) (zs1 n) (.one rfl (by kernel_rfl) (zvS n)))) n)
theorem zs2:∀ n,zdL tp 93 DTerm n∧zdL tp 91 (List DTerm) n
 | 0=>⟨zfU,zfU⟩
 | n + 1 => ⟨zrA (zh6 (α := Int × Int × ByteArray × List DTerm) zxl (by kernel_rfl)
     (.cons rfl (by kernel_rfl) (zee u3 n) (.cons rfl (by kernel_rfl) (zee u3 n) (.cons rfl (by kernel_rfl) (zmu u9 n) (.one rfl (by kernel_rfl) (zs2 n).2))))),
   zi5 u91 (by kernel_rfl) (zs2 n).1⟩
theorem zs3:∀ n,zdL tp 22 (List ByteArray) n:=zcF u22 (by kernel_rfl) (zmu u9)
theorem zw3:∀ n,zdL tp 95 DIns n:=λn=>
 zi6 (g:=λp=>⟨p.1,p.2.1,p.2.2.1,p.2.2.2⟩) (λ_=>rfl) (zdS (α:=Int×Int×DTerm×Int) zxm (by kernel_rfl)
   (λn=>.cons rfl (by kernel_rfl) (zee u3 n) (.cons rfl (by kernel_rfl) (zee u3 n) (.cons rfl (by kernel_rfl) (zs2 n).1 (.one rfl (by kernel_rfl) (zee u3 n))))) n)
theorem zwH:∀ n,zdL tp 24 (List DIns) n:=zcF u24 (by kernel_rfl) zw3
theorem zvU:∀ n,zdL tp 23 (List Int) n:=zcF u23 (by kernel_rfl) (zee u3)
theorem zwI:∀ n,zdL tp 26 DCode n:=λn=>
 zi6 (g:=λp=>⟨p.1,p.2.1,p.2.2.1,p.2.2.2.1,p.2.2.2.2⟩) (λ_=>rfl) (zdS (α:=List ByteArray×List ByteArray×List ByteArray×List Int×List DIns) zw5 (by kernel_rfl)
   (λn=>.cons rfl (by kernel_rfl) (zs3 n) (.cons rfl (by kernel_rfl) (zs3 n) (.cons rfl (by kernel_rfl) (zs3 n) (.cons rfl (by kernel_rfl) (zvU n) (.one rfl (by kernel_rfl) (zwH n)))))) n)
end Go.Proofs.YtifonhplnmpgaaaGreat
namespace Go.Proofs.YtifonhplnmpgaaaGreat
open Go
theorem zbN {a b:Bool} (h:a=true) (k:b=true):(a&&b)=true:=by rw [h,k];rfl
theorem zvV:laidOutB tp=true:=by kernel_rfl
theorem zvW:mapsRowed tp=true:=by kernel_rfl
theorem zui:(Rows.fnExactRankedRow.plainKeys == tp.plainKeys)=true:=by kernel_rfl
theorem zuj:tp.stopsHeard=true:=by kernel_rfl
theorem zwJ:tp.mayEnter=true:=by kernel_rfl
theorem zvX:(Rows.fnExactRankedRow.lifted == tp.liftsFinal)=true:=by kernel_rfl
theorem zvY:(tp.make == some Rows.fnExactRankedRow.make)=true:=by kernel_rfl
end Go.Proofs.YtifonhplnmpgaaaGreat
namespace Go.Proofs.YtifonhplnmpgaaaGreat.fnExactMissed
open Go.ChangeShapes Go.WideShapes Go.ChangeAt Go.RowKit Go.Sh
theorem own:ownKnob tp.godebug=none:=by kernel_rfl
theorem zs4:laidOutB tp=true:=by kernel_rfl
set_option maxRecDepth 100000 in
theorem lifted (os:Os) (started:os.Started) (H:Type) (enc:TypeId×Value→H) :
    ReturnsInHanded {} Tryz.checked os 6 .any (Rows.fnExactMissedSpec.pre6 enc tp Tryz.f6 Rows.fnExactMissedRow.domain false) (Rows.fnExactMissedSpec.post enc tp Tryz.f6 false true false false):=by
  refine returnsInHanded_of_change (C:=Tryz.checked) own started (by kernel_rfl) Tryz.func6
    (ChangeSpec.witness6 (enc:=enc) (C:=Tryz.checked) false ⟨#[],#[.agg #[.slice none 0 0,.slice none 0 0,.slice none 0 0,.slice none 0 0,.slice none 0 0],.agg #[.slice none 0 0,.slice none 0 0,.slice none 0 0]],[]⟩ 8 (by kernel_rfl) (by kernel_rfl) (by kernel_rfl) (by kernel_rfl)) ?_
  intro W base args ds gs before hval0 hW hcnd _;have hval:∀ (j:Nat) t v,Tryz.f6.params[j]?=some t→args[j]?=some v→Value.okWide tp W .any base t v:=hval0;have hW':=hW;obtain ⟨p,q,hA0,hV,rfl,hfz,hnd⟩:=hW;have hA:DataW.TrodAll enc tp W 0 (λ_=>true) true Tryz.f6.params.toList args.toList ds p:=hA0;rw [Tryz.params6] at hA hval;obtain ⟨v0,vs0,d0,ds0,p0,q0,hargs,rfl,rfl,h0,r0⟩:=trodAll_cons hA;obtain ⟨v1,vs1,d1,ds1,p1,q1,rfl,rfl,rfl,h1,r1⟩:=trodAll_cons r0;obtain ⟨rfl,rfl,rfl⟩:=trodAll_nil r1;obtain rfl:args=#[v0,v1]:=by cases args;simp_all
  obtain ⟨rfl,rfl⟩:=trodVars_none hV;have lt0:∀ x∈p0,x.block<W.heap.size:=by obtain ⟨m,hm⟩:=h0;exact DataW.trod_lt m _ _ _ hm
  obtain ⟨x0,i0⟩:=zh7 (α:=DCode) zw5 rfl zwI (hval 0 26 v0 rfl rfl) h0;have lt1:∀ x∈p1,x.block<W.heap.size:=by obtain ⟨m,hm⟩:=h1;exact DataW.trod_lt m _ _ _ hm
  obtain ⟨x1,i1⟩:=zh7 (α:=DState) zw7 rfl zvT (hval 1 49 v1 rfl rfl) h1;clear hA0 hval0;obtain ⟨hcall⟩:=zs0 i0 (Ext.refl W) i1 (Ext.refl W);refine hcall.mono λe W' ⟨v,he,bel,hv⟩=>?_;subst he hv;exact ⟨_,rfl,_,_,_,[],_,[],hW',trodAll_mk1 (shut_bool Tryz.underlying4 _),(trodAll_cons_mk (Below.trod zs4 (by kernel_rfl) (of_decide_eq_true (by kernel_rfl)) h0 bel lt0) (trodAll_cons_mk (Below.trod zs4 (by kernel_rfl) (of_decide_eq_true (by kernel_rfl)) h1 bel lt1) trodAll_mk0)),rfl,bel.frame _,λh=>by cases h⟩
theorem zs5:(Rows.fnExactMissedRow.inPlace == tp.inPlace 6)=true:=by kernel_rfl
theorem zny:(Rows.fnExactMissedRow.unfollowed == tp.unfollowed 6)=true:=by kernel_rfl
theorem zqQ:(Rows.fnExactMissedRow.recurses == tp.recurses 6)=true:=by kernel_rfl
theorem zvZ:(Rows.fnExactMissedRow.named == tp.varsNamed 6)=true:=by kernel_rfl
theorem closed:joinedFacts tp 6 Tryz.f6 Rows.fnExactMissedSpec Rows.fnExactMissedRow=true:=by
 unfold joinedFacts;exact (zbN (zbN (zbN (zbN (zbN (zbN (zbN (zbN (zbN (zbN (zbN (zbN (zbN (zbN (zbN (zbN (zbN (zbN (zbN (zbN (zbN (zbN (zbN (zbN (zbN (zbN (zbN (zbN (zbN (zbN (zbN (by kernel_rfl) zvV) zvW) (by kernel_rfl)) (by kernel_rfl)) (by kernel_rfl)) (by kernel_rfl)) (by kernel_rfl)) (by kernel_rfl)) zs5) zny) zqQ) zvZ) (by kernel_rfl)) (by kernel_rfl)) (by kernel_rfl)) (by kernel_rfl)) (by kernel_rfl)) (by kernel_rfl)) (by kernel_rfl)) (by kernel_rfl)) (by kernel_rfl)) zui) (by kernel_rfl)) zuj) zwJ) zvX) zvY) (by kernel_rfl)) (by kernel_rfl)) (by kernel_rfl)) (by kernel_rfl))
theorem over:Rows.fnExactMissedRow.holds Tryz.pinned (OpenSpec.ofChange Rows.fnExactMissedSpec):=
 OpenClaim.holds_of_wide 6 Tryz.f6 rfl rfl rfl rfl rfl rfl rfl ⟨rfl,rfl,rfl,rfl,rfl⟩ rfl rfl rfl rfl rfl (by kernel_rfl) Tryz.func6 closed
   (of_decide_eq_true (by kernel_rfl)) (by unfold Func.isWrapper;first | (rw [if_pos (by decide +kernel)];kernel_rfl) | (rw [if_neg (by decide +kernel)];exact ⟨rfl,rfl⟩))
   (λos started H enc _=>lifted os started H enc)
theorem proved:Rows.FnExactMissedSaid:=over
end Go.Proofs.YtifonhplnmpgaaaGreat.fnExactMissed
