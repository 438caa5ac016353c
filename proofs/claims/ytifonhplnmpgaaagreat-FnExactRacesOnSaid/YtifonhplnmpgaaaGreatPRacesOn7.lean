/-
  The law FnExactRacesOn of the given program returns true for every input, and its arguments read afterwards as before: the given statement Rows.FnExactRacesOnSaid.
-/
import Derived.Test.YtifonhplnmpgaaaGreatPRacesOn6
set_option linter.unusedVariables false
set_option linter.unusedSimpArgs false
set_option linter.unusedSectionVars false
namespace Go.Proofs.YtifonhplnmpgaaaGreat
open Go Go.Sh Go.Proofs
open Rep (rep)
def zrb (c:DCode) (s:DState):Prop:=(CodeR c∧zlw c s)∧zru c s=[]∧zkE c s s.stacks.length=0
instance (c:DCode) (s:DState):Decidable (zrb c s):=by unfold zrb;infer_instance
theorem zk4 {w w0:World} {v:Value} {l:List DRace} (h:Is w0 v l) (hx:Ext w0 w) (hn:l.length≤1000000000) :
   CALL Tryz.prog 111 [v] w fun r w'=>Ext w w'∧Own w.heap.size w' r (zeq l):=by
 refine F111_call ?_
 unfold F111
 refine (znU h hx (by omega)).mono ?_
 rintro v1 w1 ⟨hx1,ho1⟩
 refine (zo5 ho1.toI (by omega)).mono ?_
 rintro _ w2 ⟨hc2,ho2⟩
 refine (zmp ho2 (by rw [znZ];omega)).mono ?_
 rintro v3 w3 ⟨hc3,ho3⟩
 refine (zoZ ho3).mono ?_
 rintro v4 w4 ⟨hx4,ho4⟩
 rw [zql] at ho4
 exact ⟨((hx1.chgI hc2 (Nat.le_refl _)).chgI hc3 (Nat.le_refl _)).trans hx4,ho4.own⟩
theorem zmA {w W1:World} {F:List Nat} {v v1:Value} {l:List DRace} {x:DRace} (h:Mine F w v l) (h1:Is W1 v1 x) (e1:Ext W1 w) (hn:l.length≤1000000000) :
   CALL Tryz.prog 98 [v,v1] w fun r w'=>Ext w w'∧∃ F',Mine F' w' r (zh7 x l)∧∀ b∈F',b∈F∨w.heap.size≤b:=by
 refine F98_call ?_
 unfold F98
 have hI:=h.is
 refine zbq h1 e1 fun w1 hx1 hA=>?_
 refine JOIN.mk (fun us w'=>∃ k:Nat,us=[.int .i64 (k:Int)]∧Ext w1 w'∧k≤l.length∧ahd x l=k) ?_ ?_
 · refine zas l.length (fun k us w'=>us=[.int .i64 (k:Int)]∧Ext w1 w'∧k≤l.length∧∀ j (h:j<k) (h2:j<l.length),ltR l[j] x) 0 (Nat.zero_le _) ⟨rfl,Ext.refl w1,Nat.zero_le _,fun j h=>by omega⟩ ?_
   rintro k mk u w2 hkm ⟨hu,hx2,hkl,hlt⟩
   simp only [List.map_cons,List.map_nil,List.cons.injEq,and_true] at hu
   rw [hu]
   have hx3:=zan w2
   have hx23:=hx2.trans hx3
   generalize World.drew1 w2=w3 at *
   refine zaf u43 hI ?_
   refine zah ?_
   refine br (fun hk=>?_) (fun hk=>?_)
   · have hk':k<l.length:=by omega
     refine zad u43 zcf hI hk' fun b1 o1 hA1=>?_
     refine zab zcf hA1 (hx1.trans hx23) fun v15 h15=>?_
     refine zab zcf hA hx23 fun v16 h16=>?_
     refine (zkZ h15 (hx1.trans hx23) h16 hx23).mono ?_
     rintro _ w4 ⟨hx4,rfl⟩
     refine zbI (fun hc=>?_) (fun hc=>?_)
     · refine zag (by omega) ?_
       refine ⟨mk-1,by omega,k+1,by omega,rfl,hx23.trans hx4,by omega,fun j hj hj2=>?_⟩
       by_cases hjk:j<k
       · exact hlt j hjk hj2
       have:j=k:=by omega
       subst this
       simpa using hc
     exact ⟨k,rfl,hx23.trans hx4,hkl,znY hkl (fun j hj=>hlt j hj (by omega)) fun h=>by simpa using hc⟩
   exact ⟨k,rfl,hx23,hkl,znY hkl (fun j hj=>hlt j hj (by omega)) fun h=>by omega⟩
 rintro u w2 ⟨k,hu,hx2,hkl,hak⟩
 simp only [List.map_cons,List.map_nil,List.cons.injEq,and_true] at hu
 rw [hu]
 have hput:=zlW x l
 rw [hak] at hput
 refine JOIN.mk (fun us w'=>Ext w1 w'∧zh7 x l=l.take k++(x :: l.drop k)) ?_ ?_
 · have hx3:=zan w2
   have hx23:=hx2.trans hx3
   generalize World.drew1 w2=w3 at *
   refine zaf u43 hI ?_
   refine zah ?_
   refine br (fun hk=>?_) (fun hk=>?_)
   · have hk':k<l.length:=by omega
     rw [dif_pos hk'] at hput
     refine zad u43 zcf hI hk' fun b1 o1 hA1=>?_
     refine zab zcf hA1 (hx1.trans hx23) fun v15 h15=>?_
     refine zab zcf hA hx23 fun v16 h16=>?_
     refine zhA h15 h16 ?_
     refine br (fun hc=>?_) (fun hc=>?_)
     · rw [if_pos hc] at hput
       have hx:=hx1.trans hx23
       exact ⟨hx,F,by rw [hput];exact h.ext hx,fun b hb=>.inl hb⟩
     rw [if_neg hc] at hput
     exact ⟨hx23,hput⟩
   have hk':k=l.length:=by omega
   subst hk'
   rw [dif_neg (by omega)] at hput
   exact ⟨hx23,by rw [hput];simp⟩
 rintro u6 w3 ⟨hx3,hpe⟩
 rw [hpe]
 have hx03:=hx1.trans hx3
 have hs03:=hx03.size
 refine zba (α:=DRace) u43 zcf fun a w4 hx4 hr4=>?_
 have hs4:=hx4.size
 refine zhd (i:=(k:Int)) u43 zcf hI (by omega) (by omega) fun v37 h37=>?_
 refine zdN u43 zcf zpY hr4 (Nat.le_refl _) h37 (hx03.trans hx4) (by simp [maxLen];omega) (by simp;omega) fun v38 w5 hc5 hr5=>?_
 have hs5:=hc5.size
 have hx5:=(Ext.refl w4).chgI hc5 (Nat.le_refl _)
 refine zab zcf hA (hx3.trans (hx4.trans hx5)) fun v40 h40=>?_
 refine zcb (lo2:=w5.heap.size) (hi2:=w5.heap.size) u43 zcf z79 zpY (by decide) hr5 (by omega) (zi6 (h40.ext (hx3.trans (hx4.trans hx5)))) (Nat.le_refl _) (by omega) (by simp [maxLen];omega) (by simp;omega) fun v42 w6 hc6 hr6=>?_
 have hs6:=hc6.size
 refine zd5 (i:=(k:Int)) u43 zcf hI (by omega) (by omega) fun v46 h46=>?_
 have hx6:Ext w w6:=(hx03.trans (hx4.trans hx5)).chgI hc6 (by omega)
 refine zdN u43 zcf zpY hr6 (by omega) h46 hx6 (by simp [maxLen];omega) (by simp;omega) fun v47 w7 hc7 hr7=>?_
 have hs7:=hc7.size
 refine ⟨hx6.chgI hc7 (by omega),?_⟩
 obtain ⟨F',hM,hF⟩:=hr7.own
 refine ⟨F',?_,fun b hb=>.inr (by have:=hF b hb;omega)⟩
 simpa using hM
open Classical in
noncomputable def rc1 (c:DCode) (a b:DTouch):List DRace:=if zcY a b∧zft c (zar c a.at_).toNat (zar c b.at_).toNat then [zdX a b] else []
theorem zqn (c:DCode) (a b:DTouch):(rc1 c a b).length≤1:=by unfold rc1;split<;>simp
noncomputable def zk5 (c:DCode) (T:List DTouch) (i:Nat):List DRace:=match T.drop i with
 | []=>[]
 | a :: r=>(a :: r).flatMap (rc1 c a)
noncomputable def ze4 (c:DCode) (T:List DTouch) (n:Nat):List DRace:=(List.range n).flatMap (zk5 c T)
theorem zi9 {c:DCode} {T:List DTouch} {i:Nat} (hi:i<T.length):zk5 c T i=(T.drop i).flatMap (rc1 c T[i]):=by
 unfold zk5
 rw [List.drop_eq_getElem_cons hi]
theorem zk6 (c:DCode) (a:DTouch) (L:List DTouch):(L.flatMap (rc1 c a)).length≤L.length:=by
 have:=ze3 (l:=L) (f:=rc1 c a) (B:=1) fun b _=>zqn c a b
 omega
theorem zoc (c:DCode) (T:List DTouch) (i:Nat):(zk5 c T i).length≤T.length:=by
 rcases Nat.lt_or_ge i T.length with h | h
 · rw [zi9 h]
   have:=zk6 c T[i] (T.drop i)
   rw [List.length_drop] at this
   omega
 unfold zk5
 rw [List.drop_eq_nil_of_le h];simp
theorem zhG {c:DCode} {T:List DTouch} (hT:T.length≤18000) {n:Nat} (hn:n≤18000):(ze4 c T n).length≤324000000:=by
 have h1:=ze3 (l:=List.range n) (f:=zk5 c T) (B:=18000) fun i _=>Nat.le_trans (zoc c T i) hT
 rw [List.length_range] at h1
 have:n*18000≤18000*18000:=Nat.mul_le_mul_right _ hn
 unfold ze4;omega
theorem zig (c:DCode) (T:List DTouch) (n:Nat):ze4 c T (n+1)=ze4 c T n++zk5 c T n:=by
 unfold ze4;rw [List.range_succ,List.flatMap_append];simp
theorem zgS {c:DCode} (hc:CodeR c):(zjc c).length≤18000:=zhF hc _ (Nat.le_trans zaZ hc.f.ins)
structure TouR (c:DCode) (x:DTouch) (p:Nat):Prop where
 at_:x.at_=(p:Int)
 lt:p<c.ins.length
 met:MetP c p
 h0:0≤x.held
 h1:x.held≤63
theorem zlZ {c:DCode} (hc:CodeR c) {x:DTouch} (h:x∈zjc c):∃ p,TouR c x p:=by
 unfold zjc at h
 obtain ⟨i,hi,hx⟩:=List.mem_flatMap.1 h
 obtain ⟨h1,h2⟩:=zdY hx
 have hm:=zcR (ziT c) i
 obtain ⟨h3,h4⟩:=zaQ.1 hi
 exact ⟨i,h1,h3,h4,by omega,by omega⟩
theorem zqo (c:DCode):(zjc c).Pairwise fun a b=>a.at_≤b.at_:=by
 unfold zjc
 refine List.pairwise_flatMap.2 ⟨fun i _=>?_,?_⟩
 · refine List.pairwise_iff_forall_sublist.2 fun {a b} h=>?_
   have h1:=zdY (h.subset (by simp:a∈[a,b]))
   have h2:=zdY (h.subset (by simp:b∈[a,b]))
   rw [h1.1,h2.1];omega
 have hr:(zbd c.ins.length (MetP c)).Pairwise (fun a b=>a<b):=by
   unfold zbd
   exact List.pairwise_lt_range.filter _
 refine hr.imp fun {i j} hij x hx y hy=>?_
 have h1:=zdY hx
 have h2:=zdY hy
 rw [h1.1,h2.1];omega
theorem zih {c:DCode} {p i j:Nat} (h:zay c p i) (hj:j∈zav c i):zay c p j:=by
 rcases h with rfl | h
 · exact .inr (.one hj)
 exact .inr (h.trans (.one hj))
theorem zl0 {c:DCode} (hc:CodeR c) {i:Nat} (h:MetP c i):zdE c i:=by
 induction h with
 | root h=>exact ⟨_,h.lt hc,.inl rfl⟩
 | call h ho _=>exact ⟨_,(zbB hc (h.lt hc) (.inl ho)).2,.inl rfl⟩
 | next _ _ hj ih=>obtain ⟨p,hp,hl⟩:=ih;exact ⟨p,hp,zih hl hj⟩
 | back _ _ _ hj ih _=>obtain ⟨p,hp,hl⟩:=ih;exact ⟨p,hp,zih hl hj⟩
theorem zod {c:DCode} (hc:CodeR c) {i j:Nat} (hi:MetP c i) (hj:MetP c j):zpN (rtN c i) (rtN c j) (zk2 c)↔zft c (zar c i).toNat (zar c j).toNat:=by
 have h1:=zl0 hc hi
 have h2:=zl0 hc hj
 have hb:∀ k r,(rtN c k).testBit r=true↔r<c.procs.length∧RtP c k r:=fun k r=>zbU
 have hs:∀ r,r<c.procs.length→RootP c r→((zk2 c).testBit r=false↔¬zc8 c r):=fun r hr hR=>by
   have:=zbU (n:=c.procs.length) (p:=fun r=>RootP c r∧zc8 c r) (i:=r)
   unfold zk2
   constructor
   · intro h hS;rw [this.2 ⟨hr,hR,hS⟩] at h;cases h
   intro h
   cases e:(zf1 (fun r=>RootP c r∧zc8 c r) c.procs.length).testBit r
   · rfl
   exact absurd (this.1 e).2.2 h
 constructor
 · rintro ⟨r,t,hr,ht,h⟩
   obtain ⟨hr1,_,hr2,hr3⟩:=(hb _ _).1 hr
   obtain ⟨ht1,_,ht2,ht3⟩:=(hb _ _).1 ht
   exact ⟨r,t,hr2,ht2,hr3,ht3,h.imp id (hs r hr1 hr2).1⟩
 rintro ⟨r,t,hr2,ht2,hr3,ht3,h⟩
 exact ⟨r,t,(hb _ _).2 ⟨hr2.lt hc,h1,hr2,hr3⟩,(hb _ _).2 ⟨ht2.lt hc,h2,ht2,ht3⟩,h.imp id (hs r (hr2.lt hc) hr2).2⟩
def F63 (a0:Value) (w:World) (R:VW):Prop:=
 cL 106 [a0] w fun x12 w=>
 cL 107 [a0] w fun x15 w=>
 rE x15 0 w fun x16=>
 rE x15 1 w fun x17=>
 rN 130 3 x12 w fun x19=>
 LOOPI [6,20] [(Value.slice none 0 0),(iV 0)] w fun u5 w next5=>
 rC (u5 20) x19 w fun x21=>
 BR x21
 (rX 130 x12 (u5 20) w fun x23=>
 rL 134 x23 w fun x24=>
 oP (Instr.alloc 134 true (.tuple #[])) w fun x8 w=>
 oS 134 x8 x24 w fun w=>
 rD (Instr.sliceAt 130 x12 (some (u5 20)) none none) w fun x27=>
 rN 130 3 x27 w fun x28=>
 LOOPI [6,29] [(u5 6),(iV 0)] w fun u8 w next8=>
 rC (u8 29) x28 w fun x30=>
 BR x30
 (rX 130 x27 (u8 29) w fun x31=>
 rL 134 x31 w fun x32=>
 oP (Instr.alloc 134 true (.tuple #[])) w fun x10 w=>
 oS 134 x10 x32 w fun w=>
 (fun w=>rL 134 x8 w fun x33=>
 rL 134 x10 w fun x34=>
 cL 108 [x33,x34] w fun x35 w=>
 BR x35
 (rF 134 x8 0 w fun x38=>
 rL 3 x38 w fun x39=>
 rX 23 x16 x39 w fun x40=>
 rL 3 x40 w fun x41=>
 rF 134 x10 0 w fun x43=>
 rL 3 x43 w fun x44=>
 rX 23 x16 x44 w fun x45=>
 rL 3 x45 w fun x46=>
 cL 109 [x41,x46,x17] w fun x48 w=>
 BR x48
 (rL 134 x8 w fun x51=>
 rL 134 x10 w fun x52=>
 cL 110 [x51,x52] w fun x53 w=>
 oP (Instr.buildSlice 43 1 #[(0,x53)]) w fun x54 w=>
 oP (Builtin.append_ #[43,43] 43 [(u8 6),x54].toArray) w fun x55 w=>
 rA (u8 29) (iV 1) w fun x56=>
 next8 [x55,x56] w)
 (rA (u8 29) (iV 1) w fun x56=>
 next8 [(u8 6),x56] w))
 (rA (u8 29) (iV 1) w fun x56=>
 next8 [(u8 6),x56] w)) (World.drew1 w))
 (rA (u5 20) (iV 1) w fun x57=>
 next5 [(u8 6),x57] w))
 (cL 111 [(u5 6)] w fun x59 w=>
 R x59 w)
def cfg63:Cfg:=⟨extL,[],[(5,288230376150664640,[6,20]),(8,144115187538986048,[6,29])],[(10,[0,1,2,3,4,5,6,7,8,9,10,11,12,13,14,15,16],0)],[],[],[]⟩
theorem F63_call {a0:Value} {w:World} {R:VW} (h:F63 a0 w R):cL 63 [a0] w R:=co (g:=cfg63) Tryz.func63 (by kernel_rfl) (by kernel_rfl) (by kernel_rfl) h
def F56 (a0:Value) (w:World) (R:VW):Prop:=
 oP (Instr.box 32 a0) w fun x1 w=>
 oP (Instr.buildSlice 43 0 #[]) w fun x10 w=>
 rL 32 x1 w fun x11=>
 cL 95 [x11] w fun x12 w=>
 rL 32 x1 w fun x13=>
 cL 96 [x13] w fun x14 w=>
 LOOPI [3,6] [x10,(iV 0)] w fun u5 w next5=>
 rN 130 3 x12 w fun x17=>
 rC (u5 6) x17 w fun x18=>
 BR x18
 (LOOPI [3,7] [(u5 3),(u5 6)] w fun u8 w next8=>
 rN 130 3 x12 w fun x24=>
 rC (u8 7) x24 w fun x25=>
 BR x25
 (rX 130 x12 (u5 6) w fun x30=>
 rL 134 x30 w fun x31=>
 oP (Instr.alloc 134 true (.tuple #[])) w fun x8 w=>
 oS 134 x8 x31 w fun w=>
 rX 130 x12 (u8 7) w fun x34=>
 rL 134 x34 w fun x35=>
 oP (Instr.alloc 134 true (.tuple #[])) w fun x9 w=>
 oS 134 x9 x35 w fun w=>
 (fun w=>rF 134 x8 1 w fun x36=>
 rL 3 x36 w fun x37=>
 rF 134 x9 1 w fun x38=>
 rL 3 x38 w fun x39=>
 rB .eql 3 T0 T0 x37 x39 w fun x40=>
 BR x40
 (rF 134 x8 2 w fun x42=>
 rL 4 x42 w fun x43=>
 GBR x43
 (rF 134 x8 3 w fun x50=>
 rL 3 x50 w fun x51=>
 rF 134 x9 3 w fun x52=>
 rL 3 x52 w fun x53=>
 rB .and 3 T0 T0 x51 x53 w fun x54=>
 rB .eql 3 T0 U0 x54 (iV 0) w fun x55=>
 BR x55
 (rL 32 x1 w fun x59=>
 rF 134 x8 0 w fun x60=>
 rL 3 x60 w fun x61=>
 rL 32 x1 w fun x65=>
 rF 134 x9 0 w fun x66=>
 rL 3 x66 w fun x67=>
 (fun w_=>cL 97 [x59,x61] w_ fun x62 w=>
 Ext w_ w ∧
 rX 99 x14 x62 w fun x63=>
 rL 101 x63 w fun x64=>
 (fun w_=>cL 97 [x65,x67] w_ fun x68 w=>
 Ext w_ w ∧
 rX 101 x64 x68 w fun x69=>
 rL 4 x69 w fun x70=>
 BR x70
 (rF 134 x8 1 w fun x73=>
 rL 3 x73 w fun x74=>
 rF 134 x8 0 w fun x75=>
 rL 3 x75 w fun x76=>
 rF 134 x9 0 w fun x77=>
 rL 3 x77 w fun x78=>
 rD (Instr.build 79 #[(0,x74),(1,x76),(2,x78)]) w fun x79=>
 cL 98 [(u8 3),x79] w fun x80 w=>
 rA (u8 7) (iV 1) w fun x27=>
 next8 [x80,x27] w)
 (rA (u8 7) (iV 1) w fun x27=>
 next8 [(u8 3),x27] w)) w) w)
 (rA (u8 7) (iV 1) w fun x27=>
 next8 [(u8 3),x27] w))
 (rF 134 x9 2 w fun x45=>
 rL 4 x45 w fun x46=>
 BR x46
 (rF 134 x8 3 w fun x50=>
 rL 3 x50 w fun x51=>
 rF 134 x9 3 w fun x52=>
 rL 3 x52 w fun x53=>
 rB .and 3 T0 T0 x51 x53 w fun x54=>
 rB .eql 3 T0 U0 x54 (iV 0) w fun x55=>
 BR x55
 (rL 32 x1 w fun x59=>
 rF 134 x8 0 w fun x60=>
 rL 3 x60 w fun x61=>
 rL 32 x1 w fun x65=>
 rF 134 x9 0 w fun x66=>
 rL 3 x66 w fun x67=>
 (fun w_=>cL 97 [x59,x61] w_ fun x62 w=>
 Ext w_ w ∧
 rX 99 x14 x62 w fun x63=>
 rL 101 x63 w fun x64=>
 (fun w_=>cL 97 [x65,x67] w_ fun x68 w=>
 Ext w_ w ∧
 rX 101 x64 x68 w fun x69=>
 rL 4 x69 w fun x70=>
 BR x70
 (rF 134 x8 1 w fun x73=>
 rL 3 x73 w fun x74=>
 rF 134 x8 0 w fun x75=>
 rL 3 x75 w fun x76=>
 rF 134 x9 0 w fun x77=>
 rL 3 x77 w fun x78=>
 rD (Instr.build 79 #[(0,x74),(1,x76),(2,x78)]) w fun x79=>
 cL 98 [(u8 3),x79] w fun x80 w=>
 rA (u8 7) (iV 1) w fun x27=>
 next8 [x80,x27] w)
 (rA (u8 7) (iV 1) w fun x27=>
 next8 [(u8 3),x27] w)) w) w)
 (rA (u8 7) (iV 1) w fun x27=>
 next8 [(u8 3),x27] w))
 (rA (u8 7) (iV 1) w fun x27=>
 next8 [(u8 3),x27] w))
 (BR undef
 (rF 134 x8 3 w fun x50=>
 rL 3 x50 w fun x51=>
 rF 134 x9 3 w fun x52=>
 rL 3 x52 w fun x53=>
 rB .and 3 T0 T0 x51 x53 w fun x54=>
 rB .eql 3 T0 U0 x54 (iV 0) w fun x55=>
 BR x55
 (rL 32 x1 w fun x59=>
 rF 134 x8 0 w fun x60=>
 rL 3 x60 w fun x61=>
 rL 32 x1 w fun x65=>
 rF 134 x9 0 w fun x66=>
 rL 3 x66 w fun x67=>
 (fun w_=>cL 97 [x59,x61] w_ fun x62 w=>
 Ext w_ w ∧
 rX 99 x14 x62 w fun x63=>
 rL 101 x63 w fun x64=>
 (fun w_=>cL 97 [x65,x67] w_ fun x68 w=>
 Ext w_ w ∧
 rX 101 x64 x68 w fun x69=>
 rL 4 x69 w fun x70=>
 BR x70
 (rF 134 x8 1 w fun x73=>
 rL 3 x73 w fun x74=>
 rF 134 x8 0 w fun x75=>
 rL 3 x75 w fun x76=>
 rF 134 x9 0 w fun x77=>
 rL 3 x77 w fun x78=>
 rD (Instr.build 79 #[(0,x74),(1,x76),(2,x78)]) w fun x79=>
 cL 98 [(u8 3),x79] w fun x80 w=>
 rA (u8 7) (iV 1) w fun x27=>
 next8 [x80,x27] w)
 (rA (u8 7) (iV 1) w fun x27=>
 next8 [(u8 3),x27] w)) w) w)
 (rA (u8 7) (iV 1) w fun x27=>
 next8 [(u8 3),x27] w))
 (BR undef
 (rF 134 x8 3 w fun x50=>
 rL 3 x50 w fun x51=>
 rF 134 x9 3 w fun x52=>
 rL 3 x52 w fun x53=>
 rB .and 3 T0 T0 x51 x53 w fun x54=>
 rB .eql 3 T0 U0 x54 (iV 0) w fun x55=>
 BR x55
 (rL 32 x1 w fun x59=>
 rF 134 x8 0 w fun x60=>
 rL 3 x60 w fun x61=>
 rL 32 x1 w fun x65=>
 rF 134 x9 0 w fun x66=>
 rL 3 x66 w fun x67=>
 (fun w_=>cL 97 [x59,x61] w_ fun x62 w=>
 Ext w_ w ∧
 rX 99 x14 x62 w fun x63=>
 rL 101 x63 w fun x64=>
 (fun w_=>cL 97 [x65,x67] w_ fun x68 w=>
 Ext w_ w ∧
 rX 101 x64 x68 w fun x69=>
 rL 4 x69 w fun x70=>
 BR x70
 (rF 134 x8 1 w fun x73=>
 rL 3 x73 w fun x74=>
 rF 134 x8 0 w fun x75=>
 rL 3 x75 w fun x76=>
 rF 134 x9 0 w fun x77=>
 rL 3 x77 w fun x78=>
 rD (Instr.build 79 #[(0,x74),(1,x76),(2,x78)]) w fun x79=>
 cL 98 [(u8 3),x79] w fun x80 w=>
 rA (u8 7) (iV 1) w fun x27=>
 next8 [x80,x27] w)
 (rA (u8 7) (iV 1) w fun x27=>
 next8 [(u8 3),x27] w)) w) w)
 (rA (u8 7) (iV 1) w fun x27=>
 next8 [(u8 3),x27] w))
 (rA (u8 7) (iV 1) w fun x27=>
 next8 [(u8 3),x27] w))))
 (rA (u8 7) (iV 1) w fun x27=>
 next8 [(u8 3),x27] w)) (World.drew1 w))
 (rA (u5 6) (iV 1) w fun x20=>
 next5 [(u8 3),x20] w))
 (R (u5 3) w)
def cfg56:Cfg:=⟨extL,[],[(5,2417851639229258349380552,[3,6]),(8,2417851639229258345218952,[3,7])],[(12,[0,1,2,3,4,5,6,7,8,9,10,11,12,13,14,15,16,17,18,19,20,21,22,23,24,25,29,30,31,26,27,28,32,33,34,35],4362076160)],[],[],[]⟩
theorem F56_call {a0:Value} {w:World} {R:VW} (h:F56 a0 w R):cL 56 [a0] w R:=co (g:=cfg56) Tryz.func56 (by kernel_rfl) (by kernel_rfl) (by kernel_rfl) h
open Rep (rep)
theorem zpc {w W0:World} {b:Nat} {c:DCode} (hW:WAt W0 b c) (e0:Ext W0 w) (hc:CodeR c) :
   CALL Tryz.prog 63 [.pointer (some ⟨b,0,none⟩)] w fun r w'=>Ext w w'∧Own w.heap.size w' r (zeq (ze4 c (zjc c) (zjc c).length)):=by
 refine F63_call ?_
 unfold F63
 refine (zmx hW e0 hc).mono ?_
 rintro v12 w1 ⟨hx1,ho1⟩
 refine (zmv hW (e0.trans hx1) hc).mono ?_
 rintro _ wb ⟨hx2,v16,rfl,ho2⟩
 refine zda rfl ?_
 refine zda rfl ?_
 have hx1b:=hx1.trans hx2
 have hTb:=ho1.is.ext hx2
 have hRb:=ho2.is
 have hTl:=zgS hc
 have hTm:=fun x (hx:x∈zjc c)=>zlZ hc hx
 generalize zjc c=T at *
 have hs1b:=hx1b.size
 have hsg:=zo8 hc
 refine zaf zjl hTb ?_
 refine zas T.length (fun k us w'=>∃ out lo hi,us=[out,.int .i64 (k:Int)]∧k≤T.length∧Ext wb w'∧wb.heap.size≤lo∧hi≤w'.heap.size∧RowI lo hi 79 w' out (ze4 c T k)) 0 (Nat.zero_le _) ⟨_,wb.heap.size,wb.heap.size,rfl,Nat.zero_le _,Ext.refl _,Nat.le_refl _,Nat.le_refl _,zc0 _ _ _ _⟩ ?_
 rintro i mk u w3 hkm ⟨out,lo0,hi0,hu,hkl,hx3,hlo0,hhi0,hr3⟩
 obtain ⟨hu1,hu2⟩:=zb9 hu
 rw [hu1,hu2]
 refine zah ?_
 have hall:=zhG (c:=c) hTl (n:=i) (by omega)
 refine br (fun hlt=>?_) (fun hge=>?_)
 case refine_2=>
   have hke:i=T.length:=by omega
   rw [hke] at hr3 hall
   refine (zk4 hr3.is (Ext.refl _) (by omega)).mono ?_
   rintro r w4 ⟨hx4,ho4⟩
   exact ⟨hx1b.trans (hx3.trans hx4),ho4.mono (by have:=hx3.size;omega)⟩
 have hi:i<T.length:=by omega
 have hrow:=zi9 (c:=c) hi
 have hsuc:=zig c T i
 obtain ⟨pa,hpa⟩:=hTm T[i] (List.getElem_mem _)
 refine zad zjl zcs (i:=i) hTb hi fun b4 o4 hA4=>?_
 generalize hae:T[i]=a at *
 refine zab zcs hA4 hx3 fun v24 h24=>?_
 refine zce zoA rfl zcs rfl h24 hx3 fun w4 hx4 hAa hVa=>?_
 have hAB4:=zf8 h24 hVa rfl
 have hgl:w3.heap.size<w4.heap.size:=hVa.lt
 have hs4:=hx4.size
 refine zd5 (i:=(i:Int)) zjl zcs hTb (by omega) (by simp;omega) fun v27 h27=>?_
 rw [Int.toNat_natCast] at h27
 have hDl:(T.drop i).length=T.length-i:=List.length_drop
 have hDm:∀ x∈T.drop i,∃ p,TouR c x p:=fun x hx=>hTm x (List.mem_of_mem_drop hx)
 generalize T.drop i=D at *
 refine zaf zjl h27 ?_
 refine zas D.length (fun j us w'=>∃ out lo hi,us=[out,.int .i64 (j:Int)]∧j≤D.length∧Ext wb w'∧w4.heap.size≤w'.heap.size∧AtB wb w' w3.heap.size 0 a∧wb.heap.size≤lo∧hi≤w'.heap.size∧(w3.heap.size<lo∨hi≤w3.heap.size)∧RowI lo hi 79 w' out (ze4 c T i++(D.take j).flatMap (rc1 c a))) 0 (Nat.zero_le _) ⟨out,lo0,hi0,rfl,Nat.zero_le _,hx3.trans hx4,Nat.le_refl _,hAB4,hlo0,by omega,.inr hhi0,by simpa using hr3.ext hx4⟩ ?_
 rintro j mj u5 w5 hjm ⟨out5,lo,hi5,hu5,hjl,hx5,hs5,hAB5,hlo,hhi,hd,hr5⟩
 obtain ⟨hu51,hu52⟩:=zb9 hu5
 rw [hu51,hu52]
 refine zah ?_
 refine br (fun hlt5=>?_) (fun hge5=>?_)
 case refine_2=>
   refine zag (by omega) ?_
   refine ⟨mk-1,by omega,i+1,by omega,out5,lo,hi5,rfl,by omega,hx5,hlo,hhi,?_⟩
   rw [List.take_of_length_le (by omega)] at hr5
   rw [hsuc,hrow];exact hr5
 have hj:j<D.length:=by omega
 have hfs:=zdy (f:=rc1 c a) hj
 have hrl:=zk6 c a (D.take j)
 have htl:=List.length_take_le' j D
 obtain ⟨pb,hpb⟩:=hDm D[j] (List.getElem_mem _)
 refine zad zjl zcs (i:=j) h27 hj fun b6 o6 hA6=>?_
 generalize hbe:D[j]=bb at *
 refine zab zcs hA6 hx5 fun v32 h32=>?_
 refine zce zoA rfl zcs rfl h32 hx5 fun w6 hx6 hAb hVb=>?_
 have hxd:=zan w6
 have hx56:=hx6.trans hxd
 have hAbd:=hAb.ext hxd
 generalize World.drew1 w6=w7 at *
 have hAB7:=hAB5.ext hx56
 have hx7:=hx5.trans hx56
 have hAa7:=hAB7.at hx7
 have hr7:=hr5.ext hx56
 have hs57:=hx56.size
 refine zab zcs hAa7 (Ext.refl _) fun v33 h33=>?_
 refine zab zcs hAbd (Ext.refl _) fun v34 h34=>?_
 refine (zo3 h33 (Ext.refl _) h34 (Ext.refl _)).mono ?_
 rintro _ w8 ⟨hx8,rfl⟩
 have hs78:=hx8.size
 have hno:∀ {w9:World},Ext w7 w9→¬(zcY a bb∧zft c (zar c a.at_).toNat (zar c bb.at_).toNat)→RD Tryz.prog (bin .add 3 (.tmp 0) (.const undef) (.int .i64 (j:Int)) (.int .i64 1)) w9 fun x56=>∃ m',m'<mj∧∃ k',k'+m'=D.length∧∃ out lo hi,[out5,x56]=[out,.int .i64 (k':Int)]∧k'≤D.length∧Ext wb w9∧w4.heap.size≤w9.heap.size∧AtB wb w9 w3.heap.size 0 a∧wb.heap.size≤lo∧hi≤w9.heap.size∧(w3.heap.size<lo∨hi≤w3.heap.size)∧RowI lo hi 79 w9 out (ze4 c T i++(D.take k').flatMap (rc1 c a)):=fun hx9 hn=>by
   have:=hx9.size
   refine zag (by omega) ?_
   refine ⟨mj-1,by omega,j+1,by omega,out5,lo,hi5,rfl,by omega,hx7.trans hx9,by omega,hAB7.ext hx9,hlo,by omega,hd,?_⟩
   rw [hfs]
   have:rc1 c a bb=[]:=by unfold rc1;rw [if_neg hn]
   rw [this,List.append_nil]
   exact hr7.ext hx9
 refine br (fun hcl=>?_) (fun hcl=>?_)
 case refine_2=>exact hno hx8 fun h=>hcl h.1
 have hRl:∀ i,i<c.ins.length→i<(zaM ((List.range c.ins.length).map (rtN c))).length:=fun i hi=>by simp [zaM];exact hi
 have hRg:∀ i (hi:i<(zaM ((List.range c.ins.length).map (rtN c))).length),(zaM ((List.range c.ins.length).map (rtN c)))[i]=((rtN c i:Nat):Int):=fun i hi=>by simp [zaM]
 have hx8b:=hx7.trans hx8
 have hAa8:=hAa7
 refine zaa zdB ?_
 refine zac ty3 (zbA hAa7) hx8 fun _=>?_
 rw [hpa.at_]
 refine zad u23 ty3 (i:=pa) hRb (hRl pa hpa.lt) fun b9 o9 hA9=>?_
 rw [hRg] at hA9
 refine zac ty3 hA9 hx8b fun _=>?_
 refine zaa zdB ?_
 refine zac ty3 (zbA hAbd) hx8 fun _=>?_
 rw [hpb.at_]
 refine zad u23 ty3 (i:=pb) hRb (hRl pb hpb.lt) fun b10 o10 hA10=>?_
 rw [hRg] at hA10
 refine zac ty3 hA10 hx8b fun _=>?_
 refine (zpa (zn5 hc pa) (zn5 hc pb) hsg).mono ?_
 rintro _ w9 ⟨hx9,x,rfl,hx⟩
 rw [zod hc hpa.met hpb.met] at hx
 have hpa':zar c a.at_=zar c pa:=by rw [hpa.at_]
 have hpb':zar c bb.at_=zar c pb:=by rw [hpb.at_]
 have hx79:=hx8.trans hx9
 refine zbI (fun hxt=>?_) (fun hxf=>?_)
 case refine_2=>
   refine hno hx79 fun h=>?_
   have:=hx.2 (by rw [←hpa',←hpb'];exact h.2)
   rw [this] at hxf;cases hxf
 have hB:zft c (zar c a.at_).toNat (zar c bb.at_).toNat:=by rw [hpa',hpb'];exact hx.1 hxt
 refine zab zcs hAa7 hx79 fun v51 h51=>?_
 refine zab zcs hAbd hx79 fun v52 h52=>?_
 refine (znX h51 hx79 h52 hx79).mono ?_
 rintro v53 w10 ⟨hx10,ho10⟩
 have hx710:=hx79.trans hx10
 have hs710:=hx710.size
 refine zdk (x:=zdX a bb) u43 zcf z79 zpY (by decide) (hr7.ext hx710) (ho10 0 0) (by rw [zao,List.length_append];omega) (by rw [List.length_append];omega) fun v55 w11 lo' hi' hc11 hr11 hd11=>?_
 have hs11:=hc11.size
 have hsb:=hx7.size
 refine zag (by omega) ?_
 refine ⟨mj-1,by omega,j+1,by omega,v55,lo',hi',rfl,by omega,(hx7.trans hx710).chgI hc11 hlo,by omega,(hAB7.ext hx710).keep (hc11.block _ (by omega) hd),by omega,by omega,by omega,?_⟩
 rw [hfs]
 have:rc1 c a bb=[zdX a bb]:=by unfold rc1;rw [if_pos ⟨hcl,hB⟩]
 rw [this,←List.append_assoc]
 exact hr11
theorem zoe {w W0:World} {v0:Value} {c:DCode} (h0:Is W0 v0 c) (e0:Ext W0 w) (hc:CodeR c) :
   CALL Tryz.prog 56 [v0] w fun r w'=>Ext w w'∧Own w.heap.size w' r (zeq (ze4 c (zjc c) (zjc c).length)):=by
 refine F56_call ?_
 unfold F56
 have h8:=hc.1.procs8
 refine zbq h0 e0 fun w1 hx1 hA=>?_
 refine zba (α:=DRace) u43 zcf fun a10 w2 hx2 _=>?_
 refine zab zbu hA hx2 fun v11 h11=>?_
 refine (zn9 h11 hx2 hc).mono ?_
 rintro v12 w3 ⟨hx3,ho3⟩
 refine zab zbu hA (hx2.trans hx3) fun v13 h13=>?_
 refine (zk3 h13 (hx2.trans hx3) hc).mono ?_
 rintro v14 wb ⟨hx4,ho4⟩
 have hx1b:=hx2.trans (hx3.trans hx4)
 have hTb:=ho3.is.ext hx4
 have hGb:=ho4.is
 have hTl:=zgS hc
 have hTm:=fun x (hx:x∈zjc c)=>zlZ hc hx
 have hTp:=zqo c
 generalize zjc c=T at *
 have hs1:=hx1.size
 have hs1b:=hx1b.size
 have hM0:∀ w:World,Mine [] w (.slice (some a10) 0 0) (zeq (ze4 c T 0)):=fun w=>by
   have h:RowG (α:=DRace) [] 79 w (.slice (some a10) 0 0) []:=.inl ⟨some a10,rfl,rfl,rfl⟩
   exact ⟨h.own,List.nodup_nil,h.wr⟩
 refine zas T.length (fun k us w'=>∃ out F,us=[out,.int .i64 (k:Int)]∧k≤T.length∧Ext wb w'∧Mine F w' out (zeq (ze4 c T k))∧∀ b∈F,wb.heap.size≤b) 0 (Nat.zero_le _) ⟨_,[],rfl,Nat.zero_le _,Ext.refl _,hM0 wb,by simp⟩ ?_
 rintro i mk u w5 hkm ⟨out,F5,hu,hkl,hx5,hM5,hF5⟩
 obtain ⟨hu1,hu2⟩:=zb9 hu
 rw [hu1,hu2]
 refine zaf zjl hTb ?_
 refine zah ?_
 have hall:=zhG (c:=c) hTl (n:=i) (by omega)
 refine br (fun hlt=>?_) (fun hge=>?_)
 case refine_2=>
   have hke:i=T.length:=by omega
   rw [hke] at hM5
   exact ⟨hx1.trans (hx1b.trans hx5),F5,hM5,fun b hb=>by have:=hF5 b hb;omega⟩
 have hi:i<T.length:=by omega
 have hrow:=zi9 (c:=c) hi
 have hsuc:=zig c T i
 obtain ⟨pa,hpa⟩:=hTm T[i] (List.getElem_mem _)
 have hle:∀ j (hj:j<T.length),i≤j→T[i].at_≤T[j].at_:=fun j hj hij=>by
   by_cases e:i=j
   · subst e;omega
   exact List.pairwise_iff_getElem.1 hTp i j hi hj (by omega)
 have hDl:(T.drop i).length=T.length-i:=List.length_drop
 generalize hae:T[i]=a at *
 refine zas T.length (fun j us w'=>∃ out F,us=[out,.int .i64 (j:Int)]∧i≤j∧j≤T.length∧Ext wb w'∧Mine F w' out (zeq (ze4 c T i++((T.drop i).take (j-i)).flatMap (rc1 c a)))∧∀ b∈F,wb.heap.size≤b) i (by omega) ⟨out,F5,rfl,Nat.le_refl _,by omega,hx5,by simpa using hM5,hF5⟩ ?_
 rintro j mj u6 w6 hjm ⟨out6,F6,hu6,hij,hjl,hx6,hM6,hF6⟩
 obtain ⟨hu61,hu62⟩:=zb9 hu6
 rw [hu61,hu62]
 refine zaf zjl hTb ?_
 refine zah ?_
 refine br (fun hlt6=>?_) (fun hge6=>?_)
 case refine_2=>
   have hje:j=T.length:=by omega
   refine zag (by omega) ?_
   refine ⟨mk-1,by omega,i+1,by omega,out6,F6,rfl,by omega,hx6,?_,hF6⟩
   rw [List.take_of_length_le (by omega)] at hM6
   rw [hsuc,hrow];exact hM6
 have hj:j<T.length:=by omega
 have hjD:j-i<(T.drop i).length:=by omega
 have hDj:(T.drop i)[j-i]=T[j]:=by rw [List.getElem_drop];congr 1;omega
 have hfs:=zdy (f:=rc1 c a) hjD
 rw [hDj,show j-i+1=j+1-i by omega] at hfs
 have hrl:=zk6 c a ((T.drop i).take (j-i))
 have htl:=List.length_take_le' (j-i) (T.drop i)
 obtain ⟨pb,hpb⟩:=hTm T[j] (List.getElem_mem _)
 have hlej:=hle j hj hij
 refine zad zjl zcs (i:=i) hTb hi fun b7 o7 hA7=>?_
 rw [hae] at hA7
 refine zab zcs hA7 hx6 fun v31 h31=>?_
 refine zce zoA rfl zcs rfl h31 hx6 fun w7 hx7 hAa hVa=>?_
 refine zad zjl zcs (i:=j) hTb hj fun b8 o8 hA8=>?_
 generalize hbe:T[j]=bb at *
 refine zab zcs hA8 (hx6.trans hx7) fun v35 h35=>?_
 refine zce zoA rfl zcs rfl h35 (hx6.trans hx7) fun w8 hx8 hAb hVb=>?_
 have hxd:=zan w8
 have hAa9:=hAa.ext (hx8.trans hxd)
 have hAb9:=hAb.ext hxd
 have hx69:=hx7.trans (hx8.trans hxd)
 generalize World.drew1 w8=w9 at *
 have hx9:=hx6.trans hx69
 have hM9:=hM6.ext hx69
 have hno:∀ {w10:World},Ext w9 w10→¬(zcY a bb∧zft c (zar c a.at_).toNat (zar c bb.at_).toNat)→RD Tryz.prog (bin .add 3 (.tmp 0) (.const undef) (.int .i64 (j:Int)) (.int .i64 1)) w10 fun x27=>∃ m',m'<mj∧∃ k',k'+m'=T.length∧∃ out F,[out6,x27]=[out,.int .i64 (k':Int)]∧i≤k'∧k'≤T.length∧Ext wb w10∧Mine F w10 out (zeq (ze4 c T i++((T.drop i).take (k'-i)).flatMap (rc1 c a)))∧∀ b∈F,wb.heap.size≤b:=fun hx10 hn=>by
   refine zag (by omega) ?_
   refine ⟨mj-1,by omega,j+1,by omega,out6,F6,rfl,by omega,by omega,hx9.trans hx10,?_,hF6⟩
   rw [hfs]
   have:rc1 c a bb=[]:=by unfold rc1;rw [if_neg hn]
   rw [this,List.append_nil]
   exact hM9.ext hx10
 refine zaa zf4 ?_
 refine zac ty3 (zcu hAa9) (Ext.refl _) fun hg1=>?_
 refine zaa zf4 ?_
 refine zac ty3 (zcu hAb9) (Ext.refl _) fun _=>?_
 refine zaq ?_
 refine br (fun hgl=>?_) (fun hgl=>hno (Ext.refl _) fun h=>hgl h.1.1)
 refine zaa zit ?_
 refine zax ty4 (zd6 hAa9) (Ext.refl _) ?_
 refine zoa (Q:=a.write=true∨bb.write=true) .inl (fun hwr=>?_) (fun key hf=>?_)
 case refine_2=>
   refine zaa zit ?_
   refine zax ty4 (zd6 hAb9) (Ext.refl _) ?_
   refine zbI (fun h=>key (.inr h)) (fun h=>hno (Ext.refl _) fun h2=>?_)
   rcases h2.1.2.1 with h3 | h3
   · rw [h3] at hf;cases hf
   rw [h3] at h;cases h
 obtain ⟨ma,hma⟩:=Int.eq_ofNat_of_zero_le hpa.h0
 obtain ⟨mb,hmb⟩:=Int.eq_ofNat_of_zero_le hpb.h0
 have h1a:=hpa.h1
 have h1b:=hpb.h1
 refine zaa zf5 ?_
 refine zac ty3 (zcv hAa9) (Ext.refl _) fun _=>?_
 refine zaa zf5 ?_
 refine zac ty3 (zcv hAb9) (Ext.refl _) fun _=>?_
 rw [hma,hmb]
 refine zdl (m:=ma) (n:=mb) (by omega) (by omega) ?_
 refine zaq ?_
 have hcl:zcY a bb↔(a.global=bb.global∧(a.write=true∨bb.write=true)∧ma &&& mb=0):=by
   unfold zcY
   rw [hma,hmb]
   simp only [Int.toNat_natCast]
   constructor
   · rintro ⟨h1,h2,_,_,h5⟩;exact ⟨h1,h2,h5⟩
   rintro ⟨h1,h2,h5⟩;exact ⟨h1,h2,⟨by omega,by omega⟩,⟨by omega,by omega⟩,h5⟩
 refine br (fun hz=>?_) (fun hz=>hno (Ext.refl _) fun h=>hz (by rw [(hcl.1 h.1).2.2];rfl))
 have hC:zcY a bb:=hcl.2 ⟨hgl,hwr,by omega⟩
 refine zab zbu hA (hx1b.trans hx9) fun v59 h59=>?_
 refine zaa zdB ?_
 refine zac ty3 (zbA hAa9) (Ext.refl _) fun hIa=>?_
 refine zab zbu hA (hx1b.trans hx9) fun v65 h65=>?_
 refine zaa zdB ?_
 refine zac ty3 (zbA hAb9) (Ext.refl _) fun hIb=>?_
 refine (zdO (a:=a.at_) h59 (hx1b.trans hx9)).mono ?_
 rintro _ w10 ⟨hx10,rfl⟩
 refine ⟨hx10,?_⟩
 obtain ⟨qa,hqa,hpqa,_⟩:=zcN hc hpa.lt
 obtain ⟨qb,hqb,hpqb,_⟩:=zcN hc hpb.lt
 have hpa':zar c a.at_=(qa:Int):=by rw [hpa.at_,hpqa]
 have hpb':zar c bb.at_=(qb:Int):=by rw [hpb.at_,hpqb]
 rw [hpa',hpb'] at hno
 simp only [Int.toNat_natCast] at hno
 rw [hpa']
 have hGl:(zmG c c.procs.length).length=c.procs.length:=by simp [zmG]
 have hx10b:=hx9.trans hx10
 refine zad u99 zcq (i:=qa) hGb (by rw [hGl];exact hqa) fun b11 o11 hA11=>?_
 rw [show (zmG c c.procs.length)[qa]'(by rw [hGl];exact hqa)=zbE c.procs.length (zft c qa) by simp only [zmG,List.getElem_map,List.getElem_range]] at hA11
 refine zab zcq hA11 hx10b fun v64 h64=>?_
 refine (zdO (a:=bb.at_) h65 (hx1b.trans hx10b)).mono ?_
 rintro _ w11 ⟨hx11,rfl⟩
 refine ⟨hx11,?_⟩
 rw [hpb']
 have hx11b:=hx10b.trans hx11
 have hx911:=hx10.trans hx11
 have hmk:=zaI (n:=c.procs.length) (p:=zft c qa) (i:=qb)
 rw [zaL (by rw [zak];exact hqb)] at hmk
 refine zad zcm ty4 (i:=qb) h64 (by rw [zak];exact hqb) fun b12 o12 hA12=>?_
 refine zax ty4 hA12 hx11b ?_
 refine zbI (fun ht=>?_) (fun hf=>hno hx911 fun h=>by rw [hmk.2 ⟨hqb,h.2⟩] at hf;cases hf)
 have hB:=(hmk.1 ht).2
 refine zaa zf4 ?_
 refine zac ty3 (zcu hAa9) hx911 fun _=>?_
 refine zaa zdB ?_
 refine zac ty3 (zbA hAa9) hx911 fun _=>?_
 refine zaa zdB ?_
 refine zac ty3 (zbA hAb9) hx911 fun _=>?_
 refine zcB (cells:=#[.int .i64 a.global,.int .i64 a.at_,.int .i64 bb.at_]) (by kernel_rfl) ?_
 have hro:zdX a bb=⟨a.global,a.at_,bb.at_⟩:=by
   unfold zdX
   rw [show min a.at_ bb.at_=a.at_ by omega,show max a.at_ bb.at_=bb.at_ by omega]
 have hIr:Is w11 (.agg #[.int .i64 a.global,.int .i64 a.at_,.int .i64 bb.at_]) (zdX a bb):=by
   rw [hro]
   exact zg3.2 ⟨rfl,hg1,hIa,hIb⟩
 have hcn:=zj4 (ze4 c T i++((T.drop i).take (j-i)).flatMap (rc1 c a))
 rw [List.length_append] at hcn
 refine (zmA (hM9.ext hx911) hIr (Ext.refl _) (by omega)).mono ?_
 rintro v80 w12 ⟨hx12,F12,hM12,hF12⟩
 refine zag (by omega) ?_
 refine ⟨mj-1,by omega,j+1,by omega,v80,F12,rfl,by omega,by omega,hx11b.trans hx12,?_,fun b hb=>?_⟩
 · rw [hfs]
   have:rc1 c a bb=[zdX a bb]:=by
     unfold rc1;rw [if_pos ⟨hC,by rw [hpa',hpb'];simpa using hB⟩]
   rw [this,←List.append_assoc,zmq]
   exact hM12
 rcases hF12 b hb with h | h
 · exact hF6 b h
 have:=hx11b.size;omega
def F52 (a0:Value) (w:World) (R:VW):Prop:=
 oP (Instr.box 32 a0) w fun x1 w=>
 rL 32 x1 w fun x6=>
 cL 42 [x6] w fun x7 w=>
 rE x7 0 w fun x8=>
 rE x7 1 w fun x9=>
 rD (Op.unary .not x9) w fun x11=>
 BR x11
 (R (Value.slice none 0 0) w)
 (cL 63 [x8] w fun x13 w=>
 R x13 w)
def cfg52:Cfg:=⟨extL,[],[],[],[],[],[]⟩
theorem F52_call {a0:Value} {w:World} {R:VW} (h:F52 a0 w R):cL 52 [a0] w R:=co (g:=cfg52) Tryz.func52 (by kernel_rfl) (by kernel_rfl) (by kernel_rfl) h
def F51 (a0:Value) (w:World) (R:VW):Prop:=
 oP (Instr.box 32 a0) w fun x1 w=>
 rL 32 x1 w fun x3=>
 cL 35 [x3] w fun x4 w=>
 rD (Op.unary .not x4) w fun x5=>
 BR x5
 (oP (Instr.buildSlice 43 0 #[]) w fun x6 w=>
 R x6 w)
 (rL 32 x1 w fun x7=>
 cL 56 [x7] w fun x8 w=>
 R x8 w)
def cfg51:Cfg:=⟨extL,[],[],[],[],[],[]⟩
theorem F51_call {a0:Value} {w:World} {R:VW} (h:F51 a0 w R):cL 51 [a0] w R:=co (g:=cfg51) Tryz.func51 (by kernel_rfl) (by kernel_rfl) (by kernel_rfl) h
def F22 (a0 a1:Value) (w:World) (R:VW):Prop:=
 oP (Instr.box 32 a0) w fun x2 w=>
 rL 32 x2 w fun x8=>
 cL 52 [x8] w fun x9 w=>
 rN 43 3 x9 w fun x10=>
 LOOPI [5,11] [(Value.slice none 0 0),(iV 0)] w fun u3 w next3=>
 rC (u3 11) x10 w fun x12=>
 BR x12
 (rX 43 x9 (u3 11) w fun x13=>
 rL 79 x13 w fun x14=>
 oP (Instr.alloc 79 true (.tuple #[])) w fun x7 w=>
 oS 79 x7 x14 w fun w=>
 rF 79 x7 0 w fun x15=>
 rL 3 x15 w fun x16=>
 rB .eql 3 T0 T0 x16 a1 w fun x18=>
 BR x18
 (rL 79 x7 w fun x20=>
 oP (Instr.buildSlice 43 1 #[(0,x20)]) w fun x21 w=>
 oP (Builtin.append_ #[43,43] 43 [(u3 5),x21].toArray) w fun x22 w=>
 rA (u3 11) (iV 1) w fun x23=>
 next3 [x22,x23] w)
 (rA (u3 11) (iV 1) w fun x23=>
 next3 [(u3 5),x23] w))
 (R (u3 5) w)
def cfg22:Cfg:=⟨extL,[],[(3,16775328,[5,11])],[],[],[],[]⟩
theorem F22_call {a0 a1:Value} {w:World} {R:VW} (h:F22 a0 a1 w R):cL 22 [a0,a1] w R:=co (g:=cfg22) Tryz.func22 (by kernel_rfl) (by kernel_rfl) (by kernel_rfl) h
def F21 (a0 a1:Value) (w:World) (R:VW):Prop:=
 oP (Instr.box 32 a0) w fun x2 w=>
 oP (Instr.buildSlice 43 0 #[]) w fun x8 w=>
 rL 32 x2 w fun x9=>
 cL 51 [x9] w fun x10 w=>
 LOOPI [5,7] [x8,(iV 0)] w fun u4 w next4=>
 rN 43 3 x10 w fun x13=>
 rC (u4 7) x13 w fun x14=>
 BR x14
 (rX 43 x10 (u4 7) w fun x19=>
 rF 79 x19 0 w fun x20=>
 rL 3 x20 w fun x21=>
 rB .eql 3 T0 T0 x21 a1 w fun x23=>
 BR x23
 (rX 43 x10 (u4 7) w fun x27=>
 rL 79 x27 w fun x28=>
 oP (Instr.buildSlice 43 1 #[(0,x28)]) w fun x29 w=>
 oP (Builtin.append_ #[43,43] 43 [(u4 5),x29].toArray) w fun x30 w=>
 rA (u4 7) (iV 1) w fun x16=>
 next4 [x30,x16] w)
 (rA (u4 7) (iV 1) w fun x16=>
 next4 [(u4 5),x16] w))
 (R (u4 5) w)
def cfg21:Cfg:=⟨extL,[],[(4,2147481760,[5,7])],[],[],[],[]⟩
theorem F21_call {a0 a1:Value} {w:World} {R:VW} (h:F21 a0 a1 w R):cL 21 [a0,a1] w R:=co (g:=cfg21) Tryz.func21 (by kernel_rfl) (by kernel_rfl) (by kernel_rfl) h
open Rep (rep)
open Classical in
noncomputable def zeP (c:DCode):List DRace:=if CodeR c then zeq (ze4 c (zjc c) (zjc c).length) else []
theorem zgp (c:DCode):(zeP c).length≤324000000:=by
 unfold zeP;split
 · rename_i h;exact Nat.le_trans (zj4 _) (zhG (zgS h) (zgS h))
 simp
theorem zhP {w W0:World} {v0:Value} {c:DCode} (h0:Is W0 v0 c) (e0:Ext W0 w) :
   CALL Tryz.prog 52 [v0] w fun r w'=>Ext w w'∧Own w.heap.size w' r (zeP c):=by
 refine F52_call ?_
 unfold F52
 refine zbq h0 e0 fun w1 hx1 hA=>?_
 refine zab zbu hA (Ext.refl _) fun v6 h6=>?_
 refine (zmo h6 (Ext.refl _)).mono ?_
 rintro r7 w2 ⟨hx2,hr⟩
 have hs1:=hx1.size
 have hs2:=hx2.size
 rcases hr with ⟨hn,rfl⟩ | ⟨hc,b,rfl,hW⟩
 · refine zda rfl ?_
   refine zda rfl ?_
   refine za0 ?_
   refine zbI (fun _=>?_) (fun h=>by cases h)
   refine ⟨hx1.trans hx2,?_⟩
   unfold zeP;rw [if_neg hn]
   exact zip rfl
 refine zda rfl ?_
 refine zda rfl ?_
 refine za0 ?_
 refine zbI (fun h=>by cases h) (fun _=>?_)
 refine (zpc hW (Ext.refl _) hc).mono ?_
 rintro v13 w3 ⟨hx3,ho3⟩
 refine ⟨hx1.trans (hx2.trans hx3),?_⟩
 unfold zeP;rw [if_pos hc]
 exact ho3.mono (by omega)
theorem zhQ {w W0:World} {v0:Value} {c:DCode} (h0:Is W0 v0 c) (e0:Ext W0 w) :
   CALL Tryz.prog 51 [v0] w fun r w'=>Ext w w'∧Own w.heap.size w' r (zeP c):=by
 refine F51_call ?_
 unfold F51
 refine zbq h0 e0 fun w1 hx1 hA=>?_
 refine zab zbu hA (Ext.refl _) fun v3 h3=>?_
 refine (ziG h3 (Ext.refl _)).mono ?_
 rintro _ w2 ⟨hx2,rfl⟩
 have hs1:=hx1.size
 have hs2:=hx2.size
 refine zaA ?_
 refine br (fun hn=>?_) (fun hy=>?_)
 · refine zba (α:=DRace) u43 zcf fun a8 w3 hx3 hr3=>?_
   refine ⟨hx1.trans (hx2.trans hx3),?_⟩
   unfold zeP;rw [if_neg hn]
   exact hr3.own.own.mono (by have:=hx3.size;omega)
 have hc:=Decidable.not_not.1 hy
 refine zab zbu hA hx2 fun v7 h7=>?_
 refine (zoe h7 hx2 hc).mono ?_
 rintro v8 w3 ⟨hx3,ho3⟩
 refine ⟨hx1.trans (hx2.trans hx3),?_⟩
 unfold zeP;rw [if_pos hc]
 exact ho3.mono (by omega)
noncomputable def zhH (c:DCode) (g:Int):List DRace:=(zeP c).filter fun r=>decide (r.g=g)
theorem zk7 (c:DCode) (g:Int):(zhH c g).length≤324000000:=Nat.le_trans (List.length_filter_le _ _) (zgp c)
theorem zl1 {L:List DRace} {g:Int} {k:Nat} (hk:k<L.length) (h:L[k].g=g):(L.take (k+1)).filter (fun r=>decide (r.g=g))=(L.take k).filter (fun r=>decide (r.g=g))++[L[k]]:=by
 rw [List.take_succ_eq_append_getElem hk,List.filter_append];simp [h]
theorem zof {L:List DRace} {g:Int} {k:Nat} (hk:k<L.length) (h:¬L[k].g=g):(L.take (k+1)).filter (fun r=>decide (r.g=g))=(L.take k).filter (fun r=>decide (r.g=g)):=by
 rw [List.take_succ_eq_append_getElem hk,List.filter_append];simp [h]
theorem zfb {w W0:World} {v0:Value} {c:DCode} {g:Int} (h0:Is W0 v0 c) (e0:Ext W0 w) :
   CALL Tryz.prog 22 [v0,.int .i64 g] w fun r w'=>Ext w w'∧Own w.heap.size w' r (zhH c g):=by
 refine F22_call ?_
 unfold F22
 refine zbq h0 e0 fun w1 hx1 hA=>?_
 refine zab zbu hA (Ext.refl _) fun v8 h8=>?_
 refine (zhP h8 (Ext.refl _)).mono ?_
 rintro v9 w2 ⟨hx2,ho2⟩
 have hl:=zgp c
 have hs1:=hx1.size
 have hs2:=hx2.size
 unfold zhH
 generalize zeP c=L at *
 refine zaf u43 ho2.is ?_
 refine zas L.length (fun k us w'=>∃ out,us=[out,.int .i64 (k:Int)]∧k≤L.length∧Ext w2 w'∧RowI w2.heap.size w'.heap.size 79 w' out ((L.take k).filter fun r=>decide (r.g=g))) 0 (Nat.zero_le _) ⟨_,rfl,Nat.zero_le _,Ext.refl _,zc0 _ _ _ _⟩ ?_
 rintro k mk u w3 hkm ⟨out,hu,hkl,hx3,hr3⟩
 obtain ⟨hu1,hu2⟩:=zb9 hu
 rw [hu1,hu2]
 refine zah ?_
 refine br (fun hlt=>?_) (fun hge=>?_)
 case refine_2=>
   rw [List.take_of_length_le (by omega)] at hr3
   exact ⟨hx1.trans (hx2.trans hx3),hr3.own.own.mono (by omega)⟩
 have hk:k<L.length:=by omega
 have hfl:=List.length_filter_le (fun r:DRace=>decide (r.g=g)) (L.take k)
 have htl:=List.length_take_le' k L
 have hs3:=hx3.size
 refine zad u43 zcf (i:=k) ho2.is hk fun b4 o4 hA4=>?_
 refine zab zcf hA4 hx3 fun v14 h14=>?_
 refine zce zrp rfl zcf rfl h14 hx3 fun w4 hx4 hAr hVr=>?_
 have hs4:=hx4.size
 refine zaa zen ?_
 refine zac ty3 (zb1 hAr) (Ext.refl _) fun _=>?_
 refine zaq ?_
 refine br (fun hg=>?_) (fun hg=>?_)
 · refine zab zcf hAr (Ext.refl _) fun v20 h20=>?_
   refine zcb (lo2:=w4.heap.size) (hi2:=w4.heap.size) (x:=L[k]) u43 zcf z79 zpY (by decide) ((hr3.ext hx4).mono (Nat.le_refl _) hs4) (by omega) (zi6 h20) (Nat.le_refl _) (by omega) (by rw [zao];omega) (by omega) fun v22 w5 hc5 hr5=>?_
   refine zag (by omega) ?_
   refine ⟨mk-1,by omega,k+1,by omega,v22,rfl,by omega,(hx3.trans hx4).chgI hc5 (Nat.le_refl _),?_⟩
   rw [zl1 hk hg];exact hr5
 refine zag (by omega) ?_
 refine ⟨mk-1,by omega,k+1,by omega,out,rfl,by omega,hx3.trans hx4,?_⟩
 rw [zof hk hg];exact (hr3.ext hx4).mono (Nat.le_refl _) hs4
theorem zhR {w W0:World} {v0:Value} {c:DCode} {g:Int} (h0:Is W0 v0 c) (e0:Ext W0 w) :
   CALL Tryz.prog 21 [v0,.int .i64 g] w fun r w'=>Ext w w'∧Own w.heap.size w' r (zhH c g):=by
 refine F21_call ?_
 unfold F21
 refine zbq h0 e0 fun w1 hx1 hA=>?_
 refine zba (α:=DRace) u43 zcf fun a8 wa hxa _=>?_
 refine zab zbu hA hxa fun v8 h8=>?_
 refine (zhQ h8 hxa).mono ?_
 rintro v9 w2 ⟨hx2,ho2⟩
 have hl:=zgp c
 have hs1:=hx1.size
 have hsa:=hxa.size
 have hs2:=hx2.size
 unfold zhH
 generalize zeP c=L at *
 refine zas L.length (fun k us w'=>∃ out,us=[out,.int .i64 (k:Int)]∧k≤L.length∧Ext w2 w'∧RowI w2.heap.size w'.heap.size 79 w' out ((L.take k).filter fun r=>decide (r.g=g))) 0 (Nat.zero_le _) ⟨_,rfl,Nat.zero_le _,Ext.refl _,zdM _ _ _ _ _⟩ ?_
 rintro k mk u w3 hkm ⟨out,hu,hkl,hx3,hr3⟩
 obtain ⟨hu1,hu2⟩:=zb9 hu
 rw [hu1,hu2]
 refine zaf u43 ho2.is ?_
 refine zah ?_
 refine br (fun hlt=>?_) (fun hge=>?_)
 case refine_2=>
   rw [List.take_of_length_le (by omega)] at hr3
   exact ⟨hx1.trans (hxa.trans (hx2.trans hx3)),hr3.own.own.mono (by omega)⟩
 have hk:k<L.length:=by omega
 have hfl:=List.length_filter_le (fun r:DRace=>decide (r.g=g)) (L.take k)
 have htl:=List.length_take_le' k L
 have hs3:=hx3.size
 refine zad u43 zcf (i:=k) ho2.is hk fun b4 o4 hA4=>?_
 refine zaa zen ?_
 refine zac ty3 (zb1 hA4) hx3 fun _=>?_
 refine zaq ?_
 refine br (fun hg=>?_) (fun hg=>?_)
 · refine zad u43 zcf (i:=k) ho2.is hk fun b5 o5 hA5=>?_
   refine zab zcf hA5 hx3 fun v20 h20=>?_
   refine zcb (lo2:=w3.heap.size) (hi2:=w3.heap.size) (x:=L[k]) u43 zcf z79 zpY (by decide) hr3 (by omega) (zi6 (h20.ext hx3)) (Nat.le_refl _) (by omega) (by rw [zao];omega) (by omega) fun v22 w5 hc5 hr5=>?_
   refine zag (by omega) ?_
   refine ⟨mk-1,by omega,k+1,by omega,v22,rfl,by omega,hx3.chgI hc5 (Nat.le_refl _),?_⟩
   rw [zl1 hk hg];exact hr5
 refine zag (by omega) ?_
 refine ⟨mk-1,by omega,k+1,by omega,out,rfl,by omega,hx3,?_⟩
 rw [zof hk hg];exact hr3
end Go.Proofs.YtifonhplnmpgaaaGreat
namespace Go.Sh
open Rep (rep)
instance:Rep UInt8 where
 size:=1
 agg:=false
 rep F _ cs x:=F=[]∧cs=[.int .u8 (x.toNat:Int)]
 pos:=by decide
 sz _:=rfl
 len:=by rintro _ _ _ _ ⟨_,rfl⟩;rfl
 one:=by rintro _ _ _ _ ⟨_,rfl⟩ v hv;simp at hv;subst hv;rfl
 keep:=by rintro _ _ _ _ _ h _;exact h
 lt:=by rintro _ _ _ _ ⟨rfl,_⟩ b hb;cases hb
instance:Flat UInt8:=⟨fun h=>h.1⟩
instance:RepZ UInt8:=⟨0,[.int .u8 0],fun _=>⟨rfl,rfl⟩⟩
section
variable {P:Program} {w w0:World} {K:Value→Prop} {t:TypeId} {x y:Operand}
theorem zqp {b:UInt8}:Mine [] w (.int .u8 (b.toNat:Int)) b:=⟨⟨_,⟨rfl,rfl⟩,rfl⟩,List.nodup_nil,Wr.nil w⟩
theorem zqq {lo hi:Nat} {b:UInt8}:OwnI lo hi w (.int .u8 (b.toNat:Int)) b:=⟨[],zqp,by simp⟩
theorem zqr {src dst:TypeId} {n:Nat} (hs:(P.underlying src).isSome=true) (hd:P.underlying dst=some (.int .u8)) (hn:n<256) (k:K (.int .u8 ((UInt8.ofNat n).toNat:Int))):RD P (convert src dst (.int .i64 (n:Int))) w K:=by
 refine za4 (fun w' _=>?_) k
 obtain ⟨d,hd'⟩:=Option.isSome_iff_exists.mp hs
 have h1:IntKind.u8.wrap (n:Int)=n:=by simp [IntKind.wrap,IntKind.signed,IntKind.bits];omega
 have h2:(UInt8.ofNat n).toNat=n:=by simp;omega
 simp [convert,run_underlying hd',run_underlying hd,Conv.intToInt,h1]
 omega
theorem zk8 {src dst e:TypeId} {v:Value} {l:List UInt8} (hs:P.underlying src=some (.slice e)) (he:P.underlying e=some (.int .u8)) (hd:P.underlying dst=some .string) (h:Is w0 v l) (hx:Ext w0 w)
   (k:K (.string ⟨l.toArray⟩)):RD P (convert src dst v) w K:=by
 obtain ⟨a,cap,Fi,xs,rfl,h1,h2,hc,h4⟩:=zdc h
 have hcells:∀ {l:List UInt8} {F:List Nat} {xs:List Value},Cells F w0 xs l→xs=l.map fun b=>Value.int .u8 (b.toNat:Int):=by
   intro l
   induction l with
   | nil=>rintro _ _ ⟨_,rfl⟩;rfl
   | cons b l ih=>
     rintro _ _ ⟨F1,F2,c1,c2,_,rfl,⟨_,rfl⟩,h⟩
     rw [ih h];rfl
 have hxs:=hcells hc
 refine za4 (fun w' hx'=>?_) k
 rcases h4 with rfl | ⟨b,o,rfl,hr,hb⟩
 · cases a with
   | none=>exact run_convert_bytes_nil w' src e hs he _ _ dst hd
   | some a=>
     rw [run_convert_bytes_string w' src dst e _ _ cap hs he hd]
     have:=run_bytesToString (P:=P) w' a 0 cap [] (by simp [loadCells,loadCellsFrom])
     exact this
 have:=run_convert_bytes_arg w' src e hs he b o l.length cap (l.map fun b=>(b.toNat:Int)) (by simp) (fun i hi=>by
   have hr':=zbp (zbp hr hx) hx'
   have:=hr' i (.int .u8 (l[i].toNat:Int)) (by rw [hxs];simp [hi])
   rw [this]
   simp [List.getD,hi]) dst hd
 rw [this]
 have e:strOfNums (l.map fun b=>(b.toNat:Int))=⟨l.toArray⟩:=by
   unfold strOfNums
   congr 2
   rw [List.map_map]
   conv=>rhs;rw [←List.map_id l]
   congr 1
   funext b
   simp
 rw [e]
theorem zog {a b:ByteArray} (h:a.size+b.size≤9223372036854775807) (k:K (.string (a++b))):RD P (bin .add t x y (.string a) (.string b)) w K:=
 za4 (fun w' _=>by
   have hh:¬(((a.size+b.size:Nat):Int)>IntKind.i64.max):=by
     have:IntKind.i64.max=9223372036854775807:=by decide
     omega
   show (do eqGuard .add t x y (.string a) (.string b);binOp .add t (.string a) (.string b):Sem Value).run P w'=_
   simp only [eqGuard,binOp,Op.stringOp,hh,if_false]
   rfl) k
theorem zrc {a b:Int} (hb:b≠0) (h:I64 (a.tdiv b)) (k:K (.int .i64 (a.tdiv b))):RD P (bin .quo t x y (.int .i64 a) (.int .i64 b)) w K:=
 za4 (fun w' _=>by simp [bin,eqGuard,binOp,Op.intDiv,hb,IntWalk.i64_in _ h]) k
end
end Go.Sh
namespace Go.Proofs.YtifonhplnmpgaaaGreat
open Go Go.Sh Go.Proofs
open Rep (rep)
def F92 (a0:Value) (w:World) (R:VW):Prop:=
 rB .leq 3 T0 U0 a0 (iV 0) w fun x5=>
 BR x5
 (R (Value.string (ByteArray.mk #[109,48])) w)
 (LOOPI [0,3] [a0,(Value.string (ByteArray.mk #[]))] w fun u4 w next4=>
 rB .gtr 3 T0 U0 (u4 0) (iV 0) w fun x7=>
 BR x7
 (rB .rem 3 T0 U0 (u4 0) (iV 10) w fun x9=>
 rB .add 3 U0 T0 (iV 48) x9 w fun x10=>
 rD (convert 3 5 x10) w fun x11=>
 oP (Instr.buildSlice 170 1 #[(0,x11)]) w fun x12 w=>
 rD (convert 170 9 x12) w fun x13=>
 rB .add 9 T0 T0 x13 (u4 3) w fun x15=>
 rB .quo 3 T0 U0 (u4 0) (iV 10) w fun x17=>
 next4 [x17,x15] w)
 (rB .add 9 U0 T0 (Value.string (ByteArray.mk #[109])) (u4 3) w fun x19=>
 R x19 w))
def cfg92:Cfg:=⟨extL,[],[(4,262089,[0,3])],[],[],[],[]⟩
theorem F92_call {a0:Value} {w:World} {R:VW} (h:F92 a0 w R):cL 92 [a0] w R:=co (g:=cfg92) Tryz.func92 (by kernel_rfl) (by kernel_rfl) (by kernel_rfl) h
def F49 (a0 a1:Value) (w:World) (R:VW):Prop:=
 LOOPI [1,5] [a1,(iV 0)] w fun u2 w next2=>
 rN 22 3 a0 w fun x8=>
 rC (u2 5) x8 w fun x9=>
 BR x9
 (cL 92 [(u2 1)] w fun x15 w=>
 rX 22 a0 (u2 5) w fun x16=>
 oS 9 x16 x15 w fun w=>
 rA (u2 1) (iV 1) w fun x18=>
 rA (u2 5) (iV 1) w fun x11=>
 next2 [x18,x11] w)
 (R (u2 1) w)
def cfg49:Cfg:=⟨extL,[],[(2,524258,[1,5])],[],[],[],[]⟩
theorem F49_call {a0 a1:Value} {w:World} {R:VW} (h:F49 a0 a1 w R):cL 49 [a0,a1] w R:=co (g:=cfg49) Tryz.func49 (by kernel_rfl) (by kernel_rfl) (by kernel_rfl) h
def F93 (a0 a1:Value) (w:World) (R:VW):Prop:=
 LOOPI [1,5] [a1,(iV 0)] w fun u2 w next2=>
 rN 107 3 a0 w fun x8=>
 rC (u2 5) x8 w fun x9=>
 BR x9
 (rX 107 a0 (u2 5) w fun x15=>
 rF 109 x15 0 w fun x16=>
 oS 3 x16 (u2 1) w fun w=>
 rA (u2 1) (iV 1) w fun x18=>
 rX 107 a0 (u2 5) w fun x22=>
 rF 109 x22 1 w fun x23=>
 oS 3 x23 x18 w fun w=>
 rA x18 (iV 1) w fun x25=>
 cL 92 [x25] w fun x29 w=>
 rX 107 a0 (u2 5) w fun x30=>
 rF 109 x30 2 w fun x31=>
 oS 9 x31 x29 w fun w=>
 rA x25 (iV 1) w fun x33=>
 rX 107 a0 (u2 5) w fun x36=>
 rF 109 x36 3 w fun x37=>
 rL 107 x37 w fun x38=>
 cL 93 [x38,x33] w fun x40 w=>
 rA (u2 5) (iV 1) w fun x11=>
 next2 [x40,x11] w)
 (R (u2 1) w)
def cfg93:Cfg:=⟨extL,[],[(2,2199023255522,[1,5])],[],[],[],[]⟩
theorem F93_call {a0 a1:Value} {w:World} {R:VW} (h:F93 a0 a1 w R):cL 93 [a0,a1] w R:=co (g:=cfg93) Tryz.func93 (by kernel_rfl) (by kernel_rfl) (by kernel_rfl) h
def F50 (a0 a1:Value) (w:World) (R:VW):Prop:=
 LOOPI [1,5] [a1,(iV 0)] w fun u2 w next2=>
 rN 30 3 a0 w fun x8=>
 rC (u2 5) x8 w fun x9=>
 BR x9
 (rX 30 a0 (u2 5) w fun x15=>
 rF 111 x15 0 w fun x16=>
 oS 3 x16 (u2 1) w fun w=>
 rA (u2 1) (iV 1) w fun x18=>
 rX 30 a0 (u2 5) w fun x22=>
 rF 111 x22 1 w fun x23=>
 oS 3 x23 x18 w fun w=>
 rA x18 (iV 1) w fun x25=>
 rX 30 a0 (u2 5) w fun x29=>
 rF 111 x29 2 w fun x30=>
 rF 109 x30 0 w fun x31=>
 oS 3 x31 x25 w fun w=>
 rA x25 (iV 1) w fun x33=>
 rX 30 a0 (u2 5) w fun x37=>
 rF 111 x37 2 w fun x38=>
 rF 109 x38 1 w fun x39=>
 oS 3 x39 x33 w fun w=>
 rA x33 (iV 1) w fun x41=>
 cL 92 [x41] w fun x45 w=>
 rX 30 a0 (u2 5) w fun x46=>
 rF 111 x46 2 w fun x47=>
 rF 109 x47 2 w fun x48=>
 oS 9 x48 x45 w fun w=>
 rA x41 (iV 1) w fun x50=>
 rX 30 a0 (u2 5) w fun x53=>
 rF 111 x53 2 w fun x54=>
 rF 109 x54 3 w fun x55=>
 rL 107 x55 w fun x56=>
 cL 93 [x56,x50] w fun x58 w=>
 rX 30 a0 (u2 5) w fun x62=>
 rF 111 x62 3 w fun x63=>
 oS 3 x63 x58 w fun w=>
 rA x58 (iV 1) w fun x65=>
 rA (u2 5) (iV 1) w fun x11=>
 next2 [x65,x11] w)
 (R (u2 1) w)
def cfg50:Cfg:=⟨extL,[],[(2,73786976294838206434,[1,5])],[],[],[],[]⟩
theorem F50_call {a0 a1:Value} {w:World} {R:VW} (h:F50 a0 a1 w R):cL 50 [a0,a1] w R:=co (g:=cfg50) Tryz.func50 (by kernel_rfl) (by kernel_rfl) (by kernel_rfl) h
def F13 (a0 a1:Value) (w:World) (R:VW):Prop:=
 oP (Instr.box 32 a0) w fun x2 w=>
 rF 32 x2 0 w fun x5=>
 rL 22 x5 w fun x6=>
 cL 49 [x6,a1] w fun x8 w=>
 rF 32 x2 1 w fun x9=>
 rL 22 x9 w fun x10=>
 cL 49 [x10,x8] w fun x12 w=>
 rF 32 x2 2 w fun x13=>
 rL 22 x13 w fun x14=>
 cL 49 [x14,x12] w fun x16 w=>
 rF 32 x2 3 w fun x17=>
 rL 23 x17 w fun x18=>
 cL 14 [x18,x16] w fun x20 w=>
 rF 32 x2 4 w fun x21=>
 rL 30 x21 w fun x22=>
 cL 50 [x22,x20] w fun x24 w=>
 R x24 w
def cfg13:Cfg:=⟨extL,[],[],[],[],[],[]⟩
theorem F13_call {a0 a1:Value} {w:World} {R:VW} (h:F13 a0 a1 w R):cL 13 [a0,a1] w R:=co (g:=cfg13) Tryz.func13 (by kernel_rfl) (by kernel_rfl) (by kernel_rfl) h
def F20 (a0 a1:Value) (w:World) (R:VW):Prop:=
 LOOPI [1,5] [a1,(iV 0)] w fun u2 w next2=>
 rN 39 3 a0 w fun x8=>
 rC (u2 5) x8 w fun x9=>
 BR x9
 (rX 39 a0 (u2 5) w fun x14=>
 rL 23 x14 w fun x15=>
 cL 15 [x15,(u2 1)] w fun x17 w=>
 rB .lss 3 T0 U0 x17 (iV 0) w fun x19=>
 BR x19
 (R (iV (-1)) w)
 (rA (u2 5) (iV 1) w fun x11=>
 next2 [x17,x11] w))
 (R (u2 1) w)
theorem zfu {w:World} {k:Int} (hk:k≤4611686018427387904) :
   CALL Tryz.prog 92 [.int .i64 k] w fun r w'=>Ext w w'∧∃ s,r=.string s∧s.size≤maxLen:=by
 refine F92_call ?_
 unfold F92
 refine zcU ?_
 refine br (fun h=>?_) (fun h=>?_)
 · exact ⟨Ext.refl w,_,rfl,by rw [zao];decide⟩
 have hk19:k<10^(19-0):=by
   have:(10:Int)^(19-0)=10000000000000000000:=by decide
   omega
 refine zas 19 (fun j us w'=>∃ (q:Int) (s:ByteArray),us=[.int .i64 q,.string s]∧Ext w w'∧0≤q∧q<10^(19-j)∧s.size=j) 0 (by omega) ⟨k,_,rfl,Ext.refl w,by omega,hk19,rfl⟩ ?_
 rintro j m u w2 hkm ⟨q,s,hu,hx2,hq0,hq1,hs⟩
 obtain ⟨hu1,hu2⟩:=zb9 hu
 rw [hu1,hu2]
 have hj:0<q→j<19:=fun h=>by
   rcases Nat.lt_or_ge j 19 with h' | h'
   · exact h'
   rw [show 19-j=0 by omega] at hq1;simp at hq1;omega
 have hb:q<10000000000000000000:=by
   have h2:(10:Int)^(19-j)≤10^19:=by
     have h3:(10:Nat)^(19-j)≤10^19:=Nat.pow_le_pow_right (by omega) (by omega)
     have h4:=Int.ofNat_le.2 h3
     simpa using h4
   have h3:(10:Int)^19=10000000000000000000:=by decide
   omega
 refine zdI ?_
 refine br (fun h1=>?_) (fun h1=>?_)
 · have hj:=hj h1
   refine zqJ (by omega) ?_
   have hm:q.tmod 10=q%10:=Int.tmod_eq_emod_of_nonneg hq0
   rw [hm]
   refine zb7 (by unfold I64;omega) ?_
   obtain ⟨n,hn⟩:∃ n:Nat,48+q%10=(n:Int):=⟨(48+q%10).toNat,by omega⟩
   rw [hn]
   refine zqr (by kernel_rfl) u5 (by omega) ?_
   refine zme (α:=UInt8) zrA ty5 z5 (by decide) (zqq (lo:=w2.heap.size) (hi:=w2.heap.size)) (by omega) fun v3 w3 hx3 o3=>?_
   refine zk8 zrA u5 u9 o3.is (Ext.refl w3) ?_
   have hone:ByteArray.size ⟨[UInt8.ofNat n].toArray⟩=1:=rfl
   refine zog (by omega) ?_
   have hd:q.tdiv 10=q / 10:=Int.tdiv_eq_ediv_of_nonneg hq0
   refine zrc (by omega) (by rw [hd];unfold I64;omega) ?_
   rw [hd]
   refine ⟨m-1,by omega,j+1,by omega,q / 10,_,rfl,hx2.trans hx3,by omega,?_,by rw [ByteArray.size_append];omega⟩
   rw [show 19-j=(19-(j+1))+1 by omega,Int.pow_succ] at hq1
   omega
 refine zog (by have:(ByteArray.mk #[109]).size=1:=rfl;omega) ?_
 have hj19:j≤19:=by omega
 exact ⟨hx2,_,rfl,by rw [zao,ByteArray.size_append];have:(ByteArray.mk #[109]).size=1:=rfl;omega⟩
theorem zdF {w:World} {F:List Nat} {v:Value} {l:List ByteArray} {k:Int} (h:Mine F w v l) (hn:l.length≤1048576) (hk0:0≤k) (hk1:k≤1152921504606846976) :
   CALL Tryz.prog 49 [v,.int .i64 k] w fun r w'=>r=.int .i64 (k+l.length)∧Chg F w w'∧∃ F',∃ l':List ByteArray,Mine F' w' v l'∧(∀ b∈F',b∈F)∧l'.length=l.length:=by
 refine F49_call ?_
 unfold F49
 refine zas l.length (fun i us w'=>us=[.int .i64 (k+i),.int .i64 (i:Int)]∧Chg F w w'∧∃ F',∃ cur:List ByteArray,Mine F' w' v cur∧(∀ b∈F',b∈F)∧cur.length=l.length) 0 (Nat.zero_le _) ⟨by simp,Chg.refl _ _,F,l,h,fun _ h=>h,rfl⟩ ?_
 rintro i m u w2 hkm ⟨hu,hc2,F',cur,hm2,hF',hlen⟩
 obtain ⟨hu1,hu2⟩:=zb9 hu
 rw [hu1,hu2]
 refine zaf u22 hm2.is ?_
 rw [hlen]
 refine zah ?_
 refine br (fun hlt=>?_) (fun hge=>?_)
 · have hi:i<l.length:=by omega
   refine (zfu (by omega)).mono ?_
   rintro _ w3 ⟨hx3,s,rfl,hs⟩
   refine zeX u22 ty9 (hm2.ext hx3) (by omega) fun b o G hL=>?_
   refine zeI ty9 hL (ziK hs) fun w4 F4 hc4 hm4 hF4=>?_
   refine zb7 (by unfold I64;omega) ?_
   refine zag (by omega) ?_
   exact ⟨m-1,by omega,i+1,by omega,by simp [Int.add_assoc],(hc2.trans (hx3.chg F)).sub hc4 hF',F4,_,hm4,fun b hb=>hF' b (hF4 b hb),by simp [hlen]⟩
 have:i=l.length:=by omega
 subst this
 exact ⟨rfl,hc2,F',cur,hm2,hF',hlen⟩
def zj9 (l:List DTerm):Prop:=∀ {w:World} {F:List Nat} {v:Value} {k:Int},Mine F w v l→wTs l≤1048576→0≤k→k+3*wTs l≤1152921504606846976 →
 CALL Tryz.prog 93 [v,.int .i64 k] w fun r w'=>∃ n:Int,r=.int .i64 n∧k≤n∧n≤k+3*wTs l∧Chg F w w'∧∃ F',∃ l':List DTerm,Mine F' w' v l'∧(∀ b∈F',b∈F)∧l'.length=l.length
theorem zk9 {l:List DTerm} (ih:∀ t∈l,zj9 t.kids):zj9 l:=by
 intro w F v k h hn hk0 hk1
 rw [znc] at hn hk1 ⊢
 refine F93_call ?_
 unfold F93
 refine zas l.length (fun i us w'=>∃ q:Int,us=[.int .i64 q,.int .i64 (i:Int)]∧Chg F w w'∧k≤q∧q≤k+3*(i+sm wT (l.take i):Nat)∧∃ F',∃ cur:List DTerm,Mine F' w' v cur∧(∀ b∈F',b∈F)∧RestL i cur l) 0 (Nat.zero_le _) ⟨k,rfl,Chg.refl _ _,by omega,by simp [sm],F,l,h,fun _ h=>h,rfl,fun _ _=>rfl⟩ ?_
 rintro i m u w2 hkm ⟨q,hu,hc2,hq0,hq1,F',cur,hm2,hF',hr⟩
 obtain ⟨hu1,hu2⟩:=zb9 hu
 rw [hu1,hu2]
 have hlen:=hr.1
 refine zaf zer hm2.is ?_
 rw [hlen]
 refine zah ?_
 refine br (fun hlt=>?_) (fun hge=>?_)
 · have hi:i<l.length:=by omega
   have hsum:=zg4 wT hi
   have hle:sm wT (l.take (i+1))≤sm wT l:=by
     conv=>rhs;rw [←List.take_append_drop (i+1) l]
     unfold sm
     rw [List.map_append,List.sum_append]
     omega
   have hwi:=zoJ l[i]
   have hK:=hr.keepF (f:=DTerm.kids) hi
   refine ze9 (α:=DTerm) (β:=Int) (sel:=DTerm.kind) (g:=fun a y=>.mk y a.num a.name a.kids) zer zbf zcn ty3 (fun h=>zeA h) hm2 (by omega) (za7 (by unfold I64;omega)) fun w3 F3 hc3 hm3 hF3=>?_
   replace hK:=hK.set (x:=.mk q cur[i].num cur[i].name cur[i].kids) fun _=>rfl
   generalize hcur3:cur.set i (.mk q cur[i].num cur[i].name cur[i].kids)=cur3 at hm3 hK
   clear hcur3
   refine zb7 (by unfold I64;omega) ?_
   refine ze9 (α:=DTerm) (β:=Int) (sel:=DTerm.num) (g:=fun a y=>.mk a.kind y a.name a.kids) zer zbf zca ty3 (fun h=>zeB h) hm3 hK.2.1 (za7 (by unfold I64;omega)) fun w4 F4 hc4 hm4 hF4=>?_
   replace hK:=hK.set (x:=.mk (cur3[i]'hK.2.1).kind (q+1) (cur3[i]'hK.2.1).name (cur3[i]'hK.2.1).kids) fun _=>rfl
   generalize hcur4:cur3.set i _=cur4 at hm4 hK
   clear hcur4
   refine zb7 (by unfold I64;omega) ?_
   refine (zfu (by omega)).mono ?_
   rintro _ w5 ⟨hx5,s,rfl,hs⟩
   refine ze9 (α:=DTerm) (β:=ByteArray) (sel:=DTerm.name) (g:=fun a y=>.mk a.kind a.num y a.kids) zer zbf zbW ty9 (fun h=>zeC h) (hm4.ext hx5) hK.2.1 (ziK hs) fun w6 F6 hc6 hm6 hF6=>?_
   replace hK:=hK.set (x:=.mk (cur4[i]'hK.2.1).kind (cur4[i]'hK.2.1).num s (cur4[i]'hK.2.1).kids) fun _=>rfl
   generalize hcur6:cur4.set i _=cur6 at hm6 hK
   clear hcur6
   refine zb7 (by unfold I64;omega) ?_
   refine zeX zer zbf hm6 hK.2.1 fun b o G hL=>?_
   refine zaa za9 ?_
   obtain ⟨G1,hL1⟩:=zeD hL
   refine zhn zcr hL1 fun u7 hM7 hG7 hb7=>?_
   obtain ⟨hR,hi6,_,hkids⟩:=hK
   rw [hkids] at hM7
   have hF26:∀ c∈F6,c∈F':=fun c hc=>hF3 c (hF4 c (hF6 c hc))
   refine (ih l[i] (List.getElem_mem hi) hM7 (by omega) (by omega) (by omega)).mono ?_
   rintro _ w8 ⟨n,rfl,hn0,hn1,hc8,F8,l8,hm8,hF8,hl8⟩
   obtain ⟨F9,hm9,hF9⟩:=hb7 w8 F8 l8 hc8 hm8 fun c hc=>.inl (hF8 c hc)
   refine zag (by omega) ?_
   have hc26:Chg F' w2 w6:=((hc3.sub hc4 hF3).trans (hx5.chg F')).sub hc6 fun c hc=>hF3 c (hF4 c hc)
   have hc28:Chg F' w2 w8:=hc26.sub hc8 fun c hc=>hF26 c (hG7 c hc)
   refine ⟨m-1,by omega,i+1,by omega,n,rfl,hc2.sub hc28 hF',by omega,by omega,F9,_,hm9,fun c hc=>?_,hR.set1 _⟩
   rcases hF9 c hc with h | h
   · exact hF' c (hF26 c h)
   exact hF' c (hF26 c (hG7 c (hF8 c h)))
 have:i=l.length:=by omega
 subst this
 rw [List.take_length] at hq1
 exact ⟨q,rfl,hq0,by omega,hc2,F',cur,hm2,hF',hlen⟩
theorem zoh (t:DTerm):zj9 t.kids:=DTerm.ind (p:=fun t=>zj9 t.kids) (fun t ih=>zk9 ih) t
theorem zka (l:List DTerm):zj9 l:=zoh (.mk 0 0 ByteArray.empty l)
theorem zla {w:World} {F:List Nat} {v:Value} {l:List DIns} {k:Int} (h:Mine F w v l) (hn:zpu l≤1048576) (hk0:0≤k) (hk1:k≤1000000000000000000) :
   CALL Tryz.prog 50 [v,.int .i64 k] w fun r w'=>∃ n:Int,r=.int .i64 n∧k≤n∧n≤k+6*zpu l∧Chg F w w'∧∃ F',∃ l':List DIns,Mine F' w' v l'∧(∀ b∈F',b∈F)∧l'.length=l.length:=by
 unfold zpu at hn ⊢
 refine F50_call ?_
 unfold F50
 refine zas l.length (fun i us w'=>∃ q:Int,us=[.int .i64 q,.int .i64 (i:Int)]∧Chg F w w'∧k≤q∧q≤k+6*(i+sm (fun i=>wT i.term) (l.take i):Nat)∧∃ F',∃ cur:List DIns,Mine F' w' v cur∧(∀ b∈F',b∈F)∧RestL i cur l) 0 (Nat.zero_le _) ⟨k,rfl,Chg.refl _ _,by omega,by simp [sm],F,l,h,fun _ h=>h,rfl,fun _ _=>rfl⟩ ?_
 rintro i m u w2 hkm ⟨q,hu,hc2,hq0,hq1,F',cur,hm2,hF',hr⟩
 obtain ⟨hu1,hu2⟩:=zb9 hu
 rw [hu1,hu2]
 have hlen:=hr.1
 refine zaf u30 hm2.is ?_
 rw [hlen]
 refine zah ?_
 refine br (fun hlt=>?_) (fun hge=>?_)
 · have hi:i<l.length:=by omega
   have hsum:=zg4 (fun i:DIns=>wT i.term) hi
   have hle:sm (fun i:DIns=>wT i.term) (l.take (i+1))≤sm (fun i:DIns=>wT i.term) l:=by
     conv=>rhs;rw [←List.take_append_drop (i+1) l]
     unfold sm
     rw [List.map_append,List.sum_append]
     omega
   have hwi:=zoJ l[i].term
   have hK:=hr.keepF (f:=fun a:DIns=>a.term.kids) hi
   refine ze9 (α:=DIns) (β:=Int) (sel:=DIns.op) (g:=fun a y=>⟨y,a.arg,a.term,a.to⟩) u30 zaS zaH ty3 (fun h=>zg8 h) hm2 hK.2.1 (za7 (by unfold I64;omega)) fun w3 F3 hc3 hm3 hF3=>?_
   replace hK:=hK.set (x:=⟨q,(cur[i]'hK.2.1).arg,(cur[i]'hK.2.1).term,(cur[i]'hK.2.1).to⟩) fun _=>rfl
   generalize hcur3:cur.set i _=cur3 at hm3 hK
   clear hcur3
   refine zb7 (by unfold I64;omega) ?_
   refine ze9 (α:=DIns) (β:=Int) (sel:=DIns.arg) (g:=fun a y=>⟨a.op,y,a.term,a.to⟩) u30 zaS zaP ty3 (fun h=>zg9 h) hm3 hK.2.1 (za7 (by unfold I64;omega)) fun w4 F4 hc4 hm4 hF4=>?_
   replace hK:=hK.set (x:=⟨(cur3[i]'hK.2.1).op,q+1,(cur3[i]'hK.2.1).term,(cur3[i]'hK.2.1).to⟩) fun _=>rfl
   generalize hcur4:cur3.set i _=cur4 at hm4 hK
   clear hcur4
   refine zb7 (by unfold I64;omega) ?_
   refine zkz (α:=DIns) (β:=Int) (sel:=fun a=>a.term.kind) (g:=fun a y=>⟨a.op,a.arg,.mk y a.term.num a.term.name a.term.kids,a.to⟩) u30 zaS zbK zcn ty3 (fun h=>by obtain ⟨G1,h1⟩:=zdh h;exact zeA h1) hm4 hK.2.1 (za7 (by unfold I64;omega)) fun w5 F5 hc5 hm5 hF5=>?_
   replace hK:=hK.set (x:=⟨(cur4[i]'hK.2.1).op,(cur4[i]'hK.2.1).arg,.mk (q+1+1) (cur4[i]'hK.2.1).term.num (cur4[i]'hK.2.1).term.name (cur4[i]'hK.2.1).term.kids,(cur4[i]'hK.2.1).to⟩) fun _=>rfl
   generalize hcur5:cur4.set i _=cur5 at hm5 hK
   clear hcur5
   refine zb7 (by unfold I64;omega) ?_
   refine zkz (α:=DIns) (β:=Int) (sel:=fun a=>a.term.num) (g:=fun a y=>⟨a.op,a.arg,.mk a.term.kind y a.term.name a.term.kids,a.to⟩) u30 zaS zbK zca ty3 (fun h=>by obtain ⟨G1,h1⟩:=zdh h;exact zeB h1) hm5 hK.2.1 (za7 (by unfold I64;omega)) fun w6 F6 hc6 hm6 hF6=>?_
   replace hK:=hK.set (x:=⟨(cur5[i]'hK.2.1).op,(cur5[i]'hK.2.1).arg,.mk (cur5[i]'hK.2.1).term.kind (q+1+1+1) (cur5[i]'hK.2.1).term.name (cur5[i]'hK.2.1).term.kids,(cur5[i]'hK.2.1).to⟩) fun _=>rfl
   generalize hcur6:cur5.set i _=cur6 at hm6 hK
   clear hcur6
   refine zb7 (by unfold I64;omega) ?_
   refine (zfu (by omega)).mono ?_
   rintro _ w7 ⟨hx7,s,rfl,hs⟩
   refine zkz (α:=DIns) (β:=ByteArray) (sel:=fun a=>a.term.name) (g:=fun a y=>⟨a.op,a.arg,.mk a.term.kind a.term.num y a.term.kids,a.to⟩) u30 zaS zbK zbW ty9 (fun h=>by obtain ⟨G1,h1⟩:=zdh h;exact zeC h1) (hm6.ext hx7) hK.2.1 (ziK hs) fun w8 F8 hc8 hm8 hF8=>?_
   replace hK:=hK.set (x:=⟨(cur6[i]'hK.2.1).op,(cur6[i]'hK.2.1).arg,.mk (cur6[i]'hK.2.1).term.kind (cur6[i]'hK.2.1).term.num s (cur6[i]'hK.2.1).term.kids,(cur6[i]'hK.2.1).to⟩) fun _=>rfl
   generalize hcur8:cur6.set i _=cur8 at hm8 hK
   clear hcur8
   refine zb7 (by unfold I64;omega) ?_
   refine zeX u30 zaS hm8 hK.2.1 fun b o G hL=>?_
   refine zaa zbK ?_
   refine zaa za9 ?_
   obtain ⟨G0,hL0⟩:=zdh hL
   obtain ⟨G1,hL1⟩:=zeD hL0
   refine zhn zcr hL1 fun u9 hM9 hG9 hb9=>?_
   obtain ⟨hR,hi8,_,hkids⟩:=hK
   have hkids':(cur8[i]'hi8).term.kids=l[i].term.kids:=hkids
   rw [hkids'] at hM9
   have hF28:∀ c∈F8,c∈F':=fun c hc=>hF3 c (hF4 c (hF5 c (hF6 c (hF8 c hc))))
   refine (zka _ hM9 (by omega) (by omega) (by omega)).mono ?_
   rintro _ w10 ⟨n,rfl,hn0,hn1,hc10,F10,l10,hm10,hF10,hl10⟩
   obtain ⟨F11,hm11,hF11⟩:=hb9 w10 F10 l10 hc10 hm10 fun c hc=>.inl (hF10 c hc)
   have hF211:∀ c∈F11,c∈F':=fun c hc=>by
     rcases hF11 c hc with h | h
     · exact hF28 c h
     exact hF28 c (hG9 c (hF10 c h))
   replace hR:=hR.set1 (⟨(cur8[i]'hi8).op,(cur8[i]'hi8).arg,.mk (cur8[i]'hi8).term.kind (cur8[i]'hi8).term.num (cur8[i]'hi8).term.name l10,(cur8[i]'hi8).to⟩:DIns)
   have hi11:i<(cur8.set i (⟨(cur8[i]'hi8).op,(cur8[i]'hi8).arg,.mk (cur8[i]'hi8).term.kind (cur8[i]'hi8).term.num (cur8[i]'hi8).term.name l10,(cur8[i]'hi8).to⟩:DIns)).length:=by simpa using hi8
   generalize hcur11:cur8.set i _=cur11 at hm11 hR hi11
   clear hcur11
   have hc28:Chg F' w2 w8:=(((((hc3.sub hc4 hF3).sub hc5 fun c hc=>hF3 c (hF4 c hc)).sub hc6 fun c hc=>hF3 c (hF4 c (hF5 c hc)))).trans (hx7.chg F')).sub hc8 fun c hc=>hF3 c (hF4 c (hF5 c (hF6 c hc)))
   have hc210:Chg F' w2 w10:=hc28.sub hc10 fun c hc=>hF28 c (hG9 c hc)
   refine ze9 (α:=DIns) (β:=Int) (sel:=DIns.to) (g:=fun a y=>⟨a.op,a.arg,a.term,y⟩) u30 zaS zbX ty3 (fun h=>zha h) hm11 hi11 (za7 (by unfold I64;omega)) fun w12 F12 hc12 hm12 hF12=>?_
   refine zb7 (by unfold I64;omega) ?_
   refine zag (by omega) ?_
   exact ⟨m-1,by omega,i+1,by omega,n+1,rfl,hc2.sub (hc210.sub hc12 hF211) hF',by omega,by omega,F12,_,hm12,fun c hc=>hF' c (hF211 c (hF12 c hc)),hR.set1 _⟩
 have:i=l.length:=by omega
 subst this
 rw [List.take_length] at hq1
 exact ⟨q,rfl,hq0,by omega,hc2,F',cur,hm2,hF',hlen⟩
theorem zoi {w:World} {F:List Nat} {v:Value} {c:DCode} (h:Mine F w v c):∃ (a0 a1 a2 a3 a4:Value) (F0 F1 F2 F3 F4:List Nat),v=.agg #[a0,a1,a2,a3,a4]∧F=F0++(F1++(F2++(F3++F4)))∧F.Nodup ∧
   Mine F0 w a0 c.globals∧Mine F1 w a1 c.locks∧Mine F2 w a2 c.procs∧Mine F3 w a3 c.entry∧Mine F4 w a4 c.ins:=by
 obtain ⟨⟨cs,hr,rfl⟩,hn,hw⟩:=h
 obtain ⟨F0,c0,F1,c1,F2,c2,F3,c3,F4,c4,rfl,rfl,h0,h1,h2,h3,h4⟩:=zhb hr
 have n0:=zcI hn
 have n1:=zcI n0.2.1
 have n2:=zcI n1.2.1
 have n3:=zcI n2.2.1
 obtain ⟨a0,rfl,m0⟩:=zdj h0 n0.1 (hw.sub (by simp +contextual))
 obtain ⟨a1,rfl,m1⟩:=zdj h1 n1.1 (hw.sub (by simp +contextual))
 obtain ⟨a2,rfl,m2⟩:=zdj h2 n2.1 (hw.sub (by simp +contextual))
 obtain ⟨a3,rfl,m3⟩:=zdj h3 n3.1 (hw.sub (by simp +contextual))
 obtain ⟨a4,rfl,m4⟩:=zdj h4 n3.2.1 (hw.sub (by simp +contextual))
 exact ⟨a0,a1,a2,a3,a4,F0,F1,F2,F3,F4,rfl,rfl,hn,m0,m1,m2,m3,m4⟩
theorem zlb {w:World} {lo hi:Nat} {v:Value} {c:DCode} {k:Int} (h:OwnI lo hi w v c) (hn:ziE c≤1048576) (hk0:0≤k) (hk1:k≤100000000000000000) :
   CALL Tryz.prog 13 [v,.int .i64 k] w fun r w'=>∃ n:Int,r=.int .i64 n∧(k≤n∧n≤k+8388608)∧ChgI lo hi w w':=by
 obtain ⟨F,hM,hF⟩:=h
 obtain ⟨a0,a1,a2,a3,a4,F0,F1,F2,F3,F4,rfl,rfl,hnd,m0,m1,m2,m3,m4⟩:=zoi hM
 unfold ziE zp1 at hn
 have d0:=zcI hnd
 have d1:=zcI d0.2.1
 have d2:=zcI d1.2.1
 have d3:=zcI d2.2.1
 refine F13_call ?_
 unfold F13
 refine zky fun w1 hx1 hB1=>?_
 have hg:∀ b∈F0++(F1++(F2++(F3++F4))),b≠w.heap.size:=fun b hb e=>by have:=hM.lt b hb;omega
 refine zaa zcG ?_
 refine zaC zbN hB1 rfl ?_
 refine (zdF (m0.ext hx1) (by omega) (by omega) (by omega)).mono ?_
 rintro _ w2 ⟨rfl,hc2,_⟩
 have hB2:=hB1.chg hc2 fun hm=>hg _ (by simp [hm]) rfl
 have m12:=(m1.ext hx1).chgD hc2 fun b hb h0=>d0.2.2 b h0 (by simp [hb])
 have m22:=(m2.ext hx1).chgD hc2 fun b hb h0=>d0.2.2 b h0 (by simp [hb])
 have m32:=(m3.ext hx1).chgD hc2 fun b hb h0=>d0.2.2 b h0 (by simp [hb])
 have m42:=(m4.ext hx1).chgD hc2 fun b hb h0=>d0.2.2 b h0 (by simp [hb])
 refine zaa zem ?_
 refine zaC zbN hB2 rfl ?_
 refine (zdF m12 (by omega) (by omega) (by omega)).mono ?_
 rintro _ w3 ⟨rfl,hc3,_⟩
 have hB3:=hB2.chg hc3 fun hm=>hg _ (by simp [hm]) rfl
 have m23:=m22.chgD hc3 fun b hb h0=>d1.2.2 b h0 (by simp [hb])
 have m33:=m32.chgD hc3 fun b hb h0=>d1.2.2 b h0 (by simp [hb])
 have m43:=m42.chgD hc3 fun b hb h0=>d1.2.2 b h0 (by simp [hb])
 refine zaa za1 ?_
 refine zaC zbN hB3 rfl ?_
 refine (zdF m23 (by omega) (by omega) (by omega)).mono ?_
 rintro _ w4 ⟨rfl,hc4,_⟩
 have hB4:=hB3.chg hc4 fun hm=>hg _ (by simp [hm]) rfl
 have m34:=m33.chgD hc4 fun b hb h0=>d2.2.2 b h0 (by simp [hb])
 have m44:=m43.chgD hc4 fun b hb h0=>d2.2.2 b h0 (by simp [hb])
 refine zaa zaT ?_
 refine zaC zb6 hB4 rfl ?_
 refine (zkn m34 (by omega) (by omega) (by omega)).mono ?_
 rintro _ w5 ⟨rfl,hc5,_⟩
 have hB5:=hB4.chg hc5 fun hm=>hg _ (by simp [hm]) rfl
 have m45:=m44.chgD hc5 fun b hb h0=>d3.2.2 b h0 hb
 refine zaa zaD ?_
 refine zaC zco hB5 rfl ?_
 refine (zla m45 (by omega) (by omega) (by omega)).mono ?_
 rintro _ w6 ⟨n,rfl,hn0,hn1,hc6,_⟩
 refine ⟨n,rfl,by omega,?_⟩
 have hc:Chg (F0++(F1++(F2++(F3++F4)))) w w6:=(((((hx1.chg _).sub hc2 (by simp +contextual)).sub hc3 (by simp +contextual)).sub hc4 (by simp +contextual)).sub hc5 (by simp +contextual)).sub hc6 (by simp +contextual)
 exact hc.toI hF
def F24 (a0 a1:Value) (w:World) (R:VW):Prop:=
 LOOPI [1,5] [a1,(iV 0)] w fun u2 w next2=>
 rN 43 3 a0 w fun x8=>
 rC (u2 5) x8 w fun x9=>
 BR x9
 (rX 43 a0 (u2 5) w fun x15=>
 rF 79 x15 0 w fun x16=>
 oS 3 x16 (u2 1) w fun w=>
 rA (u2 1) (iV 1) w fun x18=>
 rX 43 a0 (u2 5) w fun x22=>
 rF 79 x22 1 w fun x23=>
 oS 3 x23 x18 w fun w=>
 rA x18 (iV 1) w fun x25=>
 rX 43 a0 (u2 5) w fun x29=>
 rF 79 x29 2 w fun x30=>
 oS 3 x30 x25 w fun w=>
 rA x25 (iV 1) w fun x32=>
 rA (u2 5) (iV 1) w fun x11=>
 next2 [x32,x11] w)
 (R (u2 1) w)
def cfg24:Cfg:=⟨extL,[],[(2,8589934562,[1,5])],[],[],[],[]⟩
theorem F24_call {a0 a1:Value} {w:World} {R:VW} (h:F24 a0 a1 w R):cL 24 [a0,a1] w R:=co (g:=cfg24) Tryz.func24 (by kernel_rfl) (by kernel_rfl) (by kernel_rfl) h
def F25 (a0 a1:Value) (w:World) (R:VW):Prop:=
 LOOPI [1,5] [a1,(iV 0)] w fun u2 w next2=>
 rN 43 3 a0 w fun x8=>
 rC (u2 5) x8 w fun x9=>
 BR x9
 (rX 43 a0 (u2 5) w fun x14=>
 rF 79 x14 0 w fun x15=>
 rL 3 x15 w fun x16=>
 rB .neq 3 T0 T0 x16 (u2 1) w fun x18=>
 BR x18
 (R (iV (-1)) w)
 (rA (u2 1) (iV 1) w fun x20=>
 rX 43 a0 (u2 5) w fun x23=>
 rF 79 x23 1 w fun x24=>
 rL 3 x24 w fun x25=>
 rB .neq 3 T0 T0 x25 x20 w fun x27=>
 BR x27
 (R (iV (-1)) w)
 (rA x20 (iV 1) w fun x29=>
 rX 43 a0 (u2 5) w fun x32=>
 rF 79 x32 2 w fun x33=>
 rL 3 x33 w fun x34=>
 rB .neq 3 T0 T0 x34 x29 w fun x36=>
 BR x36
 (R (iV (-1)) w)
 (rA x29 (iV 1) w fun x38=>
 rA (u2 5) (iV 1) w fun x11=>
 next2 [x38,x11] w))))
 (R (u2 1) w)
def cfg25:Cfg:=⟨extL,[],[(2,549755813874,[1,5])],[],[],[],[]⟩
theorem F25_call {a0 a1:Value} {w:World} {R:VW} (h:F25 a0 a1 w R):cL 25 [a0,a1] w R:=co (g:=cfg25) Tryz.func25 (by kernel_rfl) (by kernel_rfl) (by kernel_rfl) h
def zja (k:Int):DRace:=⟨k,k+1,k+1+1⟩
def zb5 (k:Int) (n:Nat):List DRace:=(List.range n).map fun i:Nat=>zja (k+3*(i:Int))
theorem zbZ (k:Int) (n:Nat):(zb5 k n).length=n:=by simp [zb5]
theorem zkb (k:Int) (n:Nat):zb5 k (n+1)=zb5 k n++[zja (k+3*(n:Int))]:=by simp [zb5,List.range_succ]
theorem zlc (k:Int) (n:Nat) {i:Nat} (hi:i<n):(zb5 k n)[i]'(by rw [zbZ];exact hi)=zja (k+3*(i:Int)):=by simp [zb5]
theorem zkc {w:World} {F:List Nat} {v:Value} {l:List DRace} {k:Int} (h:Mine F w v l) (hn:l.length≤1073741824) (hk0:0≤k) (hk1:k≤1000000000000000000) :
   CALL Tryz.prog 24 [v,.int .i64 k] w fun r w'=>r=.int .i64 (k+3*(l.length:Int))∧Chg F w w'∧OwnS F w' v (zb5 k l.length):=by
 refine F24_call ?_
 unfold F24
 refine zas l.length (fun i us w'=>us=[.int .i64 (k+3*(i:Int)),.int .i64 (i:Int)]∧Chg F w w'∧OwnS F w' v (zb5 k i++l.drop i)) 0 (Nat.zero_le _) ⟨by simp,Chg.refl _ _,by simpa [zb5] using h.toS⟩ ?_
 rintro i m u w0 hkm ⟨hu,hc,F',hm0,hF'⟩
 obtain ⟨hu1,hu2⟩:=zb9 hu
 rw [hu1,hu2]
 have hlen:(zb5 k i++l.drop i).length=l.length:=by rw [List.length_append,zbZ,List.length_drop];omega
 refine zaf u43 hm0.is ?_
 rw [hlen]
 refine zah ?_
 refine br (fun hlt=>?_) (fun hge=>?_)
 · have hi:i<l.length:=by omega
   have hset:(zb5 k i++l.drop i).set i (zja (k+3*(i:Int)))=zb5 k (i+1)++l.drop (i+1):=by
     rw [List.drop_eq_getElem_cons hi,List.set_append_right _ _ (by rw [zbZ];omega),zbZ,Nat.sub_self,List.set_cons_zero,zkb]
     simp only [List.append_assoc,List.cons_append,List.nil_append]
   generalize hL:zb5 k i++l.drop i=L at hm0 hlen hset
   clear hL
   obtain ⟨q,hq⟩:∃ q,q=k+3*(i:Int):=⟨_,rfl⟩
   rw [←hq] at hset ⊢
   refine ze9 (α:=DRace) (β:=Int) (sel:=DRace.g) (g:=fun a y=>⟨y,a.a,a.b⟩) u43 zcf zen ty3 (fun h=>zjm h) hm0 (by first | omega | (simp only [List.length_set];omega)) (za7 (by unfold I64;omega)) fun w1 F1 hc1 hm1 hF1=>?_
   refine zb7 (by unfold I64;omega) ?_
   refine ze9 (α:=DRace) (β:=Int) (sel:=DRace.a) (g:=fun a y=>⟨a.g,y,a.b⟩) u43 zcf ze7 ty3 (fun h=>zjn h) hm1 (by first | omega | (simp only [List.length_set];omega)) (za7 (by unfold I64;omega)) fun w2 F2 hc2 hm2 hF2=>?_
   refine zb7 (by unfold I64;omega) ?_
   refine ze9 (α:=DRace) (β:=Int) (sel:=DRace.b) (g:=fun a y=>⟨a.g,a.a,y⟩) u43 zcf zgs ty3 (fun h=>zjo h) hm2 (by first | omega | (simp only [List.length_set];omega)) (za7 (by unfold I64;omega)) fun w3 F3 hc3 hm3 hF3=>?_
   refine zb7 (by unfold I64;omega) ?_
   refine zag (by omega) ?_
   simp only [List.set_set,List.getElem_set_self] at hm3
   have hcc:Chg F' w0 w3:=((hc1).sub hc2 fun c hc=>hF1 c hc).sub hc3 fun c hc=>hF1 c (hF2 c hc)
   refine ⟨m-1,by omega,i+1,by omega,by rw [hq];simp only [List.cons.injEq,Value.int.injEq,true_and,and_true,Int.natCast_add,Int.natCast_one];omega,hc.sub hcc hF',F3,?_,fun c hc=>hF' c (hF1 c (hF2 c (hF3 c hc)))⟩
   rw [←hset];exact hm3
 have:i=l.length:=by omega
 subst this
 rw [List.drop_length,List.append_nil] at hm0
 exact ⟨rfl,hc,F',hm0,hF'⟩
theorem zld {w:World} {lo hi:Nat} {v:Value} {l:List DRace} {k:Int} (h:OwnI lo hi w v l) (hn:l.length≤1073741824) (hk0:0≤k) (hk1:k≤1000000000000000000) :
   CALL Tryz.prog 24 [v,.int .i64 k] w fun r w'=>r=.int .i64 (k+3*(l.length:Int))∧ChgI lo hi w w'∧OwnI lo hi w' v (zb5 k l.length):=by
 obtain ⟨F,hM,hF⟩:=h
 exact (zkc hM hn hk0 hk1).mono fun r w' ⟨h1,h2,h3⟩=>⟨h1,h2.toI hF,h3.toI hF⟩
theorem zgA {w w0:World} {v:Value} {n:Nat} {k:Int} (h:Is w0 v (zb5 k n)) (hx:Ext w0 w) (hn:n≤1073741824) (hk0:0≤k) (hk1:k≤1000000000000000000) :
   CALL Tryz.prog 25 [v,.int .i64 k] w fun r w'=>Ext w w'∧r=.int .i64 (k+3*(n:Int)):=by
 refine F25_call ?_
 unfold F25
 refine zas n (fun i us w'=>us=[.int .i64 (k+3*(i:Int)),.int .i64 (i:Int)]∧Ext w w') 0 (Nat.zero_le _) ⟨by simp,Ext.refl w⟩ ?_
 rintro i m u w2 hkm ⟨hu,hx2⟩
 obtain ⟨hu1,hu2⟩:=zb9 hu
 rw [hu1,hu2]
 refine zaf u43 h ?_
 rw [zbZ]
 refine zah ?_
 refine br (fun hlt=>?_) (fun hge=>?_)
 · have hi:i<n:=by omega
   have hg:=zlc k n hi
   obtain ⟨q,hq⟩:∃ q,q=k+3*(i:Int):=⟨_,rfl⟩
   rw [←hq] at hg ⊢
   refine zad u43 zcf h (by rw [zbZ];exact hi) fun b0 o0 hA0=>?_
   rw [hg] at hA0
   refine zaa zen ?_
   refine zac ty3 (zb1 hA0) (hx.trans hx2) fun _=>?_
   refine zaz ?_
   refine br (fun h=>absurd rfl h) (fun _=>?_)
   refine zb7 (by unfold I64;omega) ?_
   refine zad u43 zcf h (by rw [zbZ];exact hi) fun b1 o1 hA1=>?_
   rw [hg] at hA1
   refine zaa ze7 ?_
   refine zac ty3 (zct hA1) (hx.trans hx2) fun _=>?_
   refine zaz ?_
   refine br (fun h=>absurd rfl h) (fun _=>?_)
   refine zb7 (by unfold I64;omega) ?_
   refine zad u43 zcf h (by rw [zbZ];exact hi) fun b2 o2 hA2=>?_
   rw [hg] at hA2
   refine zaa zgs ?_
   refine zac ty3 (zdK hA2) (hx.trans hx2) fun _=>?_
   refine zaz ?_
   refine br (fun h=>absurd rfl h) (fun _=>?_)
   refine zb7 (by unfold I64;omega) ?_
   refine zag (by omega) ?_
   exact ⟨m-1,by omega,i+1,by omega,by rw [hq];simp only [List.cons.injEq,Value.int.injEq,true_and,and_true,Int.natCast_add,Int.natCast_one];omega,hx2⟩
 have:i=n:=by omega
 subst this
 exact ⟨hx2,rfl⟩
theorem zoj {c:DCode} {n m:Int} (hm:m≤1048576) (h:-1≤n∧n≤m∧(0≤n→n+ziE c≤m)) (hc:¬n<0):ziE c≤1048576:=by
 have:=h.2.2 (by omega);omega
def F5 (a0 a1:Value) (w:World) (R:VW):Prop:=
 oP (Instr.box 26 a0) w fun x2 w=>
 rL 26 x2 w fun x13=>
 cL 7 [x13,(iV 1048576)] w fun x15 w=>
 rB .lss 3 T0 U0 x15 (iV 0) w fun x17=>
 BR x17
 (R (Value.bool true) w)
 (rL 26 x2 w fun x18=>
 cL 9 [x18] w fun x19 w=>
 cL 21 [x19,a1] w fun x21 w=>
 rL 26 x2 w fun x22=>
 cL 9 [x22] w fun x23 w=>
 oP (Instr.alloc 32 true (.tuple #[])) w fun x7 w=>
 oS 32 x7 x23 w fun w=>
 rL 32 x7 w fun x24=>
 cL 22 [x24,a1] w fun x26 w=>
 cL 23 [x26,x21] w fun x29 w=>
 rD (Op.unary .not x29) w fun x30=>
 BR x30
 (R (Value.bool false) w)
 ((fun w=>rL 32 x7 w fun x31=>
 rL 26 x2 w fun x32=>
 (fun w_=>cL 9 [x32] w_ fun x33 w=>
 Ext w_ w ∧
 cL 12 [x31,x33] w fun x34 w=>
 rD (Op.unary .not x34) w fun x35=>
 BR x35
 (R (Value.bool false) w)
 (rL 32 x7 w fun x36=>
 cL 13 [x36,(iV 1)] w fun x38 w=>
 rB .lss 3 T0 U0 x38 (iV 0) w fun x40=>
 BR x40
 (R (Value.bool false) w)
 (cL 23 [x26,x21] w fun x44 w=>
 rD (Op.unary .not x44) w fun x45=>
 BR x45
 (R (Value.bool false) w)
 (cL 24 [x26,(iV 1)] w fun x49 w=>
 cL 25 [x26,(iV 1)] w fun x52 w=>
 rB .lss 3 T0 U0 x52 (iV 0) w fun x54=>
 BR x54
 (R (Value.bool false) w)
 (rB .neq 3 T0 T0 x52 x49 w fun x57=>
 BR x57
 (R (Value.bool false) w)
 (rL 26 x2 w fun x58=>
 cL 9 [x58] w fun x59 w=>
 cL 22 [x59,a1] w fun x61 w=>
 cL 23 [x61,x21] w fun x64 w=>
 rD (Op.unary .not x64) w fun x65=>
 BR x65
 (R (Value.bool false) w)
 (cL 25 [x26,(iV 1)] w fun x68 w=>
 rB .lss 3 T0 U0 x68 (iV 0) w fun x70=>
 BR x70
 (R (Value.bool false) w)
 (rB .neq 3 T0 T0 x68 x49 w fun x73=>
 BR x73
 (R (Value.bool false) w)
 (R (Value.bool true) w))))))))) w) (World.drew1 w)))
def cfg5:Cfg:=⟨extL,[],[],[(10,[0,1,2,3,4],4)],[],[],[]⟩
theorem F5_call {a0 a1:Value} {w:World} {R:VW} (h:F5 a0 a1 w R):cL 5 [a0,a1] w R:=co (g:=cfg5) Tryz.func5 (by kernel_rfl) (by kernel_rfl) (by kernel_rfl) h
theorem zmB {w:World} {v0:Value} {W0:World} {c:DCode} {g:Int}  (h0:Is W0 v0 c) (e0:Ext W0 w)  :
   CALL Tryz.prog 5 [v0,.int .i64 g] w fun r w'=>Ext w w'∧(r=.bool true):=by
 refine F5_call ?_
 unfold F5
 have hs_e0:=e0.size
 refine zaB zrn rfl h0 e0 fun w1_ hx1_ hA2 hV2=>?_
 have hs_hx1_:=hx1_.size
 refine zbD hV2 (Ext.refl w1_) ?_
 refine (znf h0 (e0.trans hx1_) (by omega) (by omega)).mono ?_
 rintro _ w2_ ⟨hx2_,n15,rfl,hn15⟩
 have hs_hx2_:=hx2_.size
 refine zah ?_
 refine br (fun c1=>?_) (fun c1=>?_)
 · refine ⟨(hx1_.trans hx2_),?_⟩
   first | rfl | contradiction | (exfalso;omega)
 have hcd:=zoj (by omega) hn15 c1
 have hlr:=zk7 c g
 refine zbD hV2 hx2_ ?_
 refine (zfL (h0.ext (e0.trans (hx1_.trans hx2_))) (by omega)).mono ?_
 rintro r19 w3_ ⟨hx3_,o19⟩
 have o19:=o19.toI
 have hs_hx3_:=hx3_.size
 refine (zhR o19.is (Ext.refl w3_)).mono ?_
 rintro r21 w4_ ⟨hx4_,o21⟩
 have o21:=o21.toI
 have hs_hx4_:=hx4_.size
 refine zbD hV2 (hx2_.trans (hx3_.trans hx4_)) ?_
 refine (zfL (h0.ext (e0.trans (hx1_.trans (hx2_.trans (hx3_.trans hx4_))))) (by omega)).mono ?_
 rintro r23 w5_ ⟨hx5_,o23⟩
 have o23:=o23.toI
 have hs_hx5_:=hx5_.size
 refine zce zro rfl zbu rfl o23.is (Ext.refl w5_) fun w6_ hx6_ hA7 hV7=>?_
 have hs_hx6_:=hx6_.size
 have hg7:=hV7.lt
 refine zbD hV7 (Ext.refl w6_) ?_
 refine (zfb o23.is hx6_).mono ?_
 rintro r26 w7_ ⟨hx7_,o26⟩
 have o26:=o26.toI
 have hs_hx7_:=hx7_.size
 refine (zf7 o26.is (Ext.refl w7_) o21.is (hx5_.trans (hx6_.trans hx7_))).mono ?_
 rintro _ w8_ ⟨hx8_,rfl⟩
 have hs_hx8_:=hx8_.size
 refine zaA ?_
 refine br (fun c2=>?_) (fun c2=>?_)
 · refine ⟨(hx1_.trans (hx2_.trans (hx3_.trans (hx4_.trans (hx5_.trans (hx6_.trans (hx7_.trans hx8_))))))),?_⟩
   first | rfl | contradiction | (exfalso;omega)
 have hx9_:=zan w8_
 have hs_hx9_:=hx9_.size
 refine zbD hV7 (hx7_.trans (hx8_.trans hx9_)) ?_
 refine zbD hV2 (hx2_.trans (hx3_.trans (hx4_.trans (hx5_.trans (hx6_.trans (hx7_.trans (hx8_.trans hx9_))))))) ?_
 refine (zfL (h0.ext (e0.trans (hx1_.trans (hx2_.trans (hx3_.trans (hx4_.trans (hx5_.trans (hx6_.trans (hx7_.trans (hx8_.trans hx9_)))))))))) (by omega)).mono ?_
 rintro r33 w10_ ⟨hx10_,o33⟩
 have o33:=o33.toI
 have hs_hx10_:=hx10_.size
 refine ⟨hx10_,?_⟩
 refine (zni o23.is (hx6_.trans (hx7_.trans (hx8_.trans (hx9_.trans hx10_)))) o33.is (Ext.refl w10_)).mono ?_
 rintro _ w11_ ⟨hx11_,rfl⟩
 have hs_hx11_:=hx11_.size
 refine zaA ?_
 refine br (fun c3=>?_) (fun c3=>?_)
 · refine ⟨(hx1_.trans (hx2_.trans (hx3_.trans (hx4_.trans (hx5_.trans (hx6_.trans (hx7_.trans (hx8_.trans (hx9_.trans (hx10_.trans hx11_)))))))))),?_⟩
   first | rfl | contradiction | (exfalso;omega)
 refine zbD hV7 (hx7_.trans (hx8_.trans (hx9_.trans (hx10_.trans hx11_)))) ?_
 refine (zlb (o23.ext (hx6_.trans (hx7_.trans (hx8_.trans (hx9_.trans (hx10_.trans hx11_)))))) (by omega) (by omega) (by omega)).mono ?_
 rintro _ w12_ ⟨n38,rfl,hn38,hc12_⟩
 have hs_hc12_:=hc12_.size
 have o19_c12:=(o19.ext (hx4_.trans (hx5_.trans (hx6_.trans (hx7_.trans (hx8_.trans (hx9_.trans (hx10_.trans hx11_)))))))).chg hc12_ (by omega)
 have o21_c12:=(o21.ext (hx5_.trans (hx6_.trans (hx7_.trans (hx8_.trans (hx9_.trans (hx10_.trans hx11_))))))).chg hc12_ (by omega)
 have hV7_c12:=(hV7.ext (hx7_.trans (hx8_.trans (hx9_.trans (hx10_.trans hx11_))))).chgI hc12_ (by omega)
 have o26_c12:=(o26.ext (hx8_.trans (hx9_.trans (hx10_.trans hx11_)))).chg hc12_ (by omega)
 have o33_c12:=(o33.ext hx11_).chg hc12_ (by omega)
 refine zah ?_
 refine br (fun c4=>?_) (fun c4=>?_)
 · refine ⟨(Ext.chgI ((((((((((hx1_.trans hx2_).trans hx3_).trans hx4_).trans hx5_).trans hx6_).trans hx7_).trans hx8_).trans hx9_).trans hx10_).trans hx11_) hc12_ (by omega)),?_⟩
   first | rfl | contradiction | (exfalso;omega)
 refine (zf7 o26_c12.is (Ext.refl w12_) o21_c12.is (Ext.refl w12_)).mono ?_
 rintro _ w13_ ⟨hx13_,rfl⟩
 have hs_hx13_:=hx13_.size
 refine zaA ?_
 refine br (fun c5=>?_) (fun c5=>?_)
 · refine ⟨((Ext.chgI ((((((((((hx1_.trans hx2_).trans hx3_).trans hx4_).trans hx5_).trans hx6_).trans hx7_).trans hx8_).trans hx9_).trans hx10_).trans hx11_) hc12_ (by omega)).trans hx13_),?_⟩
   first | rfl | contradiction | (exfalso;omega)
 refine (zld (o26_c12.ext hx13_) (by omega) (by omega) (by omega)).mono ?_
 rintro _ w14_ ⟨rfl,hc14_,o26_c14⟩
 have hs_hc14_:=hc14_.size
 have o19_c14:=(o19_c12.ext hx13_).chg hc14_ (by omega)
 have o21_c14:=(o21_c12.ext hx13_).chg hc14_ (by omega)
 have o33_c14:=(o33_c12.ext hx13_).chg hc14_ (by omega)
 refine (zgA o26_c14.is (Ext.refl w14_) (by omega) (by omega) (by omega)).mono ?_
 rintro _ w15_ ⟨hx15_,rfl⟩
 have hs_hx15_:=hx15_.size
 refine zah ?_
 refine br (fun c6=>?_) (fun c6=>?_)
 · refine ⟨((Ext.chgI ((Ext.chgI ((((((((((hx1_.trans hx2_).trans hx3_).trans hx4_).trans hx5_).trans hx6_).trans hx7_).trans hx8_).trans hx9_).trans hx10_).trans hx11_) hc12_ (by omega)).trans hx13_) hc14_ (by omega)).trans hx15_),?_⟩
   first | rfl | contradiction | (exfalso;omega)
 refine zaz ?_
 refine br (fun c7=>?_) (fun c7=>?_)
 · refine ⟨((Ext.chgI ((Ext.chgI ((((((((((hx1_.trans hx2_).trans hx3_).trans hx4_).trans hx5_).trans hx6_).trans hx7_).trans hx8_).trans hx9_).trans hx10_).trans hx11_) hc12_ (by omega)).trans hx13_) hc14_ (by omega)).trans hx15_),?_⟩
   first | rfl | contradiction | (exfalso;omega)
 refine zbD hV2 ((Ext.chgI ((Ext.chgI (((((((((hx2_.trans hx3_).trans hx4_).trans hx5_).trans hx6_).trans hx7_).trans hx8_).trans hx9_).trans hx10_).trans hx11_) hc12_ (by omega)).trans hx13_) hc14_ (by omega)).trans hx15_) ?_
 refine (zfL (h0.ext ((Ext.chgI ((Ext.chgI (((((((((((e0.trans hx1_).trans hx2_).trans hx3_).trans hx4_).trans hx5_).trans hx6_).trans hx7_).trans hx8_).trans hx9_).trans hx10_).trans hx11_) hc12_ (by omega)).trans hx13_) hc14_ (by omega)).trans hx15_)) (by omega)).mono ?_
 rintro r59 w16_ ⟨hx16_,o59⟩
 have o59:=o59.toI
 have hs_hx16_:=hx16_.size
 refine (zfb o59.is (Ext.refl w16_)).mono ?_
 rintro r61 w17_ ⟨hx17_,o61⟩
 have o61:=o61.toI
 have hs_hx17_:=hx17_.size
 refine (zf7 o61.is (Ext.refl w17_) o21_c14.is (hx15_.trans (hx16_.trans hx17_))).mono ?_
 rintro _ w18_ ⟨hx18_,rfl⟩
 have hs_hx18_:=hx18_.size
 refine zaA ?_
 refine br (fun c8=>?_) (fun c8=>?_)
 · refine ⟨(((((Ext.chgI ((Ext.chgI ((((((((((hx1_.trans hx2_).trans hx3_).trans hx4_).trans hx5_).trans hx6_).trans hx7_).trans hx8_).trans hx9_).trans hx10_).trans hx11_) hc12_ (by omega)).trans hx13_) hc14_ (by omega)).trans hx15_).trans hx16_).trans hx17_).trans hx18_),?_⟩
   first | rfl | contradiction | (exfalso;omega)
 refine (zgA o26_c14.is (hx15_.trans (hx16_.trans (hx17_.trans hx18_))) (by omega) (by omega) (by omega)).mono ?_
 rintro _ w19_ ⟨hx19_,rfl⟩
 have hs_hx19_:=hx19_.size
 refine zah ?_
 refine br (fun c9=>?_) (fun c9=>?_)
 · refine ⟨((((((Ext.chgI ((Ext.chgI ((((((((((hx1_.trans hx2_).trans hx3_).trans hx4_).trans hx5_).trans hx6_).trans hx7_).trans hx8_).trans hx9_).trans hx10_).trans hx11_) hc12_ (by omega)).trans hx13_) hc14_ (by omega)).trans hx15_).trans hx16_).trans hx17_).trans hx18_).trans hx19_),?_⟩
   first | rfl | contradiction | (exfalso;omega)
 refine zaz ?_
 refine br (fun c10=>?_) (fun c10=>?_)
 · refine ⟨((((((Ext.chgI ((Ext.chgI ((((((((((hx1_.trans hx2_).trans hx3_).trans hx4_).trans hx5_).trans hx6_).trans hx7_).trans hx8_).trans hx9_).trans hx10_).trans hx11_) hc12_ (by omega)).trans hx13_) hc14_ (by omega)).trans hx15_).trans hx16_).trans hx17_).trans hx18_).trans hx19_),?_⟩
   first | rfl | contradiction | (exfalso;omega)
 refine ⟨((((((Ext.chgI ((Ext.chgI ((((((((((hx1_.trans hx2_).trans hx3_).trans hx4_).trans hx5_).trans hx6_).trans hx7_).trans hx8_).trans hx9_).trans hx10_).trans hx11_) hc12_ (by omega)).trans hx13_) hc14_ (by omega)).trans hx15_).trans hx16_).trans hx17_).trans hx18_).trans hx19_),?_⟩
 first | rfl | contradiction | (exfalso;omega)
theorem zok:∀ n,zde Tryz.prog 93 DTerm n∧zde Tryz.prog 91 (List DTerm) n
 | 0=>⟨zeU,zeU⟩
 | n + 1 => ⟨zm6 (zgt (α := Int × Int × ByteArray × List DTerm) zrI (by kernel_rfl)
     (.cons rfl (by kernel_rfl) (zdf u3 n) (.cons rfl (by kernel_rfl) (zdf u3 n) (.cons rfl (by kernel_rfl) (zjp u9 n) (.one rfl (by kernel_rfl) (zok n).2))))),
   zg5 u91 (by kernel_rfl) (zok n).1⟩
theorem zol:∀ n,zde Tryz.prog 22 (List ByteArray) n:=zdg u22 (by kernel_rfl) (zjp u9)
theorem zrv:∀ n,zde Tryz.prog 95 DIns n:=fun n=>
 zjs (g:=fun p=>⟨p.1,p.2.1,p.2.2.1,p.2.2.2⟩) (fun _=>rfl) (zeo (α:=Int×Int×DTerm×Int) zrJ (by kernel_rfl)
   (fun n=>.cons rfl (by kernel_rfl) (zdf u3 n) (.cons rfl (by kernel_rfl) (zdf u3 n) (.cons rfl (by kernel_rfl) (zok n).1 (.one rfl (by kernel_rfl) (zdf u3 n))))) n)
theorem zrd:∀ n,zde Tryz.prog 24 (List DIns) n:=zdg u24 (by kernel_rfl) zrv
theorem zqs:∀ n,zde Tryz.prog 23 (List Int) n:=zdg u23 (by kernel_rfl) (zdf u3)
theorem zre:∀ n,zde Tryz.prog 26 DCode n:=fun n=>
 zjs (g:=fun p=>⟨p.1,p.2.1,p.2.2.1,p.2.2.2.1,p.2.2.2.2⟩) (fun _=>rfl) (zeo (α:=List ByteArray×List ByteArray×List ByteArray×List Int×List DIns) zrx (by kernel_rfl)
   (fun n=>.cons rfl (by kernel_rfl) (zol n) (.cons rfl (by kernel_rfl) (zol n) (.cons rfl (by kernel_rfl) (zol n) (.cons rfl (by kernel_rfl) (zqs n) (.one rfl (by kernel_rfl) (zrd n)))))) n)
end Go.Proofs.YtifonhplnmpgaaaGreat
namespace Go.Proofs.YtifonhplnmpgaaaGreat
open Go
theorem zbs {a b:Bool} (h:a=true) (k:b=true):(a&&b)=true:=by rw [h,k];rfl
theorem zqt:laidOutB Tryz.prog=true:=by kernel_rfl
theorem zqu:mapsRowed Tryz.prog=true:=by kernel_rfl
theorem zpd:(Rows.fnExactRankedRow.plainKeys == Tryz.prog.plainKeys)=true:=by kernel_rfl
theorem zpe:Tryz.prog.stopsHeard=true:=by kernel_rfl
theorem zrf:Tryz.prog.mayEnter=true:=by kernel_rfl
theorem zqv:(Rows.fnExactRankedRow.lifted == Tryz.prog.liftsFinal)=true:=by kernel_rfl
theorem zqw:(Tryz.prog.make == some Rows.fnExactRankedRow.make)=true:=by kernel_rfl
end Go.Proofs.YtifonhplnmpgaaaGreat
namespace Go.Proofs.YtifonhplnmpgaaaGreat.fnExactRacesOn
open Go.ChangeShapes Go.WideShapes Go.ChangeAt Go.RowKit Go.Sh
theorem own:ownKnob Tryz.prog.godebug=none:=by kernel_rfl
theorem zom:laidOutB Tryz.prog=true:=by kernel_rfl
set_option maxRecDepth 100000 in
theorem lifted (os:Os) (started:os.Started) (H:Type) (enc:TypeId×Value→H) :
    ReturnsInHanded {} Tryz.checked os 5 .any (Rows.fnExactRacesOnSpec.pre6 enc Tryz.prog Tryz.f5 Rows.fnExactRacesOnRow.domain false) (Rows.fnExactRacesOnSpec.post enc Tryz.prog Tryz.f5 false true false false):=by
  refine returnsInHanded_of_change (C:=Tryz.checked) own started (by kernel_rfl) Tryz.func5
    (ChangeSpec.witness6 (enc:=enc) (C:=Tryz.checked) false ⟨#[],#[.agg #[.slice none 0 0,.slice none 0 0,.slice none 0 0,.slice none 0 0,.slice none 0 0],.int .i64 0],[]⟩ 8 (by kernel_rfl) (by kernel_rfl) (by kernel_rfl) (by kernel_rfl)) ?_
  intro W base args ds gs before hval0 hW hcnd _
  have hval:∀ (j:Nat) t v,Tryz.f5.params[j]?=some t→args[j]?=some v→Value.okWide Tryz.prog W .any base t v:=hval0
  have hW':=hW
  obtain ⟨p,q,hA0,hV,rfl,hfz,hnd⟩:=hW
  have hA:DataW.TrodAll enc Tryz.prog W 0 (fun _=>true) true Tryz.f5.params.toList args.toList ds p:=hA0
  rw [Tryz.params5] at hA hval
  obtain ⟨v0,vs0,d0,ds0,p0,q0,hargs,rfl,rfl,h0,r0⟩:=trodAll_cons hA
  obtain ⟨v1,vs1,d1,ds1,p1,q1,rfl,rfl,rfl,h1,r1⟩:=trodAll_cons r0
  obtain ⟨rfl,rfl,rfl⟩:=trodAll_nil r1
  obtain rfl:args=#[v0,v1]:=by cases args;simp_all
  obtain ⟨rfl,rfl⟩:=trodVars_none hV
  have lt0:∀ x∈p0,x.block<W.heap.size:=by obtain ⟨m,hm⟩:=h0;exact DataW.trod_lt m _ _ _ hm
  obtain ⟨x0,i0⟩:=zjt (α:=DCode) zrx rfl zre (hval 0 26 v0 rfl rfl) h0
  have lt1:∀ x∈p1,x.block<W.heap.size:=by obtain ⟨m,hm⟩:=h1;exact DataW.trod_lt m _ _ _ hm
  obtain ⟨x1,i1⟩:=zm3 u3 (hval 1 3 v1 rfl rfl) h1
  obtain ⟨rfl,j1⟩:=zpj.1 i1
  clear hA0 hval0
  obtain ⟨hcall⟩:=zmB i0 (Ext.refl W)
  refine hcall.mono fun e W' ⟨v,he,bel,hv⟩=>?_
  subst he hv
  exact ⟨_,rfl,_,_,_,[],_,[],hW',trodAll_mk1 (shut_bool Tryz.underlying4 _),(trodAll_cons_mk (Below.trod zom (by kernel_rfl) (of_decide_eq_true (by kernel_rfl)) h0 bel lt0) (trodAll_cons_mk (Below.trod zom (by kernel_rfl) (of_decide_eq_true (by kernel_rfl)) h1 bel lt1) trodAll_mk0)),rfl,bel.frame _,fun h=>by cases h⟩
theorem zon:(Rows.fnExactRacesOnRow.inPlace == Tryz.prog.inPlace 5)=true:=by kernel_rfl
theorem zkd:(Rows.fnExactRacesOnRow.unfollowed == Tryz.prog.unfollowed 5)=true:=by kernel_rfl
theorem zmC:(Rows.fnExactRacesOnRow.recurses == Tryz.prog.recurses 5)=true:=by kernel_rfl
theorem zqx:(Rows.fnExactRacesOnRow.named == Tryz.prog.varsNamed 5)=true:=by kernel_rfl
theorem closed:joinedFacts Tryz.prog 5 Tryz.f5 Rows.fnExactRacesOnSpec Rows.fnExactRacesOnRow=true:=by
 unfold joinedFacts
 exact (zbs (zbs (zbs (zbs (zbs (zbs (zbs (zbs (zbs (zbs (zbs (zbs (zbs (zbs (zbs (zbs (zbs (zbs (zbs (zbs (zbs (zbs (zbs (zbs (zbs (zbs (zbs (zbs (zbs (zbs (zbs (by kernel_rfl) zqt) zqu) (by kernel_rfl)) (by kernel_rfl)) (by kernel_rfl)) (by kernel_rfl)) (by kernel_rfl)) (by kernel_rfl)) zon) zkd) zmC) zqx) (by kernel_rfl)) (by kernel_rfl)) (by kernel_rfl)) (by kernel_rfl)) (by kernel_rfl)) (by kernel_rfl)) (by kernel_rfl)) (by kernel_rfl)) (by kernel_rfl)) zpd) (by kernel_rfl)) zpe) zrf) zqv) zqw) (by kernel_rfl)) (by kernel_rfl)) (by kernel_rfl)) (by kernel_rfl))
theorem over:Rows.fnExactRacesOnRow.holds Tryz.pinned (OpenSpec.ofChange Rows.fnExactRacesOnSpec):=
 OpenClaim.holds_of_wide 5 Tryz.f5 rfl rfl rfl rfl rfl rfl rfl ⟨rfl,rfl,rfl,rfl,rfl⟩ rfl rfl rfl rfl rfl (by kernel_rfl) Tryz.func5 closed
   (of_decide_eq_true (by kernel_rfl)) (by unfold Func.isWrapper;first | (rw [if_pos (by decide +kernel)];kernel_rfl) | (rw [if_neg (by decide +kernel)];exact ⟨rfl,rfl⟩))
   (fun os started H enc _=>lifted os started H enc)
theorem proved:Rows.FnExactRacesOnSaid:=over
end Go.Proofs.YtifonhplnmpgaaaGreat.fnExactRacesOn
