/-
  Parts of the proof, put together by program.
-/
import Derived.Test.YtifonhplnmpgaaaGreatPRanked4
set_option linter.unusedVariables false
set_option linter.unusedSimpArgs false
set_option linter.unusedSectionVars false
namespace Go.Proofs.YtifonhplnmpgaaaGreat
open Go Go.Sh Go.Proofs
open Rep (rep)
def F116 (a0 a1:Value) (w:World) (R:VW):Prop:=
 rD (convert 3 121 a1) w fun x7=>
 rB .shr 3 T0 T0 a0 x7 w fun x8=>
 rB .and 3 T0 U0 x8 (iV 1) w fun x9=>
 rB .eql 3 T0 U0 x9 (iV 1) w fun x10=>
 R x10 w
def cfg116:Cfg:=⟨extL,[],[],[],[],[],[]⟩
theorem F116_call {a0 a1:Value} {w:World} {R:VW} (h:F116 a0 a1 w R):cL 116 [a0,a1] w R:=co (g:=cfg116) Tryz.func116 (by kernel_rfl) (by kernel_rfl) (by kernel_rfl) h
theorem zmR {w:World} {m:Nat} {i:Nat}   (hm:m<4611686018427387904) (hi:i<4611686018427387904) :
   CALL Tryz.prog 116 [.int .i64 (m:Int),.int .i64 (i:Int)] w fun r w'=>Ext w w'∧(r=.bool (m.testBit i)):=by
 refine F116_call ?_
 unfold F116
 refine zbD (by kernel_rfl) zik (by omega) ?_
 refine zoQ (by omega) ?_
 refine zmf (n:=1) (Nat.lt_of_le_of_lt (Nat.shiftRight_le m i) hm) (by omega) ?_
 refine zao ?_
 refine ⟨Ext.refl w,?_⟩
 rw [zmg]
def F66 (a0:Value) (w:World) (R:VW):Prop:=
 LOOPI [3,4] [(Value.slice none 0 0),(iV 0)] w fun u3 w next3=>
 rD (convert 3 121 (u3 4)) w fun x7=>
 rB .shr 3 T0 T0 a0 x7 w fun x8=>
 rB .neq 3 T0 U0 x8 (iV 0) w fun x9=>
 BR x9
 (cL 116 [a0,(u3 4)] w fun x14 w=>
 BR x14
 (oP (Instr.buildSlice 23 1 #[(0,(u3 4))]) w fun x17 w=>
 oP (Builtin.append_ #[23,23] 23 [(u3 3),x17].toArray) w fun x18 w=>
 rA (u3 4) (iV 1) w fun x11=>
 next3 [x18,x11] w)
 (rA (u3 4) (iV 1) w fun x11=>
 next3 [(u3 3),x11] w))
 (R (u3 3) w)
def cfg66:Cfg:=⟨extL,[],[(3,524280,[3,4])],[],[],[],[]⟩
theorem F66_call {a0:Value} {w:World} {R:VW} (h:F66 a0 w R):cL 66 [a0] w R:=co (g:=cfg66) Tryz.func66 (by kernel_rfl) (by kernel_rfl) (by kernel_rfl) h
theorem zgA {w:World} {m:Nat}   (hm:m<4611686018427387904) :
   CALL Tryz.prog 66 [.int .i64 (m:Int)] w fun r w'=>Ext w w'∧(Own w.heap.size w' r (zba m)):=by
 refine F66_call ?_
 unfold F66
 refine zaq (62) (fun k us w'=>∃ v:Value,us=[v,.int .i64 (k:Int)]∧Ext w w'∧(RowI w.heap.size w'.heap.size 3 w' v (zb3 m k))) (0) (by omega) ⟨_,rfl,Ext.refl w,zdy _ _ _ _⟩ ?_
 rintro k m3 uu3 w1_ hk3 ⟨v3,hu,hx1_,hrow⟩
 have hs_hx1_:=hx1_.size
 obtain ⟨hu0,hu1⟩:=zcO hu
 try rw [hu0]
 try rw [hu1]
 try clear hu0 hu1
 have hrl:=zdo m k
 refine zbD (by kernel_rfl) zik (by omega) ?_
 refine zoQ (by omega) ?_
 refine zaI ?_
 refine br (fun c1=>?_) (fun c1=>?_)
 · have hk62:k<62:=by
     rcases Nat.lt_or_ge k 62 with h | h
     · exact h
     have h1:m<2^k:=Nat.lt_of_lt_of_le (show m<2^62 by omega) (Nat.pow_le_pow_right (by omega) h)
     exact absurd (by rw [zkG.2 h1];rfl) c1
   refine (zmR (by omega) (by omega)).mono ?_
   rintro _ w2_ ⟨hx2_,rfl⟩
   have hs_hx2_:=hx2_.size
   refine zb8 (fun c2=>?_) (fun c2=>?_)
   · refine zcP (α:=Int) u23 ty3 z3 zc3 (by decide) (hrow.ext hx2_) (by omega) (ownI_int (lo:=w2_.heap.size) (hi:=w2_.heap.size) (by first | assumption | (unfold I64 at *;omega))) (by omega) (by omega) (by rw [zam];omega) (by omega) fun v18 w3_ hc3_ o18=>?_
     have hs_hc3_:=hc3_.size
     refine zaf (by omega) ?_
     refine ⟨m3-1,by omega,k+1,by omega,_,rfl,(Ext.chgI (hx1_.trans hx2_) hc3_ (by omega)),?_⟩
     rw [zb3,if_pos c2];exact o18
   refine zaf (by omega) ?_
   refine ⟨m3-1,by omega,k+1,by omega,_,rfl,(hx1_.trans hx2_),?_⟩
   rw [zb3,if_neg (by simp [c2])];exact (hrow.ext hx2_).mono (by omega) (by omega)
 refine ⟨hx1_,?_⟩
 have h1:m >>> k=0:=by have:=Decidable.not_not.1 c1;omega
 rw [zhN (zkG.1 h1) (by omega)]
 exact hrow.own.own
def F102 (a0:Value) (w:World) (R:VW):Prop:=
 rD (convert 3 121 a0) w fun x4=>
 rB .shl 3 U0 T0 (iV 1) x4 w fun x5=>
 R x5 w
def cfg102:Cfg:=⟨extL,[],[],[],[],[],[]⟩
theorem F102_call {a0:Value} {w:World} {R:VW} (h:F102 a0 w R):cL 102 [a0] w R:=co (g:=cfg102) Tryz.func102 (by kernel_rfl) (by kernel_rfl) (by kernel_rfl) h
theorem zgB {w:World} {i:Nat}   (hi:i<62) :
   CALL Tryz.prog 102 [.int .i64 (i:Int)] w fun r w'=>Ext w w'∧(r=.int .i64 ((2^i:Nat):Int)):=by
 refine F102_call ?_
 unfold F102
 refine zbD (by kernel_rfl) zik (by omega) ?_
 refine zew (by omega) ?_
 refine ⟨Ext.refl w,?_⟩
 rfl
def F130 (a0 a1:Value) (w:World) (R:VW):Prop:=
 cL 102 [a1] w fun x7 w=>
 rB .and 3 T0 T0 a0 x7 w fun x8=>
 rB .neq 3 T0 U0 x8 (iV 0) w fun x9=>
 R x9 w
def cfg130:Cfg:=⟨extL,[],[],[],[],[],[]⟩
theorem F130_call {a0 a1:Value} {w:World} {R:VW} (h:F130 a0 a1 w R):cL 130 [a0,a1] w R:=co (g:=cfg130) Tryz.func130 (by kernel_rfl) (by kernel_rfl) (by kernel_rfl) h
theorem zof {w:World} {m:Nat} {i:Nat}   (hm:m<4611686018427387904) (hi:i<62) :
   CALL Tryz.prog 130 [.int .i64 (m:Int),.int .i64 (i:Int)] w fun r w'=>Ext w w'∧(r=.bool (m.testBit i)):=by
 refine F130_call ?_
 unfold F130
 refine (zgB (by omega)).mono ?_
 rintro _ w1_ ⟨hx1_,rfl⟩
 have hp:2^i<4611686018427387904:=Nat.lt_of_lt_of_le (Nat.pow_lt_pow_right (by omega) hi) (by omega:2^62≤4611686018427387904)
 refine zmf (by omega) (by omega) ?_
 refine zaI ?_
 refine ⟨hx1_,?_⟩
 rw [znP]
def F156 (a0:Value) (w:World) (R:VW):Prop:=
 cL 125 [a0,(iV 0),(iV 63)] w fun x4 w=>
 R x4 w
def cfg156:Cfg:=⟨extL,[],[],[],[],[],[]⟩
theorem F156_call {a0:Value} {w:World} {R:VW} (h:F156 a0 w R):cL 156 [a0] w R:=co (g:=cfg156) Tryz.func156 (by kernel_rfl) (by kernel_rfl) (by kernel_rfl) h
theorem zkU {w:World} {a:Int}    :
   CALL Tryz.prog 156 [.int .i64 a] w fun r w'=>Ext w w'∧(r=.bool (decide (0≤a∧a≤63))):=by
 refine F156_call ?_
 unfold F156
 refine (l01In_ok ).mono ?_
 rintro _ w1_ ⟨hx1_,rfl⟩
 refine ⟨hx1_,?_⟩
 rfl
theorem zoX {m i:Nat} (hm:m<64) (hi:i<6):m ||| 2^i<64:=Nat.or_lt_two_pow (n:=6) hm (Nat.pow_lt_pow_right (by omega) hi)
def F138 (a0 a1:Value) (w:World) (R:VW):Prop:=
 cL 66 [a1] w fun x9 w=>
 rN 23 3 x9 w fun x10=>
 LOOPI [5,11] [(iV 0),(iV 0)] w fun u3 w next3=>
 rC (u3 11) x10 w fun x12=>
 BR x12
 (rX 23 x9 (u3 11) w fun x13=>
 rL 3 x13 w fun x14=>
 rX 23 a0 x14 w fun x18=>
 rL 3 x18 w fun x19=>
 rB .or 3 T0 T0 (u3 5) x19 w fun x20=>
 rA (u3 11) (iV 1) w fun x21=>
 next3 [x20,x21] w)
 (R (u3 5) w)
def cfg138:Cfg:=⟨extL,[],[(3,4192416,[5,11])],[],[],[],[]⟩
theorem F138_call {a0 a1:Value} {w:World} {R:VW} (h:F138 a0 a1 w R):cL 138 [a0,a1] w R:=co (g:=cfg138) Tryz.func138 (by kernel_rfl) (by kernel_rfl) (by kernel_rfl) h
def orL (sets:List Nat) (l:List Int):Nat:=l.foldl (fun a i=>a ||| sets.getD i.toNat 0) 0
theorem zog (sets:List Nat) (l:List Int) (i:Int):orL sets (l++[i])=orL sets l ||| sets.getD i.toNat 0:=by simp [orL]
theorem zmS {sets:List Nat} (hs:∀ x∈sets,x<256) (l:List Int):orL sets l<256:=by
 have key:∀ (l:List Int) (a:Nat),a<256→l.foldl (fun a i=>a ||| sets.getD i.toNat 0) a<256:=fun l=>by
   induction l with
   | nil=>exact fun a h=>h
   | cons i l ih=>
     intro a ha
     rw [List.foldl_cons]
     refine ih _ (Nat.or_lt_two_pow (n:=8) ha ?_)
     rw [List.getD_eq_getElem?_getD]
     cases h:sets[i.toNat]? with
     | none=>simp
     | some x=>exact hs x (List.mem_of_getElem? h)
 exact key l 0 (by omega)
theorem zfr {w W0:World} {v0:Value} {sets:List Nat} {m:Nat} (h0:Is W0 v0 (zaF sets)) (e0:Ext W0 w) (hs:∀ x∈sets,x<256) (hl:sets.length≤8) (hm:m<2^sets.length) :
   CALL Tryz.prog 138 [v0,.int .i64 (m:Int)] w fun r w'=>Ext w w'∧r=.int .i64 (orL sets (zba m):Nat):=by
 refine F138_call ?_
 unfold F138
 have h256:2^sets.length≤2^8:=Nat.pow_le_pow_right (by omega) hl
 refine (zgA (m:=m) (by omega)).mono ?_
 rintro v9 w1 ⟨hx1,ho1⟩
 have hbl:(zba m).length≤64:=zdo m 64
 refine zae u23 ho1.is ?_
 refine zaq (zba m).length (fun k us w'=>us=[.int .i64 ((orL sets ((zba m).take k):Nat):Int),.int .i64 (k:Int)]∧k≤(zba m).length∧Ext w1 w') 0 (Nat.zero_le _) ⟨rfl,Nat.zero_le _,Ext.refl _⟩ ?_
 rintro k mk u w2 hkm ⟨hu,hkl,hx2⟩
 obtain ⟨hu1,hu2⟩:=zcO hu
 rw [hu1,hu2]
 refine zah ?_
 refine br (fun hlt=>?_) (fun hge=>?_)
 case refine_2=>
   have:k=(zba m).length:=by omega
   rw [this,List.take_length]
   exact ⟨hx1.trans hx2,rfl⟩
 have hk:k<(zba m).length:=by omega
 have hmem:(zba m)[k]∈zba m:=List.getElem_mem hk
 obtain ⟨i,hi1,hi2,hi3⟩:=zb4.1 hmem
 have hil:i<sets.length:=Decidable.byContradiction fun hc=>by
   have:=Nat.testBit_lt_two_pow (Nat.lt_of_lt_of_le hm (Nat.pow_le_pow_right (by omega) (by omega:sets.length≤i)))
   rw [this] at hi3;cases hi3
 refine zac u23 ty3 (i:=k) ho1.is hk fun b1 o1 hA1=>?_
 refine zad ty3 hA1 hx2 fun _=>?_
 rw [hi2]
 refine zac u23 ty3 (i:=i) h0 (by rw [zag];exact hil) fun b2 o2 hA2=>?_
 rw [zaY] at hA2
 refine zad ty3 hA2 ((e0.trans hx1).trans hx2) fun _=>?_
 have h1:=zmS hs ((zba m).take k)
 have h2:=hs sets[i] (List.getElem_mem hil)
 refine zfY (by omega) (by omega) ?_
 refine zaf (by omega) ?_
 refine ⟨mk-1,by omega,k+1,by omega,?_,by omega,hx2⟩
 rw [List.take_succ_eq_append_getElem hk,zog,hi2,Int.toNat_natCast,List.getD_eq_getElem?_getD,List.getElem?_eq_getElem hil]
 rfl
def F152 (a0 a1:Value) (w:World) (R:VW):Prop:=
 oP (Instr.box 32 a0) w fun x2 w=>
 rF 32 x2 2 w fun x10=>
 rL 22 x10 w fun x11=>
 rN 22 3 x11 w fun x12=>
 oP (Instr.makeSlice 101 x12 x12) w fun x13 w=>
 rX 101 x13 a1 w fun x16=>
 oS 4 x16 (Value.bool true) w fun w=>
 oP (Instr.buildSlice 23 1 #[(0,a1)]) w fun x18 w=>
 LOOPI [6,7] [x18,(iV 0)] w fun u5 w next5=>
 rN 23 3 (u5 6) w fun x21=>
 rC (u5 7) x21 w fun x22=>
 BR x22
 ((fun w=>rL 32 x2 w fun x25=>
 rX 23 (u5 6) (u5 7) w fun x28=>
 rL 3 x28 w fun x29=>
 cL 212 [x25,x29,(iV 4)] w fun x30 w=>
 LOOPI [6,9] [(u5 6),(iV 0)] w fun u9 w next9=>
 rN 23 3 x30 w fun x33=>
 rC (u9 9) x33 w fun x34=>
 BR x34
 (rX 23 x30 (u9 9) w fun x40=>
 rL 3 x40 w fun x41=>
 rX 101 x13 x41 w fun x42=>
 rL 4 x42 w fun x43=>
 rD (Op.unary .not x43) w fun x44=>
 BR x44
 (rX 23 x30 (u9 9) w fun x48=>
 rL 3 x48 w fun x49=>
 rX 101 x13 x49 w fun x50=>
 oS 4 x50 (Value.bool true) w fun w=>
 rX 23 x30 (u9 9) w fun x54=>
 rL 3 x54 w fun x55=>
 oP (Instr.buildSlice 23 1 #[(0,x55)]) w fun x56 w=>
 oP (Builtin.append_ #[23,23] 23 [(u9 6),x56].toArray) w fun x57 w=>
 rA (u9 9) (iV 1) w fun x36=>
 next9 [x57,x36] w)
 (rA (u9 9) (iV 1) w fun x36=>
 next9 [(u9 6),x36] w))
 (rA (u5 7) (iV 1) w fun x24=>
 next5 [(u9 6),x24] w)) (World.drew1 w))
 (R x13 w)
def cfg152:Cfg:=⟨extL,[],[(5,288230376151188416,[6,7]),(9,288230374004228672,[6,9])],[(7,[0,1,2,3,4,5,6],0)],[],[],[]⟩
theorem F152_call {a0 a1:Value} {w:World} {R:VW} (h:F152 a0 a1 w R):cL 152 [a0,a1] w R:=co (g:=cfg152) Tryz.func152 (by kernel_rfl) (by kernel_rfl) (by kernel_rfl) h
noncomputable def zi8 (c:DCode) (p:Nat):List Nat:=zbw c.procs.length (zjz c p 4)
theorem zj7 {w W0:World} {v0:Value} {c:DCode} {a:Nat} (h0:Is W0 v0 c) (e0:Ext W0 w) (hc:CodeR c) (ha:a<c.procs.length) :
   CALL Tryz.prog 152 [v0,.int .i64 (a:Int)] w fun r w'=>Ext w w'∧∃ m,r=.slice (some ⟨m,0,none⟩) c.procs.length c.procs.length∧w.heap.size≤m∧Mine [m] w' (.slice (some ⟨m,0,none⟩) c.procs.length c.procs.length) (zb0 c.procs.length fun i=>i=a∨RP (zi8 c) a i):=by
 refine F152_call ?_
 unfold F152
 have h8:=hc.1.procs8
 have hep:=hc.2.1.1
 have hcn:∀ x,zi8 c x=zbw c.procs.length (zjz c x 4):=fun _=>rfl
 refine zdm h0 e0 fun w1 hx1 hA=>?_
 refine zaa zbS ?_
 refine zab zb1 (zaw hA) (Ext.refl _) fun v11 h11=>?_
 refine zae u22 h11 ?_
 generalize hn:c.procs.length=n at *
 have hnl:∀ {i j:Nat},i<n→j∈zi8 c i→j<n∧True:=fun {i j} _ hj=>by rw [hcn] at hj;exact ⟨(za1.1 hj).1,trivial⟩
 have hnxl:∀ x,(zi8 c x).length≤n:=fun x=>by rw [hcn];exact zbU
 refine zeg h8.2 (by omega) fun w2 hx2 hM2=>?_
 have hs1:=hx1.size
 have hs2:=hx2.size
 refine zch (α:=Bool) rfl zdi ty4 ha ?_
 refine zbx (α:=Bool) rfl ty4 hM2 (by simp) ha za8 fun w2b hc2 hM2b=>?_
 have hc2':ChgI w1.heap.size (w1.heap.size+1) w2 w2b:=hc2.toI fun b hb=>by simp only [List.mem_cons,List.not_mem_nil,or_false] at hb;omega
 have hs2b:=hc2'.size
 have hM0l:((List.replicate n false).set a true).length=n:=by simp
 have hM0:∀ i,mkd ((List.replicate n false).set a true) i↔i=a:=fun i=>by
   rw [zbE (by simp;exact ha)]
   exact ⟨fun h=>h.resolve_left zbk,.inr⟩
 generalize (List.replicate n false).set a true=M0 at *
 refine zbB (x:=(a:Int)) u23 ty3 z3 (by decide) (za6 (by unfold I64;omega)) fun v15 w3 hx3 hr3=>?_
 have hs3:=hx3.size
 generalize hm:w1.heap.size=m at *
 have hW3:WI w1 w3 m n w2b.heap.size w3.heap.size v15 [a] M0:=⟨(hx2.toI.trans hc2').trans hx3.toI,hr3,hM2b.ext hx3,by omega,by have:=hM2b.lt m (by simp);omega,hs3,Nat.le_refl _⟩
 generalize zi8 c=nx at *
 refine zaq (1+n) (fun h us w'=>∃ (tv:Value) (lo hi:Nat) (L:List Nat) (ms:List Bool),us=[tv,.int .i64 (h:Int)]∧h≤L.length∧WI w1 w' m n lo hi tv L ms∧SInv nx n a M0 ms (L.drop h) h) 0 (Nat.zero_le _) ⟨v15,_,_,[a],_,rfl,by simp,hW3,SInv.start hM0l ha⟩ ?_
 rintro h mk u w4 hkm ⟨tv,lo,hi,L,ms,hu,hhL,hW4,hS4⟩
 obtain ⟨hu1,hu2⟩:=zcO hu
 rw [hu1,hu2]
 have hb4:=hS4.bound
 rw [List.length_drop] at hb4
 refine zae u23 hW4.row.is ?_
 rw [zag]
 refine zah ?_
 refine br (fun hlt=>?_) (fun hge=>?_)
 case refine_2=>
   have hhe:h=L.length:=by omega
   rw [hhe,List.drop_length] at hS4
   have hfin:=hS4.fin fun i hi hne=>absurd ((hM0 i).1 hi) hne
   have hms:ms=zb0 n (fun i=>i=a∨RP nx a i):=zbr hS4.len fun i hi=>by rw [hfin i,hM0]
   rw [←hms]
   have hx4:Ext w1 w4:=(Ext.refl w1).chgI hW4.chg (by omega)
   exact ⟨hx1.trans hx4,m,rfl,by omega,hW4.mks⟩
 have hh:h<L.length:=by omega
 have hx5:=zan w4
 have hW5:=hW4.step hx5
 generalize World.drew1 w4=w5 at *
 have hxa:∀ {w:World} {lo hi tv L ms},WI w1 w m n lo hi tv L ms→Ext w1 w:=fun h=>(Ext.refl w1).chgI h.chg (by omega)
 refine zab zdh hA (hxa hW5) fun v22 h22=>?_
 refine zac u23 ty3 (i:=h) hW5.row.is (by rw [zag];exact hh) fun b1 o1 hA1=>?_
 rw [zaY] at hA1
 refine zad ty3 hA1 (Ext.refl _) fun _=>?_
 generalize hx:L[h]=x at *
 have hdr:L.drop h=x :: L.drop (h+1):=by rw [List.drop_eq_getElem_cons hh,hx]
 have hxn:x<n:=(hS4.tdo x (by rw [hdr];simp)).2
 refine (zi7 h22 (hxa hW5) hc (by omega) (.inl rfl)).mono ?_
 rintro v27 w6 ⟨hx6,ho6⟩
 rw [hn,←hcn] at ho6
 have hW6:=hW5.step hx6
 have hI6:=hW5.h3
 have hm6:=hW5.mks.lt m (by simp)
 have hS6:SIn2 nx n a M0 ms (L.drop (h+1)) h x 0:=hS4.pop (fun i=>by rw [hdr];simp [or_comm]) (by rw [hdr];simp)
 have hl2:=hnxl x
 refine zaq (nx x).length (fun q us w'=>∃ (tv:Value) (lo hi:Nat) (L:List Nat) (ms:List Bool),us=[tv,.int .i64 (q:Int)]∧q≤(nx x).length∧h<L.length∧WI w1 w' m n lo hi tv L ms∧SIn2 nx n a M0 ms (L.drop (h+1)) h x q∧OwnI w5.heap.size w6.heap.size w' v27 (zaF (nx x))∧(hi≤w5.heap.size∨w6.heap.size≤lo)∧w6.heap.size≤w'.heap.size) 0 (Nat.zero_le _) ⟨tv,lo,hi,L,ms,rfl,Nat.zero_le _,hh,hW6,hS6,ho6.toI,.inl hI6,Nat.le_refl _⟩ ?_
 rintro q mk8 u8 w7 hkm8 ⟨tv7,lo7,hi7,L7,ms7,hu8,hql,hh7,hW7,hS7,ho7,hd7,hz7⟩
 obtain ⟨hu81,hu82⟩:=zcO hu8
 rw [hu81,hu82]
 refine zae u23 ho7.is ?_
 rw [zag]
 refine zah ?_
 refine br (fun hlt8=>?_) (fun hge8=>?_)
 case refine_2=>
   refine zaf (by omega) ?_
   exact ⟨mk-1,by omega,h+1,by omega,tv7,lo7,hi7,L7,ms7,rfl,by omega,hW7,hS7.done (by omega)⟩
 have hq:q<(nx x).length:=by omega
 have hrd:∀ {w:World} {K:Value→Prop} (ho:OwnI w5.heap.size w6.heap.size w v27 (zaF (nx x))) (k:K (.int .i64 (((nx x)[q]:Nat):Int))),RD Tryz.prog (Instr.indexAt 23 v27 (.int .i64 (q:Int))) w fun x37=>RD Tryz.prog (Instr.loadAt 3 x37) w K:=fun ho k=>by
   refine zac u23 ty3 (i:=q) ho.is (by rw [zag];exact hq) fun b1 o1 hA1=>?_
   rw [zaY] at hA1
   exact zad ty3 hA1 (Ext.refl _) fun _=>k
 have hy:=hnl hxn (List.getElem_mem hq)
 refine hrd ho7 ?_
 have hlen7:=hS7.len
 refine zac zdi ty4 hW7.mks.is (by rw [hlen7];exact hy.1) fun b2 o2 hA2=>?_
 refine zaX ty4 hA2 (Ext.refl _) ?_
 refine zaW ?_
 have hmk7:=za5 (ms:=ms7) (i:=(nx x)[q]) (by rw [hlen7];exact hy.1)
 refine zb8 (fun hf=>?_) (fun hf=>?_)
 · have hnm:¬mkd ms7 (nx x)[q]:=by rw [hmk7];simpa using hf
   refine hrd ho7 ?_
   refine zch (α:=Bool) rfl zdi ty4 hy.1 ?_
   refine zbx (α:=Bool) rfl ty4 hW7.mks hlen7 hy.1 za8 fun w8 hc8 hm8=>?_
   have hW8:=hW7.mark hc8 hm8
   have hc8':ChgI m (m+1) w7 w8:=hc8.toI fun b hb=>by simp only [List.mem_cons,List.not_mem_nil,or_false] at hb;omega
   have ho8:=ho7.chg hc8' (by omega)
   refine hrd ho8 ?_
   have hS8:=hS7.push hq hy.1 hnm
   generalize (nx x)[q]=y at *
   have hLb:L7.length≤2+n:=by
     have h1:=hS7.cnt
     have h2:=zdP ms7
     rw [List.length_drop] at h1
     omega
   refine zdr (x:=(y:Int)) u23 ty3 z3 zc3 (by decide) hW8.row (ownI_int 0 0 (by unfold I64;omega)) (by rw [zam,zag];omega) (by rw [zag];omega) fun v54 w9 lo9 hi9 hc9 hr9 hd9=>?_
   have hW9:=hW8.push hc9 hr9 hd9
   have hsz8:=hc8'.size
   have hsz7:=ho7.is
   refine zaf (by omega) ?_
   refine ⟨mk8-1,by omega,q+1,by omega,v54,lo9,hi9,L7++[y],_,rfl,by omega,by simp;omega,hW9,?_,ho8.chg hc9 (by omega),by omega,by have:=hc9.size;omega⟩
   rw [List.drop_append_of_le_length (by omega)]
   exact hS8
 have hnm:mkd ms7 (nx x)[q]:=by rw [hmk7];simpa using hf
 refine zaf (by omega) ?_
 exact ⟨mk8-1,by omega,q+1,by omega,tv7,lo7,hi7,L7,ms7,rfl,by omega,hh7,hW7,hS7.skip hq hnm,ho7,hd7,hz7⟩
noncomputable def m6 (p:Nat→Prop):Nat:=zbF p 6
theorem zoY {p:Nat→Prop} {l:Nat}:(m6 p).testBit l=true↔l<6∧p l:=zaA
theorem zqm {p:Nat→Prop}:m6 p<64:=zhA (n:=6)
theorem zd2 {m l:Nat} (h:m<64) (hb:m.testBit l=true):l<6:=Decidable.byContradiction fun hc=>by
 have:=Nat.testBit_lt_two_pow (Nat.lt_of_lt_of_le (show m<2^6 from h) (Nat.pow_le_pow_right (by omega) (by omega:6≤l)))
 rw [this] at hb;cases hb
theorem zqM {m:Nat} {p:Nat→Prop} (h:m<64) (hb:∀ l,l<6→(m.testBit l=true↔p l)):m=m6 p:=
 zcM fun l=>⟨fun e=>⟨zd2 h e,(hb l (zd2 h e)).1 e⟩,fun e=>(hb l e.1).2 e.2⟩
def zaG (l:List Nat) (i:Nat):Nat:=l.getD i 0
theorem zbI {l:List Nat} {i:Nat} (h:i<l.length):l[i]=zaG l i:=by unfold zaG;rw [List.getD_eq_getElem?_getD,List.getElem?_eq_getElem h];rfl
theorem zc8 {l:List Nat} {i j v:Nat} (hi:i<l.length):zaG (l.set i v) j=if i=j then v else zaG l j:=by
 unfold zaG
 rw [List.getD_eq_getElem?_getD,List.getD_eq_getElem?_getD,List.getElem?_set]
 by_cases h:i=j
 · subst h;simp [hi]
 simp [h]
theorem zj8:∀ {l:List Nat} {i v:Nat},i<l.length→(l.set i v).sum+zaG l i=l.sum+v
 | x :: l,0,v,_=>by simp [zaG];omega
 | x :: l,i+1,v,h=>by
   have:=zj8 (l:=l) (i:=i) (v:=v) (by simpa using h)
   simp only [zaG,List.set_cons_succ,List.sum_cons,List.getD_cons_succ] at this ⊢
   omega
theorem ze7 (l:List Nat) (i v:Nat):zaF (l.set i v)=(zaF l).set i (v:Int):=by simp [zaF,List.map_set]
theorem sum_le {l:List Nat} {b:Nat} (h:∀ x∈l,x≤b):l.sum≤l.length*b:=by
 induction l with
 | nil=>simp
 | cons x l ih=>
   have h1:=ih fun y hy=>h y (by simp [hy])
   have h2:=h x (by simp)
   rw [List.sum_cons,List.length_cons,Nat.add_mul];omega
theorem zoh {l:List Nat} {i:Nat} (h:i<l.length):zaG l i∈l:=by rw [←zbI h];exact List.getElem_mem h
theorem zbu {l:List Nat} {i:Nat} (h:i<(zaF l).length):(zaF l)[i]=(zaG l i:Int):=by rw [zaY,zbI]
def eN (c:DCode) (p:Nat):Nat:=(en c p).toNat
def zN (c:DCode) (p:Nat):Nat:=(zcB c p-1).toNat
def agN (c:DCode) (i:Nat):Nat:=(zaj c i).arg.toNat
theorem zfF {c:DCode} (hc:CodeR c) {p:Nat} (hp:p<c.entry.length):en c p=(eN c p:Int)∧eN c p<c.ins.length∧zaC c (eN c p)=p:=by
 have h:=zmP hc hp
 unfold eN
 rw [Int.toNat_of_nonneg h.1]
 exact ⟨rfl,by omega,h.2.2⟩
theorem zoi {c:DCode} (hc:CodeR c) {p:Nat} (hp:p<c.entry.length):zcB c p=(zN c p:Int)+1∧eN c p≤zN c p∧zN c p<c.ins.length:=by
 have h1:=hc.f.lt p hp
 have h2:=hc.f.nonneg hp
 have h4:=hc.f.lt p hp
 have h5:zcB c p≤c.ins.length:=h4.2
 unfold zN eN
 omega
theorem zgC {c:DCode} (hc:CodeR c) {p i:Nat} (hp:p<c.entry.length) (h:zbJ c p i):i<c.ins.length∧zaC c i=p:=by
 have he:=zfF hc hp
 rcases h with rfl | h
 · exact ⟨he.2.1,he.2.2⟩
 refine h.keeps (p:=fun i=>i<c.ins.length∧zaC c i=p) ⟨he.2.1,he.2.2⟩ fun i j hi hj=>?_
 have:=zcF hc hi.1 hj
 exact ⟨this.1,this.2.trans hi.2⟩
theorem zmT {c:DCode} {p i j:Nat} (h:zbJ c p i) (hj:j∈zaz c i):zbJ c p j:=by
 rcases h with rfl | h
 · exact .inr (.one hj)
 exact .inr (.more h hj)
theorem zpz {c:DCode} (hc:CodeR c) {p i:Nat} (hi:i<c.ins.length) (hp:p<c.entry.length) (h:zaC c i=p):eN c p≤i∧i≤zN c p:=by
 obtain ⟨q,hq,h1,h2,h3⟩:=hc.f.find hc.1.procs8.2 (a:=(i:Int)) (by omega) (by omega)
 have:q=p:=by omega
 subst this
 have h4:=zoi hc hp
 have h5:=zfF hc hp
 omega
theorem zpA {c:DCode} (hc:CodeR c) {p i:Nat} (hp:p<c.entry.length) (h1:eN c p≤i) (h2:i≤zN c p):zaC c i=p:=by
 have h4:=zoi hc hp
 have h5:=zfF hc hp
 exact hc.f.proc hp (by omega) (by omega)
theorem zd3 {c:DCode} (hc:CodeR c) {i:Nat} (hi:i<c.ins.length) (ho:(zaj c i).op=4∨(zaj c i).op=5):(zaj c i).arg=(agN c i:Int)∧agN c i<c.procs.length:=by
 have harg:=(ze6 hc hi).2.1
 unfold zbG at harg
 rw [if_neg (by omega),if_pos (by omega)] at harg
 unfold agN
 omega
theorem zcU {c:DCode} (hc:CodeR c) {i:Nat} (hi:i<c.ins.length) (ho:(zaj c i).op=6∨(zaj c i).op=7):(zaj c i).arg=(agN c i:Int)∧agN c i<c.locks.length∧agN c i<6:=by
 have h:=zoa hc hi ho
 have h6:=hc.1.locks6
 unfold agN
 omega
def zqy (c:DCode) (K G:Nat→Nat→Prop) (i l:Nat):Prop:=((zaj c i).op=7∧agN c i=l)∨((zaj c i).op=4∧¬K (agN c i) l∧¬G (agN c i) l)
def zoj (c:DCode) (G:Nat→Nat→Prop) (i l:Nat):Prop:=¬((zaj c i).op=6∧agN c i=l)∧¬((zaj c i).op=4∧G (agN c i) l)
inductive LostP (c:DCode) (K G:Nat→Nat→Prop) (p:Nat) (h:Nat→Prop):Nat→Nat→Prop
 | ent {l:Nat} (h0:¬h l):LostP c K G p h (eN c p) l
 | gen {i j l:Nat} (h0:zbJ c p i) (hj:j∈zaz c i) (h1:zqy c K G i l):LostP c K G p h j l
 | pass {i j l:Nat} (h0:zbJ c p i) (hj:j∈zaz c i) (h1:LostP c K G p h i l) (h2:zoj c G i l):LostP c K G p h j l
theorem LostP.mono {c:DCode} {K K' G G':Nat→Nat→Prop} {p:Nat} {h h':Nat→Prop} (hK:∀ q l,K' q l→K q l) (hG:∀ q l,G' q l→G q l) (hh:∀ l,h' l→h l) {i l:Nat} (hl:LostP c K G p h i l):LostP c K' G' p h' i l:=by
 induction hl with
 | ent h0=>exact .ent fun e=>h0 (hh _ e)
 | gen h0 hj h1=>exact .gen h0 hj (h1.imp id fun ⟨a,b,d⟩=>⟨a,fun e=>b (hK _ _ e),fun e=>d (hG _ _ e)⟩)
 | pass h0 hj _ h2 ih=>exact .pass h0 hj ih ⟨h2.1,fun ⟨a,b⟩=>h2.2 ⟨a,hG _ _ b⟩⟩
abbrev Tab:=List (Nat×Nat)
def tbl (T:Tab) (q:Nat):Nat×Nat:=T.getD q (0,0)
def tK (T:Tab) (q l:Nat):Prop:=(tbl T q).1.testBit l=true
def tG (T:Tab) (q l:Nat):Prop:=(tbl T q).2.testBit l=true
def aft (c:DCode) (T:Tab) (i m:Nat):Nat:=
 if (zaj c i).op=6 then m ||| 2^agN c i else if (zaj c i).op=7 then zhM m (2^agN c i) else if (zaj c i).op=4 then (m &&& (tbl T (agN c i)).1) ||| (tbl T (agN c i)).2 else m
theorem zpB {c:DCode} {T:Tab} {i m l:Nat}:(aft c T i m).testBit l=false↔zqy c (tK T) (tG T) i l∨(zoj c (tG T) i l∧m.testBit l=false):=by
 unfold aft zqy zoj tK tG
 split
 · rename_i h
   rw [Nat.testBit_or,Nat.testBit_two_pow]
   have e6:((zaj c i).op=6)=True:=eq_true h
   have e4:((zaj c i).op=4)=False:=eq_false (by omega)
   have e7:((zaj c i).op=7)=False:=eq_false (by omega)
   simp only [e6,e4,e7,true_and,false_and,false_or,or_false,not_false_eq_true,and_true,Bool.or_eq_false_iff,decide_eq_false_iff_not]
   exact ⟨fun ⟨a,b⟩=>⟨b,a⟩,fun ⟨a,b⟩=>⟨b,a⟩⟩
 rename_i h6
 have e6:((zaj c i).op=6)=False:=eq_false h6
 split
 · rename_i h
   have e7:((zaj c i).op=7)=True:=eq_true h
   have e4:((zaj c i).op=4)=False:=eq_false (by omega)
   rw [zce,Nat.testBit_two_pow]
   simp only [e6,e4,e7,true_and,false_and,false_or,or_false,not_false_eq_true,and_true,Bool.and_eq_false_iff,Bool.not_eq_false',decide_eq_true_eq]
   exact ⟨fun h=>h.elim .inr .inl,fun h=>h.elim .inr .inl⟩
 rename_i h7
 have e7:((zaj c i).op=7)=False:=eq_false h7
 split
 · rename_i h
   have e4:((zaj c i).op=4)=True:=eq_true h
   rw [Nat.testBit_or,Nat.testBit_and]
   simp only [e6,e4,e7,true_and,false_and,false_or,not_false_eq_true]
   cases (tbl T (agN c i)).1.testBit l<;>cases (tbl T (agN c i)).2.testBit l<;>cases m.testBit l<;>simp
 rename_i h4
 simp [h6,h7,h4]
noncomputable def zqN (c:DCode) (T:Tab) (p h:Nat):List Nat:=(List.range c.ins.length).map fun i=>m6 fun l=>¬LostP c (tK T) (tG T) p (fun l=>h.testBit l=true) i l
def FromP (c:DCode) (p q:Nat):Prop:=q=p∨RP (zi8 c) p q
theorem FromP.lt {c:DCode} {p q:Nat} (hp:p<c.procs.length) (h:FromP c p q):q<c.procs.length:=by
 rcases h with rfl | h
 · exact hp
 exact h.keeps (p:=fun i=>i<c.procs.length) hp fun i j _ hj=>(za1.1 hj).1
theorem FromP.trans {c:DCode} {p q r:Nat} (h:FromP c p q) (k:FromP c q r):FromP c p r:=by
 rcases h with rfl | h
 · exact k
 rcases k with rfl | k
 · exact .inr h
 exact .inr (h.trans k)
theorem FromP.call {c:DCode} {p q r:Nat} (h:FromP c p q) (hr:r<c.procs.length) (k:zjz c q 4 r):FromP c p r:=h.trans (.inr (.one (za1.2 ⟨hr,k⟩)))
noncomputable def zrb (c:DCode) (T:Tab) (p:Nat):Nat:=zaG (zqN c T p 0) (zN c p)
def zfG (c:DCode):Nat:=(plc zg0 c.procs).toNat
inductive RootP (c:DCode):Nat→Prop
 | main:RootP c (zfG c)
 | spawn {r p q:Nat} (h0:RootP c r) (h1:FromP c r p) (h2:zjz c p 5 q) (hq:q<c.procs.length):RootP c q
def UsedP (c:DCode) (p:Nat):Prop:=∃ r,RootP c r∧FromP c r p
theorem ze8 {c:DCode} (hc:CodeR c):plc zg0 c.procs=(zfG c:Int)∧zfG c<c.procs.length:=by
 have h:=zpv hc
 have h2:=hc.2.1.1
 unfold zfG
 omega
theorem RootP.lt {c:DCode} (hc:CodeR c) {r:Nat} (h:RootP c r):r<c.procs.length:=by
 cases h with
 | main=>exact (ze8 hc).2
 | spawn _ _ _ hq=>exact hq
theorem UsedP.lt {c:DCode} (hc:CodeR c) {p:Nat} (h:UsedP c p):p<c.procs.length:=by
 obtain ⟨r,h1,h2⟩:=h
 exact h2.lt (h1.lt hc)
theorem zeG {l:List Nat} (h:∀ x∈l,x<64) (i:Nat):zaG l i<64:=by
 rcases Nat.lt_or_ge i l.length with hi | hi
 · exact h _ (zoh hi)
 unfold zaG;rw [List.getD_eq_getElem?_getD,List.getElem?_eq_none hi];simp
inductive MetP (c:DCode):Nat→Prop
 | root {p:Nat} (h:RootP c p):MetP c (eN c p)
 | call {i:Nat} (h:MetP c i) (ho:(zaj c i).op=4):MetP c (eN c (agN c i))
 | next {i j:Nat} (h:MetP c i) (ho:¬(zaj c i).op=4) (hj:j∈zaz c i):MetP c j
 | back {i j:Nat} (h:MetP c i) (ho:(zaj c i).op=4) (hz:MetP c (zN c (agN c i))) (hj:j∈zaz c i):MetP c j
theorem MetP.lt {c:DCode} (hc:CodeR c) {i:Nat} (h:MetP c i):i<c.ins.length:=by
 induction h with
 | root h=>exact (zfF hc (by rw [hc.2.1.1];exact h.lt hc)).2.1
 | call _ ho ih=>exact (zfF hc (by rw [hc.2.1.1];exact (zd3 hc ih (.inl ho)).2)).2.1
 | next _ _ hj ih=>exact (zcF hc ih hj).1
 | back _ _ _ hj ih _=>exact (zcF hc ih hj).1
inductive MayP (c:DCode):Nat→Nat→Prop
 | lock {i j l:Nat} (h:MetP c i) (ho:(zaj c i).op=6) (ha:agN c i=l) (hj:j∈zaz c i):MayP c j l
 | pass {i j l:Nat} (h:MetP c i) (ho:¬(zaj c i).op=4) (ha:¬((zaj c i).op=7∧agN c i=l)) (hm:MayP c i l) (hj:j∈zaz c i):MayP c j l
 | call {i l:Nat} (h:MetP c i) (ho:(zaj c i).op=4) (hm:MayP c i l):MayP c (eN c (agN c i)) l
 | back {i j l:Nat} (h:MetP c i) (ho:(zaj c i).op=4) (hz:MetP c (zN c (agN c i))) (hm:MayP c (zN c (agN c i)) l) (hj:j∈zaz c i):MayP c j l
noncomputable def zfd (c:DCode):List Bool:=zb0 c.ins.length (MetP c)
noncomputable def zi9 (c:DCode):List Nat:=(List.range c.ins.length).map fun i=>m6 (MayP c i)
theorem zfO (c:DCode):(zi9 c).length=c.ins.length:=by simp [zi9]
theorem zj9 {c:DCode} {i:Nat} (hi:i<c.ins.length):zaG (zi9 c) i=m6 (MayP c i):=by rw [←zbI (by rw [zfO];exact hi)];simp [zi9]
theorem zmU (c:DCode):∀ x∈zi9 c,x<64:=fun x hx=>by
 obtain ⟨i,_,rfl⟩:=List.mem_map.1 hx
 exact zqm
structure MetC (c:DCode) (M:Nat→Prop):Prop where
 root:∀ p,RootP c p→M (eN c p)
 call:∀ i,M i→(zaj c i).op=4→M (eN c (agN c i))
 next:∀ i j,M i→¬(zaj c i).op=4→j∈zaz c i→M j
 back:∀ i j,M i→(zaj c i).op=4→M (zN c (agN c i))→j∈zaz c i→M j
theorem MetC.all {c:DCode} {M:Nat→Prop} (h:MetC c M) {i:Nat} (k:MetP c i):M i:=by
 induction k with
 | root h1=>exact h.root _ h1
 | call _ ho ih=>exact h.call _ ih ho
 | next _ ho hj ih=>exact h.next _ _ ih ho hj
 | back _ ho _ hj ih1 ih2=>exact h.back _ _ ih1 ho ih2 hj
structure MayC (c:DCode) (H:Nat→Nat→Prop):Prop where
 lock:∀ i j,MetP c i→(zaj c i).op=6→j∈zaz c i→H j (agN c i)
 pass:∀ i j l,MetP c i→l<6→¬(zaj c i).op=4→¬((zaj c i).op=7∧agN c i=l)→H i l→j∈zaz c i→H j l
 call:∀ i l,MetP c i→l<6→(zaj c i).op=4→H i l→H (eN c (agN c i)) l
 back:∀ i j l,MetP c i→l<6→(zaj c i).op=4→MetP c (zN c (agN c i))→H (zN c (agN c i)) l→j∈zaz c i→H j l
theorem MayC.all {c:DCode} {H:Nat→Nat→Prop} (h:MayC c H) {i l:Nat} (hl:l<6) (k:MayP c i l):H i l:=by
 induction k with
 | lock hm ho ha hj=>exact ha▸h.lock _ _ hm ho hj
 | pass hm ho ha _ hj ih=>exact h.pass _ _ _ hm hl ho ha (ih hl) hj
 | call hm ho _ ih=>exact h.call _ _ hm hl ho (ih hl)
 | back hm ho hz _ hj ih=>exact h.back _ _ _ hm hl ho hz (ih hl) hj
end Go.Proofs.YtifonhplnmpgaaaGreat
namespace Go.Proofs.YtifonhplnmpgaaaGreat
open Go.Shelf
def Tryz.sortOrder_ren:Go.Shelf.Ren:=⟨fun | 6=>88 | 15=>142 | 14=>146 | 28=>195 | 29=>196 | 20=>197 | 21=>198 | 22=>199 | 23=>200 | 24=>201 | 25=>202 | 26=>203 | 27=>204 | 46=>229 | 47=>225 | 48=>226 | 49=>230 | 50=>231 | 57=>256 | n=>n,fun | 22=>72 | 24=>104 | 25=>126 | 3=>3 | 39=>121 | 0=>0 | 53=>196 | 55=>120 | 4=>4 | 46=>189 | 45=>188 | 50=>193 | 5=>5 | 9=>9 | 66=>215 | 70=>219 | 76=>237 | 77=>238 | n=>n,fun | n=>n⟩
theorem Tryz.sortOrder:SlLaysF0.n6 Tryz.prog Tryz.sortOrder_ren:={
 mixed:=by kernel_rfl,
 f6:=⟨Tryz.f88.name,by kernel_rfl,Tryz.func88.trans (congrArg some (by kernel_rfl))⟩,
 f14:=⟨Tryz.f146.name,by kernel_rfl,Tryz.func146.trans (congrArg some (by kernel_rfl))⟩,
 f15:=Tryz.func142.trans (congrArg some (by kernel_rfl)),
 f20:=⟨Tryz.f197.name,by kernel_rfl,Tryz.func197.trans (congrArg some (by kernel_rfl))⟩,
 f21:=⟨Tryz.f198.name,by kernel_rfl,Tryz.func198.trans (congrArg some (by kernel_rfl))⟩,
 f22:=⟨Tryz.f199.name,by kernel_rfl,Tryz.func199.trans (congrArg some (by kernel_rfl))⟩,
 f23:=⟨Tryz.f200.name,by kernel_rfl,Tryz.func200.trans (congrArg some (by kernel_rfl))⟩,
 f24:=⟨Tryz.f201.name,by kernel_rfl,Tryz.func201.trans (congrArg some (by kernel_rfl))⟩,
 f25:=⟨Tryz.f202.name,by kernel_rfl,Tryz.func202.trans (congrArg some (by kernel_rfl))⟩,
 f26:=⟨Tryz.f203.name,by kernel_rfl,Tryz.func203.trans (congrArg some (by kernel_rfl))⟩,
 f27:=⟨Tryz.f204.name,by kernel_rfl,Tryz.func204.trans (congrArg some (by kernel_rfl))⟩,
 f28:=Tryz.func195.trans (congrArg some (by kernel_rfl)),
 f29:=Tryz.func196.trans (congrArg some (by kernel_rfl)),
 f46:=⟨Tryz.f229.name,by kernel_rfl,Tryz.func229.trans (congrArg some (by kernel_rfl))⟩,
 f47:=Tryz.func225.trans (congrArg some (by kernel_rfl)),
 f48:=Tryz.func226.trans (congrArg some (by kernel_rfl)),
 f49:=⟨Tryz.f230.name,by kernel_rfl,Tryz.func230.trans (congrArg some (by kernel_rfl))⟩,
 f50:=⟨Tryz.f231.name,by kernel_rfl,Tryz.func231.trans (congrArg some (by kernel_rfl))⟩,
 f57:=⟨Tryz.f256.name,by kernel_rfl,Tryz.func256.trans (congrArg some (by kernel_rfl))⟩,
 t0:=Tryz.underlying0,
 a0:=Tryz.isAgg0,
 z0:=Tryz.sizeOf0,
 v0:=Tryz.zeroValue0,
 t3:=Tryz.underlying3,
 a3:=Tryz.isAgg3,
 z3:=Tryz.sizeOf3,
 v3:=Tryz.zeroValue3,
 t4:=Tryz.underlying4,
 a4:=Tryz.isAgg4,
 z4:=Tryz.sizeOf4,
 v4:=Tryz.zeroValue4,
 t5:=Tryz.underlying5,
 a5:=Tryz.isAgg5,
 z5:=Tryz.sizeOf5,
 v5:=Tryz.zeroValue5,
 t9:=Tryz.underlying9,
 a9:=Tryz.isAgg9,
 z9:=Tryz.sizeOf9,
 v9:=Tryz.zeroValue9,
 t22:=Tryz.underlying72,
 a22:=Tryz.isAgg72,
 z22:=Tryz.sizeOf72,
 v22:=Tryz.zeroValue72,
 t25:=Tryz.underlying126,
 a25:=Tryz.isAgg126,
 z25:=Tryz.sizeOf126,
 v25:=Tryz.zeroValue126,
 t39:=Tryz.underlying121,
 a39:=Tryz.isAgg121,
 z39:=Tryz.sizeOf121,
 v39:=Tryz.zeroValue121,
 t45:=Tryz.underlying188,
 a45:=Tryz.isAgg188,
 z45:=Tryz.sizeOf188,
 v45:=Tryz.zeroValue188,
 t46:=Tryz.underlying189,
 a46:=Tryz.isAgg189,
 z46:=Tryz.sizeOf189,
 v46:=Tryz.zeroValue189,
 t50:=Tryz.underlying193,
 a50:=Tryz.isAgg193,
 z50:=Tryz.sizeOf193,
 v50:=Tryz.zeroValue193,
 t53:=Tryz.underlying196,
 a53:=Tryz.isAgg196,
 z53:=Tryz.sizeOf196,
 v53:=Tryz.zeroValue196,
 t55:=Tryz.underlying120,
 a55:=Tryz.isAgg120,
 z55:=Tryz.sizeOf120,
 v55:=Tryz.zeroValue120,
 t66:=Tryz.underlying215,
 a66:=Tryz.isAgg215,
 z66:=Tryz.sizeOf215,
 v66:=Tryz.zeroValue215,
 t70:=Tryz.underlying219,
 a70:=Tryz.isAgg219,
 z70:=Tryz.sizeOf219,
 v70:=Tryz.zeroValue219,
 t76:=Tryz.underlying237,
 a76:=Tryz.isAgg237,
 z76:=Tryz.sizeOf237,
 v76:=Tryz.zeroValue237,
 t77:=Tryz.underlying238,
 a77:=Tryz.isAgg238,
 z77:=Tryz.sizeOf238,
 v77:=Tryz.zeroValue238 }
def Tryz.sortInts_ren:Go.Shelf.Ren:=⟨fun | 6=>82 | 15=>142 | 14=>141 | 28=>195 | 29=>196 | 20=>187 | 21=>188 | 22=>189 | 23=>190 | 24=>191 | 25=>192 | 26=>193 | 27=>194 | 46=>224 | 47=>225 | 48=>226 | 49=>227 | 50=>228 | 57=>255 | n=>n,fun | 22=>39 | 24=>23 | 25=>117 | 3=>3 | 39=>121 | 0=>0 | 53=>196 | 55=>120 | 4=>4 | 46=>189 | 45=>188 | 50=>193 | 5=>5 | 9=>9 | 66=>215 | 70=>219 | 76=>237 | 77=>238 | n=>n,fun | n=>n⟩
theorem Tryz.sortInts:SlLaysF.n6 Tryz.prog Tryz.sortInts_ren:={
 mixed:=by kernel_rfl,
 f6:=⟨Tryz.f82.name,by kernel_rfl,Tryz.func82.trans (congrArg some (by kernel_rfl))⟩,
 f14:=⟨Tryz.f141.name,by kernel_rfl,Tryz.func141.trans (congrArg some (by kernel_rfl))⟩,
 f15:=Tryz.func142.trans (congrArg some (by kernel_rfl)),
 f20:=⟨Tryz.f187.name,by kernel_rfl,Tryz.func187.trans (congrArg some (by kernel_rfl))⟩,
 f21:=⟨Tryz.f188.name,by kernel_rfl,Tryz.func188.trans (congrArg some (by kernel_rfl))⟩,
 f22:=⟨Tryz.f189.name,by kernel_rfl,Tryz.func189.trans (congrArg some (by kernel_rfl))⟩,
 f23:=⟨Tryz.f190.name,by kernel_rfl,Tryz.func190.trans (congrArg some (by kernel_rfl))⟩,
 f24:=⟨Tryz.f191.name,by kernel_rfl,Tryz.func191.trans (congrArg some (by kernel_rfl))⟩,
 f25:=⟨Tryz.f192.name,by kernel_rfl,Tryz.func192.trans (congrArg some (by kernel_rfl))⟩,
 f26:=⟨Tryz.f193.name,by kernel_rfl,Tryz.func193.trans (congrArg some (by kernel_rfl))⟩,
 f27:=⟨Tryz.f194.name,by kernel_rfl,Tryz.func194.trans (congrArg some (by kernel_rfl))⟩,
 f28:=Tryz.func195.trans (congrArg some (by kernel_rfl)),
 f29:=Tryz.func196.trans (congrArg some (by kernel_rfl)),
 f46:=⟨Tryz.f224.name,by kernel_rfl,Tryz.func224.trans (congrArg some (by kernel_rfl))⟩,
 f47:=Tryz.func225.trans (congrArg some (by kernel_rfl)),
 f48:=Tryz.func226.trans (congrArg some (by kernel_rfl)),
 f49:=⟨Tryz.f227.name,by kernel_rfl,Tryz.func227.trans (congrArg some (by kernel_rfl))⟩,
 f50:=⟨Tryz.f228.name,by kernel_rfl,Tryz.func228.trans (congrArg some (by kernel_rfl))⟩,
 f57:=⟨Tryz.f255.name,by kernel_rfl,Tryz.func255.trans (congrArg some (by kernel_rfl))⟩,
 t0:=Tryz.underlying0,
 a0:=Tryz.isAgg0,
 z0:=Tryz.sizeOf0,
 v0:=Tryz.zeroValue0,
 t3:=Tryz.underlying3,
 a3:=Tryz.isAgg3,
 z3:=Tryz.sizeOf3,
 v3:=Tryz.zeroValue3,
 t4:=Tryz.underlying4,
 a4:=Tryz.isAgg4,
 z4:=Tryz.sizeOf4,
 v4:=Tryz.zeroValue4,
 t5:=Tryz.underlying5,
 a5:=Tryz.isAgg5,
 z5:=Tryz.sizeOf5,
 v5:=Tryz.zeroValue5,
 t9:=Tryz.underlying9,
 a9:=Tryz.isAgg9,
 z9:=Tryz.sizeOf9,
 v9:=Tryz.zeroValue9,
 t22:=Tryz.underlying39,
 a22:=Tryz.isAgg39,
 z22:=Tryz.sizeOf39,
 v22:=Tryz.zeroValue39,
 a24:=Tryz.isAgg23,
 z24:=Tryz.sizeOf23,
 t25:=Tryz.underlying117,
 a25:=Tryz.isAgg117,
 z25:=Tryz.sizeOf117,
 v25:=Tryz.zeroValue117,
 t39:=Tryz.underlying121,
 a39:=Tryz.isAgg121,
 z39:=Tryz.sizeOf121,
 v39:=Tryz.zeroValue121,
 t45:=Tryz.underlying188,
 a45:=Tryz.isAgg188,
 z45:=Tryz.sizeOf188,
 v45:=Tryz.zeroValue188,
 t46:=Tryz.underlying189,
 a46:=Tryz.isAgg189,
 z46:=Tryz.sizeOf189,
 v46:=Tryz.zeroValue189,
 t50:=Tryz.underlying193,
 a50:=Tryz.isAgg193,
 z50:=Tryz.sizeOf193,
 v50:=Tryz.zeroValue193,
 t53:=Tryz.underlying196,
 a53:=Tryz.isAgg196,
 z53:=Tryz.sizeOf196,
 v53:=Tryz.zeroValue196,
 t55:=Tryz.underlying120,
 a55:=Tryz.isAgg120,
 z55:=Tryz.sizeOf120,
 v55:=Tryz.zeroValue120,
 t66:=Tryz.underlying215,
 a66:=Tryz.isAgg215,
 z66:=Tryz.sizeOf215,
 v66:=Tryz.zeroValue215,
 t70:=Tryz.underlying219,
 a70:=Tryz.isAgg219,
 z70:=Tryz.sizeOf219,
 v70:=Tryz.zeroValue219,
 t76:=Tryz.underlying237,
 a76:=Tryz.isAgg237,
 z76:=Tryz.sizeOf237,
 v76:=Tryz.zeroValue237,
 t77:=Tryz.underlying238,
 a77:=Tryz.isAgg238,
 z77:=Tryz.sizeOf238,
 v77:=Tryz.zeroValue238 }
end Go.Proofs.YtifonhplnmpgaaaGreat
namespace Go.Sh
open Rep (rep)
open Go.Sort Go.Proofs
section
variable {α:Type} [Inhabited α] {enc:α→List Value} {k:Nat}
theorem flat_len (hk:∀ x,(enc x).length=k):∀ (l:List α),(l.flatMap enc).length=l.length*k
 | []=>by simp
 | x :: l=>by rw [List.flatMap_cons,List.length_append,hk,flat_len hk l,List.length_cons,Nat.add_mul];omega
theorem zkV (hk:∀ x,(enc x).length=k) (h0:0<k):∀ {l:List α} {t:Nat},t<l.length*k→(l.flatMap enc)[t]?=some ((enc l[t / k]!)[t%k]!)
 | [],t,h=>by simp at h
 | x :: l,t,h=>by
   rw [List.flatMap_cons]
   rcases Nat.lt_or_ge t k with ht | ht
   · rw [List.getElem?_append_left (by rw [hk];exact ht),Nat.div_eq_of_lt ht,Nat.mod_eq_of_lt ht]
     have:t<(enc x).length:=by rw [hk];exact ht
     rw [List.getElem?_eq_getElem this]
     simp [this]
   rw [List.getElem?_append_right (by rw [hk];exact ht),hk]
   have h':t-k<l.length*k:=by rw [List.length_cons,Nat.add_mul] at h;omega
   rw [zkV hk h0 h']
   have e1:t / k=(t-k) / k+1:=by
     have:t=(t-k)+k:=by omega
     conv=>lhs;rw [this]
     rw [Nat.add_div_right _ h0]
   have e2:t%k=(t-k)%k:=by
     have:t=(t-k)+k:=by omega
     conv=>lhs;rw [this]
     rw [Nat.add_mod_right]
   rw [e1,e2]
   simp
theorem zja (hk:∀ x,(enc x).length=k) (h0:0<k) {l:List α} {t:Nat} (h:t<l.length*k):(l.flatMap enc)[t]?=some (flatK enc k l.toArray)[t]!:=by
 rw [zkV hk h0 h,get_flatK enc k l.toArray t (by simpa using h)]
 simp
end
section
variable {α:Type} [Rep α] [Flat α] [Inhabited α] {w:World} {enc:α→List Value} {b o n cap:Nat} {l:List α}
theorem zjb (henc:∀ {F w cs} {x:α},rep F w cs x→cs=enc x):∀ {l:List α} {F:List Nat} {xs:List Value},Cells F w xs l→xs=l.flatMap enc
 | [],_,_,⟨_,h⟩=>by simp [h]
 | y :: ys,_,_,⟨F1,F2,c1,c2,_,h,h1,h2⟩=>by rw [h,henc h1,zjb henc h2,List.flatMap_cons]
theorem zjc {w':World} (henc:∀ {F w cs} {x:α},rep F w cs x→cs=enc x):∀ {l:List α},(∀ x∈l,∃ F cs,rep F w cs x)→Cells [] w' (l.flatMap enc) l
 | [],_=>⟨rfl,rfl⟩
 | y :: ys,h=>by
   obtain ⟨F,cs,hr⟩:=h y (by simp)
   have hF:=Flat.flat hr
   subst hF
   have hc:=henc hr
   subst hc
   exact ⟨[],[],enc y,ys.flatMap enc,rfl,rfl,Rep.keep hr (by simp),zjc henc fun x hx=>h x (by simp [hx])⟩
theorem zjd:∀ {l:List α} {F:List Nat} {xs:List Value},Cells F w xs l→∀ x∈l,∃ F cs,rep F w cs x
 | y :: ys,_,_,⟨F1,F2,c1,c2,_,h,h1,h2⟩,x,hx=>by
   rcases List.mem_cons.1 hx with rfl | hx
   · exact ⟨_,_,h1⟩
   exact zjd h2 x hx
theorem zje (henc:∀ {F w cs} {x:α},rep F w cs x→cs=enc x) (hk:∀ x,(enc x).length=Rep.size α) (hw:∃ c e,w.heap[b]?=some (.cells c e (0,0))) {xs:List Value} (hc:Cells [] w xs l) (hr:w.rangeAt b o xs):HoldsK enc (Rep.size α) w b o l.toArray:=by
 intro j hj
 rw [size_flatK] at hj
 have hj':j<l.length*Rep.size α:=by simpa using hj
 have:=zjb henc hc
 subst this
 have h1:=hr j _ (zja hk Rep.pos hj')
 refine ⟨h1,?_⟩
 obtain ⟨c,e,he⟩:=hw
 simp [World.frozen?,he]
theorem zka (henc:∀ {F w cs} {x:α},rep F w cs x→cs=enc x) (hk:∀ x,(enc x).length=Rep.size α) {d':Array α} {m:Nat} {os:Array Obj} {w3:World} (hw3:w3=sortWorldK enc (Rep.size α) w b o m d' os) (hw:∃ c e,w.heap[b]?=some (.cells c e (0,0))) {xs:List Value} (hc:Cells [] w xs l) (hr:w.rangeAt b o xs)
   (h1:l.length≤cap) (h2:cap≤maxLen) (hl:d'.size=l.length) (hp:∀ x∈d'.toList,x∈l):Chg [b] w w3∧Mine [b] w3 (.slice (some ⟨b,o,none⟩) l.length cap) d'.toList:=by
 subst hw3
 have hH:=zje henc hk hw hc hr
 obtain ⟨c,e,he⟩:=hw
 have hb:b<w.heap.size:=(Array.getElem?_eq_some_iff.1 he).1
 have hsz:(putRowK enc (Rep.size α) (Sort.ahead w m) b o d').heap.size=w.heap.size:=by simp [putRowK,putRow,mapBlock,Sort.ahead]
 have hblk:∀ i,i<w.heap.size→i≠b→(sortWorldK enc (Rep.size α) w b o m d' os).heap[i]?=w.heap[i]?:=fun i hi hne=>by
   unfold sortWorldK
   rw [heap_grow_old _ _ (by rw [hsz];exact hi)]
   simp [putRowK,putRow,mapBlock,Sort.ahead,Array.getElem?_modify,hne.symm]
 have hbb:∃ c',(sortWorldK enc (Rep.size α) w b o m d' os).heap[b]?=some (.cells c' e (0,0)):=by
   unfold sortWorldK
   rw [heap_grow_old _ _ (by rw [hsz];exact hb)]
   exact ⟨_,by simp [putRowK,putRow,mapBlock,Sort.ahead,Array.getElem?_modify,he,onCells];rfl⟩
 have hsz2:w.heap.size≤(sortWorldK enc (Rep.size α) w b o m d' os).heap.size:=by
   unfold sortWorldK grow
   rw [Array.size_append,hsz];omega
 refine ⟨⟨rfl,rfl,rfl,hsz2,fun i hi hm=>hblk i hi fun e=>hm (by simp [e])⟩,⟨⟨_,⟨some ⟨b,o,none⟩,cap,[],d'.toList.flatMap enc,rfl,by simpa [hl] using h1,h2,?_,.inr ⟨b,o,rfl,rfl,?_,by omega⟩⟩,by simp [mkv,Rep.agg,hl]⟩,by simp,fun i hi=>?_⟩⟩
 · exact zjc (w:=w) henc fun x hx=>zjd hc x (hp x hx)
 · intro j v hv
   have hj:j<d'.toList.length*Rep.size α:=by
     have:=(List.getElem?_eq_some_iff.1 hv).1
     rwa [flat_len hk] at this
   rw [zja hk Rep.pos hj,Option.some.injEq] at hv
   have hj2:j<(flatK enc (Rep.size α) d').size:=by rw [size_flatK];simpa using hj
   have:=cell?_putRow id (Sort.ahead w m) b o (flatK enc (Rep.size α) l.toArray) (flatK enc (Rep.size α) d') hH (by simp [hl]) j hj2
   unfold sortWorldK
   rw [cell?_grow _ _ _ (by rw [hsz];exact hb)]
   show (putRow id (Sort.ahead w m) b o (flatK enc (Rep.size α) d')).cell? _=_
   rw [this,←hv]
   simp
 simp only [List.mem_cons,List.not_mem_nil,or_false] at hi
 subst hi
 obtain ⟨c',hc'⟩:=hbb
 exact ⟨c',e,hc'⟩
end
end Go.Sh
namespace Go.Proofs.YtifonhplnmpgaaaGreat
open Go Go.Sh Go.Proofs
open Rep (rep)
def F205 (a0:Value) (w:World) (R:VW):Prop:=
 rB .neq 3 T0 T0 a0 a0 w fun x5=>
 R x5 w
def cfg205:Cfg:=⟨extL,[],[],[],[],[],[]⟩
theorem F205_call {a0:Value} {w:World} {R:VW} (h:F205 a0 w R):cL 205 [a0] w R:=co (g:=cfg205) Tryz.func205 (by kernel_rfl) (by kernel_rfl) (by kernel_rfl) h
def F147 (a0 a1:Value) (w:World) (R:VW):Prop:=
 cL 205 [a0] w fun x8 w=>
 cL 205 [a1] w fun x10 w=>
 BR x8
 (BR x10
 (R (iV 0) w)
 (R (iV (-1)) w))
 (BR x10
 (R (iV 1) w)
 (rC a0 a1 w fun x16=>
 BR x16
 (R (iV (-1)) w)
 (rB .gtr 3 T0 T0 a0 a1 w fun x19=>
 BR x19
 (R (iV 1) w)
 (R (iV 0) w))))
def cfg147:Cfg:=⟨extL,[],[],[],[],[],[]⟩
theorem F147_call {a0 a1:Value} {w:World} {R:VW} (h:F147 a0 a1 w R):cL 147 [a0,a1] w R:=co (g:=cfg147) Tryz.func147 (by kernel_rfl) (by kernel_rfl) (by kernel_rfl) h
def F90 (a0 a1:Value) (w:World) (R:VW):Prop:=
 rN 23 3 a0 w fun x10=>
 LOOPI [11] [(iV 0)] w fun u2 w next2=>
 rC (u2 11) x10 w fun x12=>
 BR x12
 (rX 23 a0 (u2 11) w fun x14=>
 rL 3 x14 w fun x15=>
 rN 23 3 a1 w fun x18=>
 rB .geq 3 T0 T0 (u2 11) x18 w fun x19=>
 BR x19
 (R (iV 1) w)
 (rX 23 a1 (u2 11) w fun x22=>
 rL 3 x22 w fun x23=>
 cL 147 [x15,x23] w fun x26 w=>
 rB .neq 3 T0 U0 x26 (iV 0) w fun x28=>
 BR x28
 (R x26 w)
 (rA (u2 11) (iV 1) w fun x30=>
 next2 [x30] w)))
 (rN 23 3 a0 w fun x32=>
 rN 23 3 a1 w fun x34=>
 rC x32 x34 w fun x35=>
 BR x35
 (R (iV (-1)) w)
 (R (iV 0) w))
def cfg90:Cfg:=⟨extL,[],[(2,2147482096,[11])],[],[],[],[]⟩
theorem F90_call {a0 a1:Value} {w:World} {R:VW} (h:F90 a0 a1 w R):cL 90 [a0,a1] w R:=co (g:=cfg90) Tryz.func90 (by kernel_rfl) (by kernel_rfl) (by kernel_rfl) h
theorem zqY:zcj Tryz.prog 3=some [.int .i64 0]:=by kernel_rfl
def zkW (x y:Int):Int:=if x<y then -1 else if y<x then 1 else 0
def zok:List Int→List Int→Int
 | [],[]=>0
 | [],_ :: _=>-1
 | _ :: _,[]=>1
 | x :: l,y :: m=>if zkW x y≠0 then zkW x y else zok l m
theorem isNaN_ok {w:World} {x:Int}:CALL Tryz.prog 205 [.int .i64 x] w fun r w'=>w'=w∧r=.bool false:=by
 refine F205_call ?_
 unfold F205
 exact zaI ⟨rfl,by simp⟩
theorem compareI_ok {w:World} {x y:Int}:CALL Tryz.prog 147 [.int .i64 x,.int .i64 y] w fun r w'=>w'=w∧r=.int .i64 (zkW x y):=by
 refine F147_call ?_
 unfold F147
 refine isNaN_ok.mono ?_
 rintro _ _ ⟨rfl,rfl⟩
 refine isNaN_ok.mono ?_
 rintro _ _ ⟨rfl,rfl⟩
 refine zb8 (fun h=>by cases h) (fun _=>?_)
 refine zb8 (fun h=>by cases h) (fun _=>?_)
 refine zah ?_
 refine br (fun h=>⟨rfl,by rw [zkW,if_pos h]⟩) (fun h=>?_)
 refine zb9 ?_
 refine br (fun h2=>⟨rfl,by rw [zkW,if_neg h,if_pos h2]⟩) (fun h2=>⟨rfl,by rw [zkW,if_neg h,if_neg h2]⟩)
theorem zh8 {P:Program} {w:World} {K:Value→Prop} {t ty e:TypeId} {a:Option Addr} {n c:Nat} (ht:P.underlying t=some (.slice e)) (k:K (.int .i64 (n:Int))) :
   RD P (Builtin.len_ #[t] ty [Value.slice a n c].toArray) w K:=zaQ (fun w' _=>by simp [Builtin.len_,run_underlying ht];rfl) k
def vI (l:List Int):List Value:=l.map fun x=>.int .i64 x
theorem zoZ {l:List Int} {k:Nat} (h:k<l.length):(vI l)[k]?=some (.int .i64 l[k]):=by simp [vI,h]
theorem zmV {l m:List Int} {k:Nat} (h1:k<l.length) (h2:k<m.length):zok (l.drop k) (m.drop k)=if zkW l[k] m[k]≠0 then zkW l[k] m[k] else zok (l.drop (k+1)) (m.drop (k+1)):=by
 rw [List.drop_eq_getElem_cons h1,List.drop_eq_getElem_cons h2,zok]
theorem zkb {w:World} {g1 g2 e1 e2 c1 c2:Nat} {l m:List Int} (h1:Blk g1 e1 w (vI l)) (h2:Blk g2 e2 w (vI m)) (hl:l.length≤1000) (hm:m.length≤1000) :
   CALL Tryz.prog 90 [.slice (some ⟨g1,0,none⟩) l.length c1,.slice (some ⟨g2,0,none⟩) m.length c2] w fun r w'=>w'=w∧r=.int .i64 (zok l m):=by
 refine F90_call ?_
 unfold F90
 refine zh8 u23 ?_
 refine zaq l.length (fun k us w'=>us=[.int .i64 (k:Int)]∧w'=w∧k≤m.length∧zok l m=zok (l.drop k) (m.drop k)) 0 (Nat.zero_le _) ⟨rfl,rfl,Nat.zero_le _,rfl⟩ ?_
 rintro k mk u w2 hkm ⟨hu,rfl,hkl,hc⟩
 simp only [List.map_cons,List.map_nil,List.cons.injEq,and_true] at hu
 rw [hu]
 refine zah ?_
 refine br (fun hlt=>?_) (fun hge=>?_)
 · have hk1:k<l.length:=by omega
   refine zcL u23 ty3 hk1 ?_
   rw [Nat.mul_one]
   refine zap ty3 h1 (zoZ hk1) ?_
   refine zh8 u23 ?_
   refine zbY ?_
   refine br (fun hge=>?_) (fun hlt2=>?_)
   · refine ⟨rfl,?_⟩
     have e0:m.drop k=[]:=List.drop_eq_nil_of_le (by omega)
     rw [hc,List.drop_eq_getElem_cons hk1,e0];rfl
   have hk2:k<m.length:=by omega
   refine zcL u23 ty3 hk2 ?_
   rw [Nat.mul_one]
   refine zap ty3 h2 (zoZ hk2) ?_
   refine compareI_ok.mono ?_
   rintro _ _ ⟨rfl,rfl⟩
   have hst:=zmV hk1 hk2
   refine zaI ?_
   refine br (fun hne=>?_) (fun heq=>?_)
   · exact ⟨rfl,by rw [hc,hst,if_pos hne]⟩
   refine zaf (by omega) ?_
   exact ⟨mk-1,by omega,k+1,by omega,rfl,rfl,by omega,by rw [hc,hst,if_neg heq]⟩
 have hk:k=l.length:=by omega
 subst hk
 refine zh8 u23 ?_
 refine zh8 u23 ?_
 refine zah ?_
 rw [List.drop_length] at hc
 refine br (fun hlt2=>⟨rfl,?_⟩) (fun hge2=>⟨rfl,?_⟩)
 · rw [hc,List.drop_eq_getElem_cons (by omega)];rfl
 rw [hc,List.drop_eq_nil_of_le (by omega)];rfl
section
variable {P:Program} {w:World} {K:Value→World→Prop}
theorem zmW {t:TypeId} {cs:Array Value} (k:K (.pointer (some ⟨w.heap.size,0,none⟩)) (w.alloc (.cells cs t))):OP P (Instr.box t (.agg cs)) w K:=
 ⟨_,w.alloc (.cells cs t),by simp [Instr.box,newVar,newRow,Value.cells],k⟩
theorem zhm {t e:TypeId} {by_:Nat} {x y z:Int} (ht:P.underlying t=some (.slice e)) (he:tyI P e=some (1,by_,false)) (hz:zcj P e=some [.int .i64 0])
   (k:K (.slice (some ⟨w.heap.size,0,none⟩) 3 3) (w.alloc (.cells (vI [x,y,z]).toArray e))):OP P (Instr.buildSlice t 3 #[(0,.int .i64 x),(1,.int .i64 y),(2,.int .i64 z)]) w K:=by
 unfold zcj at hz
 cases hi:P.info? e with
 | none=>simp [hi] at hz
 | some i=>
   simp only [hi] at hz
   obtain ⟨v,hv,hvc⟩:=Option.map_eq_some_iff.1 hz
   refine ⟨_,w.alloc (.cells (vI [x,y,z]).toArray e),?_,k⟩
   have hvc':v.cells=#[.int .i64 0]:=Array.ext' (by simpa using hvc)
   have e1:∀ n:Int,(Value.int .i64 n).cells=#[.int .i64 n]:=fun _=>rfl
   simp only [Instr.buildSlice,Sem.run_bind,run_underlying ht,Result.andThen_ok,zaN he]
   have e2:Array.range 3=#[0,1,2]:=by decide
   simp [zeroValue,typeInfo,hi,hv,newRow,Instr.fill,hvc',vI,e1,e2]
end
def i3 (a b c:Int):Array Value:=#[.int .i64 a,.int .i64 b,.int .i64 c]
def zgD (w w':World):Prop:=∃ q os,w'=Go.Sort.grow (w.drewN q) os
theorem zjf {w:World} (o1 o2 o3 o4:Obj):zgD w ((((w.alloc o1).alloc o2).alloc o3).alloc o4):=
 ⟨0,#[o1]++#[o2]++#[o3]++#[o4],by
   rw [Go.Sort.alloc_eq_grow,Go.Sort.alloc_eq_grow,Go.Sort.alloc_eq_grow,Go.Sort.alloc_eq_grow,Go.Sort.grow_grow,Go.Sort.grow_grow,Go.Sort.grow_grow];rfl⟩
def ltR (x y:DRace):Prop:=x.g<y.g∨(x.g=y.g∧(x.a<y.a∨(x.a=y.a∧x.b<y.b)))
theorem zkc {x y:Int} (h:x<y):zkW x y=-1:=by rw [zkW,if_pos h]
theorem zkd {x y:Int} (h:y<x):zkW x y=1:=by rw [zkW,if_neg (by omega),if_pos h]
theorem zke {x y:Int} (h:x=y):zkW x y=0:=by rw [zkW,if_neg (by omega),if_neg (by omega)]
end Go.Proofs.YtifonhplnmpgaaaGreat
namespace Go.Sh
open Rep (rep)
section
variable {P:Program} {w:World} {α:Type} [Rep α] [Flat α] {b o n cap k:Nat} {l:List α}
theorem zlz {F:List Nat} {v:Value} (hm:Mine F w v l) (hl:l≠[]):∃ b o cap xs,v=.slice (some ⟨b,o,none⟩) l.length cap∧F=[b]∧l.length≤cap∧cap≤maxLen∧Cells [] w xs l∧w.rangeAt b o xs∧(∃ c e,w.heap[b]?=some (.cells c e (0,0))):=by
 obtain ⟨⟨cs,⟨a,cap,Fi,xs,rfl,h1,h2,hc,h4⟩,rfl⟩,hn,hw⟩:=hm
 rcases h4 with ⟨h4,_⟩ | ⟨b,o,rfl,rfl,hr,hb⟩
 · exact absurd h4 hl
 have hFi:=Cells.flat (xs:=xs) hc
 subst hFi
 exact ⟨b,o,cap,xs,rfl,rfl,h1,h2,hc,hr,hw b (by simp)⟩
end
end Go.Sh
namespace Go.Proofs.YtifonhplnmpgaaaGreat
open Go Go.Sh Go.Proofs Go.Sort
open Rep (rep)
def F89 (a0 a1:Value) (w:World) (R:VW):Prop:=
 oP (Instr.box 104 a0) w fun x2 w=>
 oP (Instr.box 104 a1) w fun x3 w=>
 rF 104 x2 0 w fun x5=>
 rL 3 x5 w fun x6=>
 rF 104 x2 1 w fun x7=>
 rL 3 x7 w fun x8=>
 rF 104 x2 2 w fun x9=>
 rL 3 x9 w fun x10=>
 oP (Instr.buildSlice 23 3 #[(0,x6),(1,x8),(2,x10)]) w fun x11 w=>
 rF 104 x3 0 w fun x12=>
 rL 3 x12 w fun x13=>
 rF 104 x3 1 w fun x14=>
 rL 3 x14 w fun x15=>
 rF 104 x3 2 w fun x16=>
 rL 3 x16 w fun x17=>
 oP (Instr.buildSlice 23 3 #[(0,x13),(1,x15),(2,x17)]) w fun x18 w=>
 cL 90 [x11,x18] w fun x19 w=>
 R x19 w
def cfg89:Cfg:=⟨extL,[],[],[],[],[],[]⟩
theorem F89_call {a0 a1:Value} {w:World} {R:VW} (h:F89 a0 a1 w R):cL 89 [a0,a1] w R:=co (g:=cfg89) Tryz.func89 (by kernel_rfl) (by kernel_rfl) (by kernel_rfl) h
open Rep (rep)
structure DOrder where
 fr:Int
 to:Int
 at_:Int
theorem DOrder.ext_iff {x y:DOrder}:x=y↔(x.fr=y.fr∧x.to=y.to∧x.at_=y.at_):=⟨fun h=>by rw [h];exact ⟨rfl,rfl,rfl⟩,fun h=>by obtain ⟨h0,h1,h2⟩:=h;cases x;cases y;simp only at h0 h1 h2;simp only [h0,h1,h2]⟩
instance:DecidableEq DOrder:=fun x y=>decidable_of_iff (x.fr=y.fr∧x.to=y.to∧x.at_=y.at_) DOrder.ext_iff.symm
instance:Rep DOrder:=Rep.via fun x=>(x.fr,x.to,x.at_)
theorem zgE {w:World} {b o:Nat} {x:DOrder} (h:At w b o x):At w b (o+0) x.fr:=zdl (α:=Int) (β:=Int×Int) (p:=(x.fr,x.to,x.at_)) h
theorem zgF {w:World} {b o:Nat} {x:DOrder} (h:At w b o x):At w b (o+1) x.to:=zdl (α:=Int) (β:=Int) (p:=(x.to,x.at_)) (zbH (α:=Int) (β:=Int×Int) (p:=(x.fr,x.to,x.at_)) h)
instance:RepZ DOrder:=⟨⟨(RepZ.zv:Int),(RepZ.zv:Int),(RepZ.zv:Int)⟩,RepZ.zc (Int×Int×Int),fun w=>RepZ.zr (α:=Int×Int×Int) w⟩
instance:Flat DOrder:=⟨fun h=>Flat.flat (α:=Int×Int×Int) h⟩
def zmX (x:DOrder):List Int:=[x.fr,x.to,x.at_]
def zol (x y:DOrder):Int:=zok (zmX x) (zmX y)
theorem zmY {w:World} {x y:DOrder}:CALL Tryz.prog 89 [.agg (i3 x.fr x.to x.at_),.agg (i3 y.fr y.to y.at_)] w fun r w'=>r=.int .i64 (zol x y)∧zgD w w':=by
 refine F89_call ?_
 unfold F89
 refine zmW ?_
 have hB1:Blk w.heap.size 104 (w.alloc (.cells (i3 x.fr x.to x.at_) 104)) (vI (zmX x)):=heap_alloc_new w _
 refine zmW ?_
 generalize hw1:w.alloc (.cells (i3 x.fr x.to x.at_) 104)=w1 at *
 have hB2:Blk w1.heap.size 104 (w1.alloc (.cells (i3 y.fr y.to y.at_) 104)) (vI (zmX y)):=heap_alloc_new w1 _
 have hx2:=zay w1 (.cells (i3 y.fr y.to y.at_) 104)
 generalize hw2:w1.alloc (.cells (i3 y.fr y.to y.at_) 104)=w2 at *
 have hB12:=hB1.ext hx2
 refine zaa zhF ?_
 refine zap ty3 hB12 rfl ?_
 refine zaa zhG ?_
 refine zap ty3 hB12 rfl ?_
 refine zaa zl8 ?_
 refine zap ty3 hB12 rfl ?_
 refine zhm u23 ty3 zqY ?_
 have hx3:=zay w2 (.cells (vI [x.fr,x.to,x.at_]).toArray 3)
 have hB3:Blk w2.heap.size 3 (w2.alloc (.cells (vI [x.fr,x.to,x.at_]).toArray 3)) (vI (zmX x)):=heap_alloc_new w2 _
 generalize hw3:w2.alloc (.cells (vI [x.fr,x.to,x.at_]).toArray 3)=w3 at *
 have hB23:=hB2.ext hx3
 refine zaa zhF ?_
 refine zap ty3 hB23 rfl ?_
 refine zaa zhG ?_
 refine zap ty3 hB23 rfl ?_
 refine zaa zl8 ?_
 refine zap ty3 hB23 rfl ?_
 refine zhm u23 ty3 zqY ?_
 have hx4:=zay w3 (.cells (vI [y.fr,y.to,y.at_]).toArray 3)
 have hB4:Blk w3.heap.size 3 (w3.alloc (.cells (vI [y.fr,y.to,y.at_]).toArray 3)) (vI (zmX y)):=heap_alloc_new w3 _
 have hg:zgD w (w3.alloc (.cells (vI [y.fr,y.to,y.at_]).toArray 3)):=by rw [←hw3,←hw2,←hw1];exact zjf _ _ _ _
 refine (zkb (l:=zmX x) (m:=zmX y) (hB3.ext hx4) hB4 (by simp [zmX]) (by simp [zmX])).mono ?_
 rintro _ _ ⟨rfl,rfl⟩
 exact ⟨rfl,hg⟩
def ltO (x y:DOrder):Prop:=x.fr<y.fr∨(x.fr=y.fr∧(x.to<y.to∨(x.to=y.to∧x.at_<y.at_)))
theorem zpC {x y:DOrder}:zol x y<0↔ltO x y:=by
 unfold zol zmX ltO
 simp only [zok]
 rcases Int.lt_trichotomy x.fr y.fr with h | h | h
 · rw [zkc h];simp;omega
 · rw [zke h]
   rcases Int.lt_trichotomy x.to y.to with h2 | h2 | h2
   · rw [zkc h2];simp;omega
   · rw [zke h2]
     rcases Int.lt_trichotomy x.at_ y.at_ with h3 | h3 | h3
     · rw [zkc h3];simp;omega
     · rw [zke h3];simp;omega
     rw [zkd h3];simp;omega
   rw [zkd h2];simp;omega
 rw [zkd h];simp;omega
instance (x y:DOrder):Decidable (ltO x y):=by unfold ltO;infer_instance
theorem zeh (x:DOrder):¬ltO x x:=by unfold ltO;omega
theorem zjg {x y z:DOrder} (h:ltO x y) (k:ltO y z):ltO x z:=by unfold ltO at *;omega
theorem zjh {x y:DOrder} (h:¬ltO x y) (k:¬ltO y x):x=y:=by
 unfold ltO at *
 exact DOrder.ext_iff.2 ⟨by omega,by omega,by omega⟩
theorem zgG:∀ {l m:List DOrder},l.Pairwise ltO→m.Pairwise ltO→(∀ x,x∈l↔x∈m)→l=m
 | [],[],_,_,_=>rfl
 | [],y :: m,_,_,h=>by have:=(h y).2 (by simp);cases this
 | x :: l,[],_,_,h=>by have:=(h x).1 (by simp);cases this
 | x :: l,y :: m,h1,h2,h=>by
   rw [List.pairwise_cons] at h1 h2
   have hxy:x=y:=by
     rcases List.mem_cons.1 ((h x).1 (by simp)) with e | hm
     · exact e
     rcases List.mem_cons.1 ((h y).2 (by simp)) with e | hl
     · exact e.symm
     exact absurd (zjg (h1.1 y hl) (h2.1 x hm)) (zeh x)
   subst hxy
   congr 1
   refine zgG h1.2 h2.2 fun z=>⟨fun hz=>?_,fun hz=>?_⟩
   · rcases List.mem_cons.1 ((h z).1 (by simp [hz])) with rfl | h'
     · exact absurd (h1.1 z hz) (zeh z)
     exact h'
   rcases List.mem_cons.1 ((h z).2 (by simp [hz])) with rfl | h'
   · exact absurd (h2.1 z hz) (zeh z)
   exact h'
instance:Inhabited DOrder:=⟨⟨0,0,0⟩⟩
def zp1 (x:DOrder):List Value:=[.int .i64 x.fr,.int .i64 x.to,.int .i64 x.at_]
theorem zom:∀ {F:List Nat} {w:World} {cs:List Value} {x:DOrder},Rep.rep F w cs x→cs=zp1 x:=by
 intro F w cs x h
 obtain ⟨F1,F2,c1,c2,rfl,rfl,⟨rfl,rfl,_⟩,⟨F3,F4,c3,c4,rfl,rfl,⟨rfl,rfl,_⟩,⟨rfl,rfl,_⟩⟩⟩:=h
 rfl
theorem zcV {x y:DOrder}:ltOf zol x y=decide (ltO x y):=by
 unfold ltOf
 rw [decide_eq_decide]
 exact zpC
theorem zpD:SWO (ltOf zol):=by
 refine ⟨fun x=>?_,fun x y z h k=>?_,fun x y z h k=>?_⟩
 · rw [zcV,decide_eq_false_iff_not];exact zeh x
 · rw [zcV,decide_eq_true_eq] at *;exact zjg h k
 rw [zcV,decide_eq_false_iff_not] at *
 intro hc
 unfold ltO at *
 omega
def zpE (l:List DOrder):List DOrder:=l.mergeSort fun x y=>!(ltOf zol) y x
theorem zgH (l:List DOrder):(zpE l).Perm l:=List.mergeSort_perm l _
theorem zon (l:List DOrder):(zpE l).length=l.length:=(zgH l).length_eq
theorem zpF (l:List DOrder):(zpE l).Pairwise fun x y=>¬ltO y x:=by
 have:=List.pairwise_mergeSort (le:=fun x y=>!(ltOf zol) y x) (fun a b c h1 h2=>by
   simp only [zcV,Bool.not_eq_true',decide_eq_false_iff_not] at *
   unfold ltO at *;omega) (fun a b=>by
   simp only [zcV,Bool.or_eq_true,Bool.not_eq_true',decide_eq_false_iff_not]
   unfold ltO;omega) l
 exact this.imp fun h=>by simpa [zcV] using h
theorem zoo {w:World} {lo hi:Nat} {v:Value} {l:List DOrder} (h:OwnI lo hi w v l) (hn:l.length≤1073741824) :
   CALL Tryz.prog 88 [v,.func (.func 89) #[] #[]] w fun r w'=>ChgI lo hi w w'∧OwnI lo hi w' v (zpE l):=by
 obtain ⟨F,hM,hF⟩:=h
 by_cases hne:l=[]
 · subst hne
   obtain ⟨a,cap,hv⟩:∃ a cap,v=.slice a 0 cap:=by
     obtain ⟨cs,⟨a,cap,G,xs,h,_⟩,hv⟩:=hM.own
     exact ⟨a,cap,by rw [hv,h];rfl⟩
   subst hv
   refine ⟨(AnyF.slices_SortFunc_none Tryz.sortOrder a cap _ w).mono ?_⟩
   rintro e w' ⟨he,rfl⟩
   refine ⟨_,he,ChgI.refl _,F,?_,hF⟩
   have:zpE []=[]:=List.eq_nil_of_length_eq_zero (by rw [zon];rfl)
   rw [this];exact hM
 obtain ⟨b,o,cap,xs,rfl,rfl,h1,h2,hcc,hrr,hww⟩:=zlz hM hne
 have henc:=@zom
 have hk:∀ x,(zp1 x).length=Rep.size DOrder:=fun _=>rfl
 obtain ⟨c,e,hbe⟩:=hww
 have hb:b<w.heap.size:=(Array.getElem?_eq_some_iff.1 hbe).1
 have hcmp:CmpLays Tryz.prog 89 #[] zp1 3 zol b o l.toArray.size w:=fun m os dk _ x y=>by
   have:=zmY (w:=sortWorldK zp1 3 w b o m dk os) (x:=x) (y:=y)
   obtain ⟨h⟩:=this
   refine h.mono ?_
   rintro e w' ⟨v,he,hv,q,os',hw'⟩
   exact ⟨by rw [he,hv],q,os',hw'⟩
 refine ⟨(AnyQ.slices_SortFunc_total Tryz.sortOrder 3 Tryz.isAgg104 Tryz.sizeOf104 zp1 (fun _=>rfl) (fun x v hv=>by
     simp only [zp1,List.mem_cons,List.not_mem_nil,or_false] at hv
     rcases hv with rfl | rfl | rfl<;>rfl) zol zpD 89 #[] b o cap l.toArray w (zc1 (ent 89 (by decide) (by kernel_rfl))) hcmp (zje henc hk ⟨c,e,hbe⟩ hcc hrr) hb (by simp;omega) (fun x y h k=>by
     rw [zcV,decide_eq_false_iff_not] at *;exact zjh h k)).mono ?_⟩
 rintro ex w' ⟨he,n,os,hw'⟩
 have hs:=zka henc hk (cap:=cap) hw' ⟨c,e,hbe⟩ hcc hrr h1 h2 (by simp) (fun x hx=>by simpa [List.mem_mergeSort] using hx)
 refine ⟨_,he,?_,[b],?_,hF⟩
 · exact hs.1.toI (fun i hi=>hF i hi)
 exact hs.2
instance:Flat DRace:=⟨fun h=>by obtain ⟨F1,F2,c1,c2,rfl,rfl,⟨rfl,_⟩,⟨F3,F4,c3,c4,rfl,rfl,⟨rfl,_⟩,⟨rfl,_⟩⟩⟩:=h;rfl⟩
section
variable {α:Type} [DecidableEq α]
end
def zmZ (a b:DTouch):Prop:=a.global=b.global∧(a.write=true∨b.write=true)∧(0≤a.held∧a.held≤63)∧(0≤b.held∧b.held≤63)∧a.held.toNat &&& b.held.toNat=0
instance (a b:DTouch):Decidable (zmZ a b):=by unfold zmZ;infer_instance
def zqn (a b:DTouch):DRace:=⟨a.global,min a.at_ b.at_,max a.at_ b.at_⟩
instance (x y:DRace):Decidable (ltR x y):=by unfold ltR;infer_instance
end Go.Proofs.YtifonhplnmpgaaaGreat
namespace Go.Proofs.YtifonhplnmpgaaaGreat
open Go Go.Sh Go.Proofs Go.Sort
open Rep (rep)
instance:Inhabited DRace:=⟨⟨0,0,0⟩⟩
theorem zfP {α:Type} [Rep α] [Flat α] {w:World} {lo hi:Nat} {v:Value} {x:α} (h:Is w v x):OwnI lo hi w v x:=by
 obtain ⟨F,cs,hr,hv⟩:=h
 have hF:=Flat.flat hr
 subst hF
 exact ⟨[],⟨⟨cs,hr,hv⟩,List.nodup_nil,Wr.nil w⟩,by simp⟩
def clR (a b:DTouch):List DRace:=if zmZ a b then [zqn a b] else []
def gB (a:DTouch) (bs:List DTouch):List DRace:=bs.flatMap (clR a)
def hA (bs xs:List DTouch):List DRace:=xs.flatMap fun a=>gB a bs
def hU (T:Nat→List DTouch) (xs:List DTouch) (t:Nat):List DRace:=(List.range t).flatMap fun u=>hA (T u) xs
def hT (T:Nat→List DTouch) (n:Nat):List DRace:=(List.range n).flatMap fun t=>hU T (T t) t
theorem zei {β:Type} {f:Nat→List β} (n:Nat):(List.range (n+1)).flatMap f=(List.range n).flatMap f++f n:=by
 rw [List.range_succ,List.flatMap_append];simp
def OrdP (c:DCode) (fr to i:Nat):Prop:=MetP c i∧(zaj c i).op=6∧agN c i=to∧MayP c i fr
def mkO (fr to i:Nat):DOrder:=⟨fr,to,i⟩
theorem MayP.locks {c:DCode} (hc:CodeR c) {i l:Nat} (h:MayP c i l):l<c.locks.length:=by
 induction h with
 | lock hm ho ha hj=>subst ha;exact (zcU hc (hm.lt hc) (.inl ho)).2.1
 | pass _ _ _ _ _ ih=>exact ih
 | call _ _ _ ih=>exact ih
 | back _ _ _ _ _ ih=>exact ih
open Classical in
noncomputable def zdH (c:DCode) (fr to i:Nat):List DOrder:=if OrdP c fr to i then [mkO fr to i] else []
noncomputable def zgI (c:DCode) (fr to:Nat):List DOrder:=(List.range c.ins.length).flatMap (zdH c fr to)
noncomputable def ze9 (c:DCode) (fr:Nat):List DOrder:=(List.range c.locks.length).flatMap (zgI c fr)
noncomputable def zcG (c:DCode):List DOrder:=(List.range c.locks.length).flatMap (ze9 c)
theorem zd4 {c:DCode} {fr to i:Nat} {x:DOrder}:x∈zdH c fr to i↔OrdP c fr to i∧x=mkO fr to i:=by
 unfold zdH;split
 · rename_i h;simp [h]
 rename_i h;simp [h]
theorem zfQ {c:DCode} (hc:CodeR c) {x:DOrder}:x∈zcG c↔∃ fr to i,OrdP c fr to i∧x=mkO fr to i:=by
 unfold zcG ze9 zgI
 simp only [List.mem_flatMap,List.mem_range,zd4]
 constructor
 · rintro ⟨fr,_,to,_,i,_,h⟩;exact ⟨fr,to,i,h⟩
 rintro ⟨fr,to,i,h,e⟩
 have hi:=h.1.lt hc
 exact ⟨fr,h.2.2.2.locks hc,to,h.2.2.1▸(zcU hc hi (.inl h.2.1)).2.1,i,hi,h,e⟩
theorem zfs {α β:Type} {f:α→List β} {B:Nat}:∀ {l:List α},(∀ a∈l,(f a).length≤B)→(l.flatMap f).length≤l.length*B
 | [],_=>by simp
 | a :: l,h=>by
   have h1:=h a (by simp)
   have h2:=zfs (l:=l) fun b hb=>h b (by simp [hb])
   simp only [List.flatMap_cons,List.length_append,List.length_cons,Nat.add_mul]
   omega
theorem zm0 (c:DCode) (fr to i:Nat):(zdH c fr to i).length≤1:=by unfold zdH;split<;>simp
theorem zji (c:DCode) (fr to k:Nat):((List.range k).flatMap (zdH c fr to)).length≤k:=by
 have:=zfs (l:=List.range k) fun a _=>zm0 c fr to a
 simpa using this
theorem zjj {c:DCode} (hn:c.ins.length≤1500) (fr k:Nat):((List.range k).flatMap (zgI c fr)).length≤k*1500:=by
 have:=zfs (l:=List.range k) (f:=zgI c fr) (B:=1500) fun a _=>Nat.le_trans (zji c fr a _) hn
 rw [List.length_range] at this;exact this
theorem zjk {c:DCode} (hn:c.ins.length≤1500) (hl:c.locks.length≤6) (k:Nat):((List.range k).flatMap (ze9 c)).length≤k*9000:=by
 have:=zfs (l:=List.range k) (f:=ze9 c) (B:=9000) fun a _=>by
   have:=zjj hn a c.locks.length
   unfold ze9;omega
 rw [List.length_range] at this;exact this
theorem zkX {c:DCode} (hc:CodeR c):(zcG c).length≤54000:=by
 have h6:=hc.1.locks6
 exact Nat.le_trans (zjk hc.f.ins h6 _) (by omega)
theorem zkf (c:DCode):(zcG c).Pairwise ltO:=by
 unfold zcG ze9 zgI
 have hr:∀ n,(List.range n).Pairwise (fun a b=>a<b):=fun n=>List.pairwise_lt_range
 refine List.pairwise_flatMap.2 ⟨fun fr _=>List.pairwise_flatMap.2 ⟨fun to _=>List.pairwise_flatMap.2 ⟨fun i _=>?_,(hr _).imp ?_⟩,(hr _).imp ?_⟩,(hr _).imp ?_⟩
 · unfold zdH;split<;>simp
 · intro a b hab x hx y hy
   obtain ⟨_,rfl⟩:=zd4.1 hx
   obtain ⟨_,rfl⟩:=zd4.1 hy
   exact .inr ⟨rfl,.inr ⟨rfl,Int.ofNat_lt.2 hab⟩⟩
 · intro a b hab x hx y hy
   simp only [List.mem_flatMap,zd4] at hx hy
   obtain ⟨_,_,_,rfl⟩:=hx
   obtain ⟨_,_,_,rfl⟩:=hy
   exact .inr ⟨rfl,.inl (Int.ofNat_lt.2 hab)⟩
 intro a b hab x hx y hy
 simp only [List.mem_flatMap,zd4] at hx hy
 obtain ⟨_,_,_,_,_,rfl⟩:=hx
 obtain ⟨_,_,_,_,_,rfl⟩:=hy
 exact .inl (Int.ofNat_lt.2 hab)
def zo0 (c:DCode) (i:Nat) (l:Int):DOrder:=⟨l,agN c i,i⟩
open Classical in
noncomputable def zlP (c:DCode) (i:Nat):List DOrder:=if MetP c i∧(zaj c i).op=6 then (zba (zaG (zi9 c) i)).map (zo0 c i) else []
noncomputable def zjA (c:DCode) (k:Nat):List DOrder:=(List.range k).flatMap (zlP c)
theorem zjl {m:Nat} (hm:m<64) {x:Int}:x∈zba m↔∃ i:Nat,x=(i:Int)∧m.testBit i=true:=by
 unfold zba
 rw [zb4]
 constructor
 · rintro ⟨i,_,h⟩;exact ⟨i,h⟩
 rintro ⟨i,h,hb⟩;exact ⟨i,by have:=zd2 hm hb;omega,h,hb⟩
theorem zgJ (m:Nat):∀ k,(zb3 m k).Pairwise (fun a b=>a<b)
 | 0=>by simp [zb3]
 | k+1=>by
   rw [zb3]
   split
   · refine List.pairwise_append.2 ⟨zgJ m k,by simp,fun a ha b hb=>?_⟩
     obtain ⟨i,hi,rfl,_⟩:=zb4.1 ha
     simp only [List.mem_singleton] at hb
     omega
   exact zgJ m k
theorem zkY {c:DCode} {i:Nat} {x:DOrder} (hi:i<c.ins.length):x∈zlP c i↔∃ fr to,OrdP c fr to i∧fr<6∧x=mkO fr to i:=by
 unfold zlP
 split
 · rename_i h
   rw [zj9 hi]
   simp only [List.mem_map,zjl zqm,zoY]
   constructor
   · rintro ⟨_,⟨l,rfl,h6,hm⟩,rfl⟩;exact ⟨l,agN c i,⟨h.1,h.2,rfl,hm⟩,h6,rfl⟩
   rintro ⟨fr,to,hp,h6,rfl⟩
   refine ⟨fr,⟨fr,rfl,h6,hp.2.2.2⟩,?_⟩
   unfold zo0 mkO
   rw [hp.2.2.1]
 rename_i h
 constructor
 · intro h;cases h
 rintro ⟨fr,to,hp,_⟩;exact absurd ⟨hp.1,hp.2.1⟩ h
theorem zop {c:DCode} {i:Nat}:(zlP c i).length≤64:=by
 unfold zlP;split
 · rw [List.length_map];exact zdo _ 64
 simp
theorem zoq (c:DCode) (k:Nat):(zjA c k).length≤k*64:=by
 have:=zfs (l:=List.range k) fun a _=>zop (c:=c) (i:=a)
 rw [List.length_range] at this;exact this
theorem zlA (x y:DOrder):ltO x y∨x=y∨ltO y x:=by
 by_cases h1:ltO x y
 · exact .inl h1
 by_cases h2:ltO y x
 · exact .inr (.inr h2)
 exact .inr (.inl (zjh h1 h2))
theorem zm1 {c:DCode} (hc:CodeR c):zpE (zjA c c.ins.length)=zcG c:=by
 have hmem:∀ x,x∈zjA c c.ins.length↔x∈zcG c:=fun x=>by
   rw [zfQ hc]
   unfold zjA
   simp only [List.mem_flatMap,List.mem_range]
   constructor
   · rintro ⟨i,hi,hx⟩
     obtain ⟨fr,to,h,_,e⟩:=(zkY hi).1 hx
     exact ⟨fr,to,i,h,e⟩
   rintro ⟨fr,to,i,h,e⟩
   have hi:=h.1.lt hc
   have:=h.2.2.2.locks hc
   have h6:=hc.1.locks6
   exact ⟨i,hi,(zkY hi).2 ⟨fr,to,h,by omega,e⟩⟩
 have hnd:(zjA c c.ins.length).Pairwise (fun x y=>x≠y):=by
   unfold zjA
   refine List.pairwise_flatMap.2 ⟨fun i _=>?_,List.pairwise_lt_range.imp ?_⟩
   · unfold zlP;split
     · refine List.pairwise_map.2 ((zgJ _ _).imp fun {a b} h e=>?_)
       have:=congrArg DOrder.fr e
       unfold zo0 at this;simp only at this;omega
     simp
   intro a b hab x hx y hy e
   have h1:∀ {i:Nat} {x:DOrder},x∈zlP c i→x.at_=i:=fun {i x} hx=>by
     unfold zlP at hx;split at hx
     · obtain ⟨l,_,rfl⟩:=List.mem_map.1 hx;rfl
     cases hx
   have:=h1 hx
   have h2:=h1 hy
   rw [e,h2] at this
   omega
 refine zgG ?_ (zkf c) fun x=>(zgH _).mem_iff.trans (hmem x)
 have h1:=zpF (zjA c c.ins.length)
 have h2:(zpE (zjA c c.ins.length)).Pairwise (fun x y=>x≠y):=(zgH _).symm.pairwise hnd (fun h e=>h e.symm)
 refine (List.pairwise_and_iff.2 ⟨h1,h2⟩).imp fun {x y} h=>?_
 rcases zlA x y with h3 | h3 | h3
 · exact h3
 · exact absurd h3 h.2
 exact absurd h3 h.1
end Go.Proofs.YtifonhplnmpgaaaGreat
namespace Go.Proofs.YtifonhplnmpgaaaGreat
open Go Go.Sh Go.Proofs Go.Sort
open Rep (rep)
def F83 (a0 a1:Value) (w:World) (R:VW):Prop:=
 (fun w=>rX 23 a0 (iV 0) w fun x6=>
 rL 3 x6 w fun x7=>
 rX 23 a1 (iV 0) w fun x9=>
 rL 3 x9 w fun x10=>
 rB .sub 3 T0 T0 x7 x10 w fun x11=>
 R x11 w) (World.drew1 w)
def cfg83:Cfg:=⟨extL,[],[],[(1,[0,1,2,3,4,5,6,7],0)],[],[],[]⟩
theorem F83_call {a0 a1:Value} {w:World} {R:VW} (h:F83 a0 a1 w R):cL 83 [a0,a1] w R:=co (g:=cfg83) Tryz.func83 (by kernel_rfl) (by kernel_rfl) (by kernel_rfl) h
open Rep (rep)
def hd0 (l:List Int):Int:=l.headD 0
theorem zeH {w:World}:∀ {l:List (List Int)} {F:List Nat} {xs:List Value},Cells F w xs l→∃ Z:List (List Nat×Value×List Int),F=Z.flatMap (·.1)∧xs=Z.map (·.2.1)∧l=Z.map (·.2.2)∧∀ z∈Z,rep z.1 w [z.2.1] z.2.2
 | [],_,_,⟨h1,h2⟩=>⟨[],h1,h2,rfl,by simp⟩
 | y :: ys,_,_,⟨F1,F2,c1,c2,hF,hx,h1,h2⟩=>by
   obtain ⟨Z,e1,e2,e3,e4⟩:=zeH h2
   obtain ⟨v,rfl⟩:∃ v,c1=[v]:=List.length_eq_one_iff.1 (Rep.len h1)
   refine ⟨(F1,v,y) :: Z,by simp [hF,e1],by simp [hx,e2],by simp [e3],fun z hz=>?_⟩
   rcases List.mem_cons.1 hz with rfl | hz
   · exact h1
   exact e4 z hz
theorem zgK {w:World}:∀ {Z:List (List Nat×Value×List Int)},(∀ z∈Z,rep z.1 w [z.2.1] z.2.2)→Cells (Z.flatMap (·.1)) w (Z.map (·.2.1)) (Z.map (·.2.2))
 | [],_=>⟨rfl,rfl⟩
 | z :: Z,h=>⟨z.1,Z.flatMap (·.1),[z.2.1],Z.map (·.2.1),by simp,by simp,h z (by simp),zgK fun y hy=>h y (by simp [hy])⟩
theorem zkg {l:List Int} (h:l≠[]):hd0 l=l[0]'(List.length_pos_iff.2 h):=by
 cases l with
 | nil=>exact absurd rfl h
 | cons x l=>rfl
theorem zjm {w:World} {x y:Value} {a b:List Int} (hx:Is w x a) (hy:Is w y b) (ha:a≠[]) (hb:b≠[]) (h1:0≤hd0 a∧hd0 a<1000) (h2:0≤hd0 b∧hd0 b<1000) :
   CALL Tryz.prog 83 [x,y] w fun r w'=>r=.int .i64 (hd0 a-hd0 b)∧zgD w w':=by
 refine F83_call ?_
 unfold F83
 have hg:zgD w (World.drew1 w):=⟨1,#[],by simp only [Go.Sort.grow,World.drewN,World.drew1,Array.append_empty]⟩
 have hxd:=zan w
 generalize World.drew1 w=w1 at *
 have e1:=zkg ha
 have e2:=zkg hb
 refine zac (i:=0) u23 ty3 hx (List.length_pos_iff.2 ha) fun b1 o1 hA1=>?_
 refine zad ty3 hA1 hxd fun _=>?_
 refine zac (i:=0) u23 ty3 hy (List.length_pos_iff.2 hb) fun b2 o2 hA2=>?_
 refine zad ty3 hA2 hxd fun _=>?_
 rw [←e1,←e2]
 refine za9 (by unfold I64;omega) ?_
 exact ⟨rfl,hg⟩
set_option maxHeartbeats 4000000 in
theorem zor {w:World} {lo hi:Nat} {v:Value} {cs:List (List Int)} (h:OwnI lo hi w v cs) (hn:cs.length≤1000) (hne:∀ c∈cs,c≠[]) (hb:∀ c∈cs,0≤hd0 c∧hd0 c<1000) (hd:cs.Pairwise fun a b=>hd0 a≠hd0 b) :
    CALL Tryz.prog 82 [v,.func (.func 83) #[] #[]] w fun r w'=>ChgI lo hi w w'∧∃ cs':List (List Int),OwnI lo hi w' v cs'∧cs'.Perm cs∧cs'.Pairwise fun a b=>hd0 a<hd0 b:=by
  obtain ⟨F,hM,hF⟩:=h
  by_cases hne0:cs=[]
  · subst hne0
    obtain ⟨a,cap,hv⟩:∃ a cap,v=.slice a 0 cap:=by
      obtain ⟨cs,⟨a,cap,G,xs,h,_⟩,hv⟩:=hM.own
      exact ⟨a,cap,by rw [hv,h];rfl⟩
    subst hv
    refine ⟨(AnyF.slices_SortFunc_none { Tryz.sortInts with } a cap _ w).mono ?_⟩
    rintro e w' ⟨he,rfl⟩
    exact ⟨_,he,ChgI.refl _,[],⟨F,hM,hF⟩,.refl _,.nil⟩
  obtain ⟨⟨c0,⟨a,cap,Fi,xs,rfl,h1,h2,hc,h4⟩,rfl⟩,hnd,hw⟩:=hM
  rcases h4 with ⟨h4,_⟩ | ⟨b,o,rfl,rfl,hr,hbl⟩
  · exact absurd h4 hne0
  obtain ⟨Z,rfl,rfl,rfl,hZ⟩:=zeH hc
  obtain ⟨c,e,hbe⟩:=hw b (by simp)
  have hbF:∀ z∈Z,b∉z.1:=fun z hz hm=>(List.nodup_cons.1 hnd).1 (List.mem_flatMap.2 ⟨z,hz,hm⟩)
  have hnZ:Z.length≤1000:=by simpa using hn
  have hn0:0<Z.length:=by
    rcases Nat.eq_zero_or_pos Z.length with h | h
    · exact absurd (by rw [List.eq_nil_of_length_eq_zero h];rfl) hne0
    exact h
  haveI:Inhabited (Fin Z.length):=⟨⟨0,hn0⟩⟩
  obtain ⟨enc,henc⟩:∃ enc:Fin Z.length→Value,enc=fun i=>Z[i].2.1:=⟨_,rfl⟩
  obtain ⟨cf,hcf⟩:∃ cf:Fin Z.length→Fin Z.length→Int,cf=fun i j=>hd0 Z[i].2.2-hd0 Z[j].2.2:=⟨_,rfl⟩
  obtain ⟨d,hdd⟩:∃ d:Array (Fin Z.length),d=(List.finRange Z.length).toArray:=⟨_,rfl⟩
  have hds:d.size=Z.length:=by rw [hdd];simp
  have hfin:(List.finRange Z.length).map (fun i=>Z[i])=Z:=List.ext_getElem (by simp) fun i h1 h2=>by simp
  have hdg:∀ j (hj:j<Z.length),d[j]! = ⟨j,hj⟩:=fun j hj=>by
    rw [getElem!_pos d j (by rw [hds];exact hj)]
    simp [hdd]
  have hone:OneCell enc:=fun i=>by
    have h:=Rep.one (hZ _ (List.getElem_mem i.2)) Z[i.1].2.1 (by simp)
    rw [henc];exact h
  have hHo:Holds enc w b o d:=fun j hj=>by
    rw [hds] at hj
    rw [hdg j hj]
    refine ⟨hr j _ ?_,?_⟩
    · rw [henc,List.getElem?_map,List.getElem?_eq_getElem hj];rfl
    simp [World.frozen?,hbe]
  have hmem:∀ i:Fin Z.length,Z[i].2.2∈Z.map (·.2.2):=fun i=>List.mem_map.2 ⟨_,List.getElem_mem _,rfl⟩
  have hdis:∀ i j:Fin Z.length,hd0 Z[i].2.2=hd0 Z[j].2.2→i=j:=fun i j hij=>by
    rw [List.pairwise_map,List.pairwise_iff_getElem] at hd
    rcases Nat.lt_trichotomy i.1 j.1 with h | h | h
    · exact absurd hij (hd i.1 j.1 i.2 j.2 h)
    · exact Fin.ext h
    exact absurd hij.symm (hd j.1 i.1 j.2 i.2 h)
  have hlt:∀ i j,ltOf cf i j=decide (hd0 Z[i].2.2<hd0 Z[j].2.2):=fun i j=>by
    unfold ltOf;rw [hcf,decide_eq_decide]
    show hd0 Z[i].2.2-hd0 Z[j].2.2<0↔_
    omega
  have hswo:SWO (ltOf cf):=by
    refine ⟨fun x=>?_,fun x y z h k=>?_,fun x y z h k=>?_⟩
    · rw [hlt,decide_eq_false_iff_not];omega
    · rw [hlt,decide_eq_true_eq] at *;omega
    rw [hlt,decide_eq_false_iff_not] at *;omega
  have hbw:b<w.heap.size:=(Array.getElem?_eq_some_iff.1 hbe).1
  have hblk:∀ (m:Nat) (dk:Array (Fin Z.length)) (os:Array Obj) i,i<w.heap.size→i≠b→(sortWorld enc w b o m dk os).heap[i]?=w.heap[i]?:=fun m dk os i hi hne=>by
    unfold sortWorld
    rw [heap_grow_old _ _ (by simpa [putRow,mapBlock,Sort.ahead] using hi)]
    simp [putRow,mapBlock,Sort.ahead,Array.getElem?_modify,hne.symm]
  have hrep:∀ (m:Nat) (dk:Array (Fin Z.length)) (os:Array Obj),∀ z∈Z,rep z.1 (sortWorld enc w b o m dk os) [z.2.1] z.2.2:=fun m dk os z hz=>
    Rep.keep (hZ z hz) fun i hi=>hblk m dk os i (Rep.lt (hZ z hz) i hi) fun e=>hbF z hz (e▸hi)
  have hcmp:CmpLays1 Tryz.prog 83 #[] enc cf b o d.size w:=fun m os dk _ i j=>by
    have hI:∀ k:Fin Z.length,Is (sortWorld enc w b o m dk os) (enc k) Z[k].2.2:=fun k=>⟨_,_,hrep m dk os _ (List.getElem_mem k.2),by rw [henc];rfl⟩
    obtain ⟨h⟩:=zjm (hI i) (hI j) (hne _ (hmem i)) (hne _ (hmem j)) (hb _ (hmem i)) (hb _ (hmem j))
    refine h.mono ?_
    rintro e w' ⟨v,he,hv,q,os',hw'⟩
    exact ⟨by rw [he,hv,hcf],q,os',hw'⟩
  have hlen:(Z.map (·.2.2)).length=d.size:=by rw [hds,List.length_map]
  show CALL Tryz.prog 82 [.slice (some ⟨b,o,none⟩) (Z.map (·.2.2)).length cap,_] w _
  rw [hlen]
  refine ⟨(Any.slices_SortFunc_total Tryz.sortInts enc hone cf hswo 83 #[] b o cap d w (zc1 (ent 83 (by decide) (by kernel_rfl))) hcmp hHo hbw (by omega) (fun x y h k=>by
      rw [hlt,decide_eq_false_iff_not] at *;exact hdis x y (by omega))).mono ?_⟩
  rintro ex w' ⟨he,n,os,hw'⟩
  generalize hd':(d.toList.mergeSort fun x y=>!(ltOf cf) y x)=d' at hw'
  have hperm:d'.Perm (List.finRange Z.length):=by
    rw [←hd',hdd];exact List.mergeSort_perm _ _
  have hsrt:d'.Pairwise fun i j=>¬hd0 Z[j].2.2<hd0 Z[i].2.2:=by
    rw [←hd']
    have:=List.pairwise_mergeSort (le:=fun x y=>!(ltOf cf) y x) (fun a b c h1 h2=>by
      simp only [hlt,Bool.not_eq_true',decide_eq_false_iff_not] at *
      omega) (fun a b=>by
      simp only [hlt,Bool.or_eq_true,Bool.not_eq_true',decide_eq_false_iff_not]
      omega) d.toList
    exact this.imp fun h=>by simpa [hlt] using h
  have hZp:(d'.map fun i=>Z[i]).Perm Z:=by
    have:=hperm.map fun i=>Z[i]
    rwa [hfin] at this
  have hl':d'.length=Z.length:=by rw [hperm.length_eq];simp
  subst hw'
  have hsz2:w.heap.size≤(sortWorld enc w b o n d'.toArray os).heap.size:=by
    unfold sortWorld Go.Sort.grow
    rw [Array.size_append];simp [putRow,mapBlock,Sort.ahead]
  have hbb:∃ c',(sortWorld enc w b o n d'.toArray os).heap[b]?=some (.cells c' e (0,0)):=by
    unfold sortWorld
    rw [heap_grow_old _ _ (by simpa [putRow,mapBlock,Sort.ahead] using hbw)]
    exact ⟨_,by simp [putRow,mapBlock,Sort.ahead,Array.getElem?_modify,hbe,onCells];rfl⟩
  have hchg:Chg [b] w (sortWorld enc w b o n d'.toArray os):=⟨rfl,rfl,rfl,hsz2,fun i hi hm=>hblk _ _ _ i hi fun e=>hm (by simp [e])⟩
  generalize hZ':(d'.map fun i=>Z[i])=Z' at *
  have hmZ:∀ z∈Z',z∈Z:=fun z hz=>hZp.mem_iff.1 hz
  have hFp:(Z'.flatMap (·.1)).Perm (Z.flatMap (·.1)):=hZp.flatMap_right _
  have hxs:Z'.map (·.2.1)=d'.map enc:=by rw [←hZ',henc,List.map_map];rfl
  refine ⟨_,he,?_,Z'.map (·.2.2),⟨b :: Z'.flatMap (·.1),⟨⟨_,⟨some ⟨b,o,none⟩,cap,Z'.flatMap (·.1),Z'.map (·.2.1),rfl,?_,h2,zgK fun z hz=>hrep _ _ _ z (hmZ z hz),.inr ⟨b,o,rfl,rfl,?_,by omega⟩⟩,?_⟩,?_,?_⟩,?_⟩,hZp.map _,?_⟩
  · exact hchg.toI fun i hi=>hF i (by simp only [List.mem_cons,List.not_mem_nil,or_false] at hi;simp [hi])
  · have:=hZp.length_eq;simp only [List.length_map] at h1 ⊢;omega
  · rw [hxs]
    intro j v hv
    have hj:j<d'.length:=by
      have:=(List.getElem?_eq_some_iff.1 hv).1
      simpa using this
    have:=cell?_putRow enc (Sort.ahead w n) b o d d'.toArray hHo (by simp [hds,hl']) j (by simpa using hj)
    unfold sortWorld
    rw [cell?_grow _ _ _ (by simpa [putRow,mapBlock,Sort.ahead] using hbw),this]
    rw [List.getElem?_map,List.getElem?_eq_getElem hj] at hv
    rw [getElem!_pos d'.toArray j (by simpa using hj)]
    simpa using hv
  · have:=hZp.length_eq
    simp only [mkv,Rep.agg,cond_false,List.headD_cons,List.length_map,hds,this]
  · rw [List.nodup_cons] at hnd ⊢
    exact ⟨fun h=>hnd.1 (hFp.mem_iff.1 h),(hFp.nodup_iff).2 hnd.2⟩
  · intro i hi
    rcases List.mem_cons.1 hi with rfl | hi
    · obtain ⟨c',hc'⟩:=hbb;exact ⟨c',e,hc'⟩
    have hi':=hFp.mem_iff.1 hi
    obtain ⟨z,hz,hzi⟩:=List.mem_flatMap.1 hi'
    have hne:i≠b:=fun e=>hbF z hz (e▸hzi)
    obtain ⟨c',e',h'⟩:=hw i (by simp [hi'])
    exact ⟨c',e',by rw [hblk _ _ _ i (Array.getElem?_eq_some_iff.1 h').1 hne];exact h'⟩
  · intro i hi
    rcases List.mem_cons.1 hi with rfl | hi
    · exact hF _ (by simp)
    exact hF i (by simp [hFp.mem_iff.1 hi])
  have hs1:Z'.Pairwise fun x y=>¬hd0 y.2.2<hd0 x.2.2:=by
    rw [←hZ',List.pairwise_map];exact hsrt
  have hs2:Z'.Pairwise fun x y=>hd0 x.2.2≠hd0 y.2.2:=by
    rw [List.pairwise_map] at hd
    exact hZp.symm.pairwise hd fun h e=>h e.symm
  rw [List.pairwise_map]
  exact (List.pairwise_and_iff.2 ⟨hs1,hs2⟩).imp fun h=>by have:=h.1;have:=h.2;omega
def zen (x:DOrder):DArc:=⟨x.fr,x.to⟩
def ltA (a b:DArc):Prop:=a.fr<b.fr∨(a.fr=b.fr∧a.to<b.to)
structure AInv (L:List DOrder) (A:List DArc):Prop where
 mem:∀ a,a∈A↔∃ x∈L,a=zen x
 pw:A.Pairwise ltA
section
variable {L:List DOrder} {A:List DArc} {x:DOrder}
theorem AInv.start:AInv [] []:=⟨by simp,.nil⟩
theorem AInv.le (h:AInv L A) (hs:(L++[x]).Pairwise ltO):∀ a∈A,a=zen x∨ltA a (zen x):=fun a ha=>by
 obtain ⟨y,hy,rfl⟩:=(h.mem a).1 ha
 have:=(List.pairwise_append.1 hs).2.2 y hy x (by simp)
 unfold ltO at this
 unfold ltA zen
 rcases this with h1 | ⟨h1,h2 | ⟨h2,_⟩⟩
 · exact .inr (.inl h1)
 · exact .inr (.inr ⟨h1,h2⟩)
 exact .inl (DArc.ext_iff.2 ⟨h1,h2⟩)
theorem AInv.old (h:AInv L A) (hm:zen x∈A):AInv (L++[x]) A:=⟨fun a=>by
 rw [h.mem]
 constructor
 · rintro ⟨y,hy,e⟩;exact ⟨y,by simp [hy],e⟩
 rintro ⟨y,hy,rfl⟩
 rcases List.mem_append.1 hy with hy | hy
 · exact ⟨y,hy,rfl⟩
 simp only [List.mem_singleton] at hy
 subst hy
 exact (h.mem _).1 hm,h.pw⟩
theorem AInv.new (h:AInv L A) (hs:(L++[x]).Pairwise ltO) (hm:zen x∉A):AInv (L++[x]) (A++[zen x]):=⟨fun a=>by
 simp only [List.mem_append,List.mem_singleton,h.mem]
 constructor
 · rintro (⟨y,hy,e⟩ | rfl)
   · exact ⟨y,.inl hy,e⟩
   exact ⟨x,.inr rfl,rfl⟩
 · rintro ⟨y,hy | rfl,rfl⟩
   · exact .inl ⟨y,hy,rfl⟩
   exact .inr rfl,List.pairwise_append.2 ⟨h.pw,by simp,fun a ha b hb=>by
 simp only [List.mem_singleton] at hb
 subst hb
 rcases h.le hs a ha with rfl | h1
 · exact absurd ha hm
 exact h1⟩⟩
theorem zlB (a:DArc):¬ltA a a:=by unfold ltA;omega
theorem zm2 {a b:DArc} (h:ltA a b) (k:ltA b a):False:=by unfold ltA at *;omega
theorem AInv.last (h:AInv L A) (hs:(L++[x]).Pairwise ltO) (hA:0<A.length):A[A.length-1]'(by omega)=zen x↔zen x∈A:=by
 constructor
 · intro e;rw [←e];exact List.getElem_mem _
 intro hm
 obtain ⟨i,hi,e⟩:=List.getElem_of_mem hm
 rcases h.le hs _ (List.getElem_mem (by omega:A.length-1<A.length)) with h1 | h1
 · exact h1
 exfalso
 rcases Nat.lt_or_ge i (A.length-1) with hl | hl
 · have:=List.pairwise_iff_getElem.1 h.pw i (A.length-1) hi (by omega) hl
   rw [e] at this
   exact zm2 this h1
 have:i=A.length-1:=by omega
 subst this
 rw [e] at h1
 exact zlB _ h1
end
theorem zpG {N:Nat}:∀ {l:List Nat},l.Pairwise (fun a b=>a<b)→(∀ x∈l,x<N)→l.length≤N
 | l,h,hb=>by
   have h1:=List.pairwise_iff_getElem.1 h
   have:∀ i (hi:i<l.length),i≤l[i]:=fun i=>by
     induction i with
     | zero=>intro _;exact Nat.zero_le _
     | succ i ih=>
       intro hi
       have h2:=ih (by omega)
       have h3:=h1 i (i+1) (by omega) hi (by omega)
       omega
   rcases Nat.eq_zero_or_pos l.length with h0 | h0
   · omega
   have h2:=this (l.length-1) (by omega)
   have h3:=hb _ (List.getElem_mem (by omega:l.length-1<l.length))
   omega
theorem zh9 {n:Nat} {A:List DArc} (hn:n≤6) (hp:A.Pairwise ltA) (hb:∀ a∈A,(0≤a.fr∧a.fr<n)∧0≤a.to∧a.to<n):A.length≤36:=by
 have h1:(A.map fun a=>(a.fr*6+a.to).toNat).Pairwise (fun a b=>a<b):=by
   rw [List.pairwise_map]
   refine hp.imp_of_mem fun {a b} ha hb' h=>?_
   have h2:=hb a ha
   have h3:=hb b hb'
   unfold ltA at h
   omega
 have:=zpG (N:=36) h1 fun x hx=>by
   obtain ⟨a,ha,rfl⟩:=List.mem_map.1 hx
   have:=hb a ha
   omega
 simpa using this
noncomputable def nxL (c:DCode) (i:Nat):List Nat:=zbw c.locks.length fun j=>∃ k,OrdP c i j k
theorem OrdP.in {c:DCode} (hc:CodeR c) {i j k:Nat} (h:OrdP c i j k):i<c.locks.length∧j<c.locks.length:=
 ⟨h.2.2.2.locks hc,h.2.2.1▸(zcU hc (h.1.lt hc) (.inl h.2.1)).2.1⟩
theorem zej {c:DCode} (hc:CodeR c) {A:List DArc} (h:AInv (zcG c) A):nxA c.locks.length A=nxL c:=by
 funext i
 refine zd8 fun j hj=>?_
 rw [h.mem]
 constructor
 · rintro ⟨_,x,hx,e⟩
   obtain ⟨fr,to,k,ho,rfl⟩:=(zfQ hc).1 hx
   have e1:(i:Int)=fr:=congrArg DArc.fr e
   have e2:(j:Int)=to:=congrArg DArc.to e
   have e1:=Int.ofNat_inj.1 e1
   have e2:=Int.ofNat_inj.1 e2
   subst e1;subst e2
   exact ⟨k,ho⟩
 rintro ⟨k,ho⟩
 exact ⟨(ho.in hc).1,mkO i j k,(zfQ hc).2 ⟨i,j,k,ho,rfl⟩,rfl⟩
theorem AInv.rng {c:DCode} (hc:CodeR c) {k:Nat} {A:List DArc} (h:AInv ((zcG c).take k) A):∀ a∈A,(0≤a.fr∧a.fr<c.locks.length)∧0≤a.to∧a.to<c.locks.length:=fun a ha=>by
 obtain ⟨x,hx,rfl⟩:=(h.mem a).1 ha
 obtain ⟨fr,to,i,ho,rfl⟩:=(zfQ hc).1 (List.mem_of_mem_take hx)
 have:=ho.in hc
 show (0≤(fr:Int)∧(fr:Int)<_)∧0≤(to:Int)∧(to:Int)<_
 omega
noncomputable def zaD (c:DCode):List (List Nat):=ziu c.locks.length (RP (nxL c))
open Classical in
noncomputable def zfz (c:DCode):List (List Nat):=(List.range c.locks.length).flatMap fun n=>(zaD c).filter fun p=>decide (p.head?=some n∧zkD (nxL c) p)
theorem zda {p:List Nat} {n:Nat}:p.head?=some n→hd0 (zaF p)=n:=by
 cases p with
 | nil=>intro h;cases h
 | cons x l=>intro h;cases h;rfl
theorem zgL:∀ {l m:List (List Int)},l.Pairwise (fun a b=>hd0 a<hd0 b)→m.Pairwise (fun a b=>hd0 a<hd0 b)→(∀ x,x∈l↔x∈m)→l=m
 | [],[],_,_,_=>rfl
 | [],y :: m,_,_,h=>by have:=(h y).2 (by simp);cases this
 | x :: l,[],_,_,h=>by have:=(h x).1 (by simp);cases this
 | x :: l,y :: m,h1,h2,h=>by
   rw [List.pairwise_cons] at h1 h2
   have hxy:x=y:=by
     rcases List.mem_cons.1 ((h x).1 (by simp)) with e | hm
     · exact e
     rcases List.mem_cons.1 ((h y).2 (by simp)) with e | hl
     · exact e.symm
     have:=h1.1 y hl
     have:=h2.1 x hm
     omega
   subst hxy
   congr 1
   refine zgL h1.2 h2.2 fun z=>⟨fun hz=>?_,fun hz=>?_⟩
   · rcases List.mem_cons.1 ((h z).1 (by simp [hz])) with rfl | h'
     · have:=h1.1 z hz;omega
     exact h'
   rcases List.mem_cons.1 ((h z).2 (by simp [hz])) with rfl | h'
   · have:=h2.1 z hz;omega
   exact h'
theorem zjn {c:DCode}:∀ p∈zaD c,∃ i,i<c.locks.length∧p=zbw c.locks.length (zbh (RP (nxL c)) i):=fun p hp=>by
 obtain ⟨i,h1,_,h2⟩:=zfg (way:=RP (nxL c)) Whole.start (fun _ _ _=>RP.trans) p hp
 exact ⟨i,h1,h2⟩
theorem zos (c:DCode):(zaD c).Pairwise fun a b=>∀ x∈a,x∉b:=ziw Whole.start fun _ _ _=>RP.trans
theorem zcW (c:DCode):(zaD c).length≤c.locks.length:=zg7
theorem zek {c:DCode} {p:List Nat} (hp:p∈zaD c):∃ n,p.head?=some n∧n∈p∧n<c.locks.length:=by
 obtain ⟨i,hi,rfl⟩:=zjn p hp
 have hne:=zpl (way:=RP (nxL c)) hi
 cases e:zbw c.locks.length (zbh (RP (nxL c)) i) with
 | nil=>exact absurd e hne
 | cons x l=>
   have hx:x∈zbw c.locks.length (zbh (RP (nxL c)) i):=by rw [e];simp
   exact ⟨x,rfl,by simp,(za1.1 hx).1⟩
theorem zco {c:DCode} {p:List Nat} (hp:p∈zaD c):p.length≤c.locks.length∧∀ x∈p,x<c.locks.length:=by
 obtain ⟨i,hi,rfl⟩:=zjn p hp
 exact ⟨zbU,fun x hx=>(za1.1 hx).1⟩
theorem zjo (c:DCode):(zaD c).Pairwise fun a b=>hd0 (zaF a)≠hd0 (zaF b):=by
 refine (zos c).imp_of_mem fun {a b} ha hb h e=>?_
 obtain ⟨n,h1,h2,_⟩:=zek ha
 obtain ⟨m,k1,k2,_⟩:=zek hb
 rw [zda h1,zda k1] at e
 have e:=Int.ofNat_inj.1 e
 subst e
 exact h n h2 k2
theorem zlC {c:DCode} {p:List Nat}:p∈zfz c↔p∈zaD c∧zkD (nxL c) p:=by
 unfold zfz
 simp only [List.mem_flatMap,List.mem_range,List.mem_filter,decide_eq_true_eq]
 constructor
 · rintro ⟨n,_,h1,_,h2⟩;exact ⟨h1,h2⟩
 rintro ⟨h1,h2⟩
 obtain ⟨n,h3,_,h4⟩:=zek h1
 exact ⟨n,h4,h1,h3,h2⟩
theorem zm3 (c:DCode):(zfz c).Pairwise fun a b=>hd0 (zaF a)<hd0 (zaF b):=by
 unfold zfz
 refine List.pairwise_flatMap.2 ⟨fun n _=>?_,List.pairwise_lt_range.imp ?_⟩
 · refine ((zjo c).filter _).imp_of_mem fun {a b} ha hb h=>?_
   have h2:=(List.mem_filter.1 ha).2
   have h3:=(List.mem_filter.1 hb).2
   simp only [decide_eq_true_eq] at h2 h3
   exact absurd (by rw [zda h2.1,zda h3.1]) h
 intro n m hnm a ha b hb
 have h2:=(List.mem_filter.1 ha).2
 have h3:=(List.mem_filter.1 hb).2
 simp only [decide_eq_true_eq] at h2 h3
 rw [zda h2.1,zda h3.1]
 exact Int.ofNat_lt.2 hnm
noncomputable def zpH (c:DCode):List Nat:=(zaD c).flatten
theorem flat_len {m:Nat}:∀ {l:List (List Nat)},(∀ p∈l,p.length≤m)→l.flatten.length≤l.length*m
 | [],_=>by simp
 | a :: l,h=>by
   have h1:=h a (by simp)
   have h2:=flat_len (l:=l) fun b hb=>h b (by simp [hb])
   simp only [List.flatten_cons,List.length_append,List.length_cons,Nat.add_mul]
   omega
structure DEffect where
 keep:Int
 gen:Int
theorem DEffect.ext_iff {x y:DEffect}:x=y↔(x.keep=y.keep∧x.gen=y.gen):=⟨fun h=>by rw [h];exact ⟨rfl,rfl⟩,fun h=>by obtain ⟨h0,h1⟩:=h;cases x;cases y;simp only at h0 h1;simp only [h0,h1]⟩
instance:DecidableEq DEffect:=fun x y=>decidable_of_iff (x.keep=y.keep∧x.gen=y.gen) DEffect.ext_iff.symm
instance:Rep DEffect:=Rep.via fun x=>(x.keep,x.gen)
instance:RepZ DEffect:=⟨⟨(RepZ.zv:Int),(RepZ.zv:Int)⟩,RepZ.zc (Int×Int),fun w=>RepZ.zr (α:=Int×Int) w⟩
instance:Flat DEffect:=⟨fun h=>Flat.flat (α:=Int×Int) h⟩
theorem zia {n:Nat} (h:n<6):2^n<64:=Nat.pow_lt_pow_right (n:=6) (by omega) h
def F178 (a0 a1:Value) (w:World) (R:VW):Prop:=
 cL 156 [a0] w fun x6 w=>
 rD (Op.unary .not x6) w fun x7=>
 BR x7
 (R (iV 0) w)
 (cL 156 [a1] w fun x10 w=>
 rD (Op.unary .not x10) w fun x11=>
 BR x11
 (R (iV 0) w)
 (rB .sub 3 U0 T0 (iV 63) a1 w fun x15=>
 rB .and 3 T0 T0 a0 x15 w fun x16=>
 R x16 w))
def cfg178:Cfg:=⟨extL,[],[],[],[],[],[]⟩
theorem F178_call {a0 a1:Value} {w:World} {R:VW} (h:F178 a0 a1 w R):cL 178 [a0,a1] w R:=co (g:=cfg178) Tryz.func178 (by kernel_rfl) (by kernel_rfl) (by kernel_rfl) h
theorem zlD {w:World} {a:Nat} {b:Nat}   (ha:a<64) (hb:b<64) :
   CALL Tryz.prog 178 [.int .i64 (a:Int),.int .i64 (b:Int)] w fun r w'=>Ext w w'∧(r=.int .i64 ((a &&& (63-b):Nat):Int)):=by
 refine F178_call ?_
 unfold F178
 refine (zkU ).mono ?_
 rintro _ w1_ ⟨hx1_,rfl⟩
 refine zar ?_
 refine br (fun c1=>?_) (fun c1=>?_)
 · refine ⟨hx1_,?_⟩
   first | rfl | (exfalso;omega)
 refine (zkU ).mono ?_
 rintro _ w2_ ⟨hx2_,rfl⟩
 refine zar ?_
 refine br (fun c2=>?_) (fun c2=>?_)
 · refine ⟨(hx1_.trans hx2_),?_⟩
   first | rfl | (exfalso;omega)
 have e63:(63:Int)-(b:Int)=((63-b:Nat):Int):=by omega
 refine za9 (by unfold I64;omega) ?_
 rw [e63]
 refine zmf (by omega) (by omega) ?_
 refine ⟨(hx1_.trans hx2_),?_⟩
 first | rfl | (exfalso;omega)
theorem zkh {a b:Nat} (ha:a<64) (hb:b<64):a &&& (63-b)=zhM a b:=by
 refine Nat.eq_of_testBit_eq fun l=>?_
 rw [Nat.testBit_and,zce]
 cases h:a.testBit l
 · rfl
 have hl:=zd2 ha h
 have:=Nat.testBit_two_pow_sub_succ (n:=6) (x:=b) hb l
 rw [show 2^6-(b+1)=63-b by omega] at this
 rw [this,decide_eq_true hl,Bool.true_and]
def F137 (a0 a1:Value) (w:World) (R:VW):Prop:=
 NIL a0 <|
 rF 114 a0 0 w fun x9=>
 rF 32 x9 3 w fun x10=>
 rL 23 x10 w fun x11=>
 rX 23 x11 a1 w fun x13=>
 rL 3 x13 w fun x14=>
 LOOPI [5,6] [(Value.slice none 0 0),x14] w fun u3 w next3=>
 NIL a0 <|
 rF 114 a0 0 w fun x18=>
 rL 32 x18 w fun x19=>
 cL 134 [x19,a1] w fun x21 w=>
 rC (u3 6) x21 w fun x22=>
 BR x22
 (NIL a0 <|
 rF 114 a0 1 w fun x27=>
 rL 101 x27 w fun x28=>
 rX 101 x28 (u3 6) w fun x30=>
 rL 4 x30 w fun x31=>
 BR x31
 (oP (Instr.buildSlice 23 1 #[(0,(u3 6))]) w fun x34 w=>
 oP (Builtin.append_ #[23,23] 23 [(u3 5),x34].toArray) w fun x35 w=>
 rA (u3 6) (iV 1) w fun x24=>
 next3 [x35,x24] w)
 (rA (u3 6) (iV 1) w fun x24=>
 next3 [(u3 5),x24] w))
 (R (u3 5) w)
def cfg137:Cfg:=⟨extL,[],[(3,68719444064,[5,6])],[],[],[],[]⟩
theorem F137_call {a0 a1:Value} {w:World} {R:VW} (h:F137 a0 a1 w R):cL 137 [a0,a1] w R:=co (g:=cfg137) Tryz.func137 (by kernel_rfl) (by kernel_rfl) (by kernel_rfl) h
open Rep (rep)
def zgM (c:DCode) (i:Nat):Prop:=∃ p,p<c.procs.length∧zbJ c p i
structure WL (W0:World) (b:Nat) (c:DCode):Prop where
 code:At W0 b 0 c
 live:At W0 b (0+5) (zb0 c.ins.length (zgM c))
theorem zjp {n m:Nat} {p:Nat→Prop} (h:n≤m) (hp:∀ i,n≤i→i<m→¬p i):zbw m p=zbw n p:=by
 induction m with
 | zero=>(have:n=0:=by omega);subst this;rfl
 | succ m ih=>
   by_cases e:n=m+1
   · rw [e]
   rw [zde (hp m (by omega) (by omega)),ih (by omega) fun i h1 h2=>hp i h1 (by omega)]
theorem zm4 {w W0:World} {b p:Nat} {c:DCode} (hW:WL W0 b c) (e0:Ext W0 w) (hc:CodeR c) (hp:p<c.procs.length) :
   CALL Tryz.prog 137 [.pointer (some ⟨b,0,none⟩),.int .i64 (p:Int)] w fun r w'=>Ext w w'∧Own w.heap.size w' r (zaF (zbw c.ins.length (zbJ c p))):=by
 refine F137_call ?_
 unfold F137
 have hpe:p<c.entry.length:=by rw [hc.2.1.1];exact hp
 have hil:=hc.f.ins
 have h8:=hc.1.procs8
 obtain ⟨he1,he2,he3⟩:=zfF hc hpe
 obtain ⟨hz1,hz2,hz3⟩:=zoi hc hpe
 have hlv:∀ i,zbJ c p i→eN c p≤i∧i≤zN c p:=fun i h=>by
   have:=zgC hc hpe h
   exact zpz hc this.1 hpe this.2
 refine NIL.mk rfl ?_
 refine zaa zbO ?_
 refine zaa zaO ?_
 refine zab zbv (zal hW.code) e0 fun v11 h11=>?_
 refine zac u23 ty3 h11 hpe fun b1 o1 hA1=>?_
 rw [zbf hpe,he1] at hA1
 refine zad ty3 hA1 e0 fun _=>?_
 generalize hE:eN c p=E at *
 generalize hZ:zN c p=Z at *
 have h0:zbw E (zbJ c p)=[]:=by
   rw [zjp (n:=0) (Nat.zero_le _) fun i _ h2 h3=>by have:=hlv i h3;omega];rfl
 refine zaq (Z+1-E) (fun k us w'=>∃ (v:Value),us=[v,.int .i64 ((E+k:Nat):Int)]∧E+k≤Z+1∧Ext w w'∧RowI w.heap.size w'.heap.size 3 w' v (zaF (zbw (E+k) (zbJ c p)))) 0 (Nat.zero_le _) ⟨_,rfl,by omega,Ext.refl _,by rw [Nat.add_zero,h0];exact zdy _ _ _ _⟩ ?_
 rintro k mk u w2 hkm ⟨v,hu,hkl,hx2,hr2⟩
 obtain ⟨hu1,hu2⟩:=zcO hu
 rw [hu1,hu2]
 have hx02:=e0.trans hx2
 have hs2:=hx2.size
 refine NIL.mk rfl ?_
 refine zaa zbO ?_
 refine zab zdh hW.code hx02 fun v19 h19=>?_
 refine (zc7 h19 hx02 (by omega)).mono ?_
 rintro _ w3 ⟨hx3,rfl⟩
 rw [hz1]
 have hx03:=hx02.trans hx3
 refine zah ?_
 refine br (fun hlt=>?_) (fun hge=>?_)
 case refine_2=>
   have hk:E+k=Z+1:=by omega
   refine ⟨hx2.trans hx3,?_⟩
   rw [zjp (n:=Z+1) (by omega) fun i h1 _ h3=>by have:=hlv i h3;omega,←hk]
   exact (hr2.ext hx3).own.own
 have hk:E+k<c.ins.length:=by omega
 refine NIL.mk rfl ?_
 refine zaa zjM ?_
 refine zab zck hW.live hx03 fun v28 h28=>?_
 refine zac zdi ty4 (i:=E+k) h28 (by rw [zas];exact hk) fun b2 o2 hA2=>?_
 refine zaX ty4 hA2 hx03 ?_
 have hmk:=zbl (n:=c.ins.length) (p:=zgM c) (i:=E+k)
 rw [za5 (by rw [zas];exact hk)] at hmk
 have hiff:zgM c (E+k)↔zbJ c p (E+k):=by
   constructor
   · rintro ⟨q,hq,hl⟩
     have h1:=zgC hc (by rw [hc.2.1.1];exact hq) hl
     have h2:=zpA hc (p:=p) (i:=E+k) hpe (by omega) (by omega)
     have:q=p:=by omega
     rwa [this] at hl
   exact fun h=>⟨p,hp,h⟩
 have hsl:=zbU (n:=E+k) (p:=zbJ c p)
 refine zb8 (fun hf=>?_) (fun hf=>?_)
 · refine zcP (lo2:=w3.heap.size) (hi2:=w3.heap.size) (x:=((E+k:Nat):Int)) u23 ty3 z3 zc3 (by decide) (hr2.ext hx3) (by have:=hx3.size;omega) (ownI_int _ _ (by unfold I64;omega)) (by have:=hx3.size;omega) (by have:=hx3.size;omega) (by rw [zam,zag];omega) (by rw [zag];omega) fun v54 w9 hc9 hr9=>?_
   refine zaf (by omega) ?_
   refine ⟨mk-1,by omega,k+1,by omega,v54,rfl,by omega,(hx2.trans hx3).chgI hc9 (by omega),?_⟩
   rw [←Nat.add_assoc,zcE (hiff.1 (hmk.1 hf).2),zbK]
   exact hr9
 refine zaf (by omega) ?_
 refine ⟨mk-1,by omega,k+1,by omega,v,rfl,by omega,hx2.trans hx3,?_⟩
 rw [←Nat.add_assoc,zde fun h=>by rw [hmk.2 ⟨hk,hiff.2 h⟩] at hf;cases hf]
 exact (hr2.ext hx3).mono (Nat.le_refl _) hx3.size
theorem zfa {w:World} {n:Nat} {K:Value→World→Prop} (h0:0<n) (hn:n≤1000000)
   (k:∀ w',Ext w w'→Mine [w.heap.size] w' (.slice (some ⟨w.heap.size,0,none⟩) n n) (zaF (List.replicate n 0))→K (.slice (some ⟨w.heap.size,0,none⟩) n n) w'):OP Tryz.prog (Instr.makeSlice 23 (.int .i64 (n:Int)) (.int .i64 (n:Int))) w K:=
 zeb (α:=Int) u23 ty3 rfl rfl zqL (by omega) (by omega) fun w2 hx2 hr2=>by
   refine k w2 hx2 ?_
   obtain ⟨F,hM,hF⟩:=hr2.own
   obtain ⟨b,o,cap,hv,hF2⟩:=zfN hM (by intro e;have:=congrArg List.length e;simp at this;omega)
   simp only [Value.slice.injEq,Option.some.injEq,Addr.mk.injEq,List.cons.injEq,and_true] at hv
   obtain ⟨⟨hb,ho⟩,_⟩:=hv
   rw [←hb] at hF2
   rw [hF2] at hM
   have e:zaF (List.replicate n 0)=List.replicate n (RepZ.zv:Int):=by simp only [zaF,List.map_replicate];rfl
   rw [e];exact hM
structure FW (w1 w:World) (g n:Nat) (out:List Nat):Prop where
 ext:Ext w1 w
 mine:Mine [g] w (.slice (some ⟨g,0,none⟩) n n) (zaF out)
 g0:w1.heap.size≤g
section
variable {w1 w w':World} {g n:Nat} {out:List Nat}
theorem FW.lt (h:FW w1 w g n out):g<w.heap.size:=h.mine.lt g (by simp)
theorem FW.own (h:FW w1 w g n out):Own w1.heap.size w (.slice (some ⟨g,0,none⟩) n n) (zaF out):=⟨[g],h.mine,fun b hb=>by simp only [List.mem_cons,List.not_mem_nil,or_false] at hb;have:=h.g0;omega⟩
end
theorem zel {w:World} {v:Nat} (h:v<9223372036854775808):Mine [] w (.int .i64 (v:Int)) (v:Int):=za6 (by unfold I64;omega)
section
variable {c:DCode} {T:Tab} {p h k i q m:Nat} {out0 L out:List Nat} {ag:Bool}
end
theorem zgN {p:Nat→Prop} {n:Nat}:∀ {k:Nat},k≤n→zb3 (zbF p n) k=zaF (zbw k p)
 | 0,_=>rfl
 | k+1,h=>by
   rw [zb3,zgN (k:=k) (by omega)]
   by_cases hp:p k
   · rw [if_pos (zaA.2 ⟨by omega,hp⟩),zcE hp,zbK];rfl
   rw [if_neg fun e=>hp (zaA.1 e).2,zde hp]
theorem zlE {p:Nat→Prop} {n:Nat} (h:n≤62):zba (zbF p n)=zaF (zbw n p):=by
 rw [zhN (k:=n) zhA (by omega),zgN (Nat.le_refl _)]
theorem zcI {p:Nat→Prop} {n:Nat} (h:n≤8):zbF p n<256:=Nat.lt_of_lt_of_le zhA (Nat.pow_le_pow_right (n:=2) (by omega) h)
noncomputable def cls (c:DCode) (op:Int):List Nat:=(List.range c.procs.length).map fun p=>zbF (zjz c p op) c.procs.length
noncomputable def frs (c:DCode):List Nat:=(List.range c.procs.length).map fun p=>zbF (FromP c p) c.procs.length
theorem zft (c:DCode) (op:Int):(cls c op).length=c.procs.length:=by simp [cls]
theorem zib (c:DCode):(frs c).length=c.procs.length:=by simp [frs]
theorem zo1 {c:DCode} {op:Int} {p:Nat} (hp:p<c.procs.length):zaG (cls c op) p=zbF (zjz c p op) c.procs.length:=by rw [←zbI (by rw [zft];exact hp)];simp [cls]
theorem zo2 {c:DCode} {p:Nat} (hp:p<c.procs.length):zaG (frs c) p=zbF (FromP c p) c.procs.length:=by rw [←zbI (by rw [zib];exact hp)];simp [frs]
noncomputable def zfb (c:DCode):Nat:=zbF (RootP c) c.procs.length
noncomputable def zlF (c:DCode):Nat:=zbF (UsedP c) c.procs.length
structure WAt (W0:World) (b:Nat) (c:DCode):Prop where
 wl:WL W0 b c
 calls:At W0 b (0+6) (zaF (cls c 4))
 spawns:At W0 b (0+7) (zaF (cls c 5))
 frm:At W0 b (0+8) (zaF (frs c))
 roots:At W0 b (0+9) (zfb c:Int)
 used:At W0 b (0+10) (zlF c:Int)
theorem zb5 {α:Type} {l:List α} {k:Nat} (hk:k<l.length) {x:α}:x∈l.take (k+1)↔x∈l.take k∨x=l[k]:=by
 rw [List.take_succ_eq_append_getElem hk,List.mem_append];simp
theorem zgO {c:DCode} (hc:CodeR c) {p:Nat} (hp:p<c.procs.length):zcB c p=((zN c p+1:Nat):Int)∧zdD c p=(zN c p:Int)∧zN c p<c.ins.length:=by
 have h:=zoi hc (p:=p) (by rw [hc.2.1.1];exact hp)
 refine ⟨by omega,?_,h.2.2⟩
 rw [zc6];omega
section
variable {w1 w w':World} {g:Nat} {v:Value} {T:Tab}
end
def F151 (a0:Value) (w:World) (R:VW):Prop:=
 oP (Instr.box 32 a0) w fun x1 w=>
 rF 32 x1 2 w fun x10=>
 rL 22 x10 w fun x11=>
 rN 22 3 x11 w fun x12=>
 oP (Instr.makeSlice 101 x12 x12) w fun x13 w=>
 rL 32 x1 w fun x15=>
 cL 211 [x15] w fun x16 w=>
 rX 101 x13 x16 w fun x17=>
 oS 4 x17 (Value.bool true) w fun w=>
 rL 32 x1 w fun x18=>
 cL 211 [x18] w fun x19 w=>
 oP (Instr.buildSlice 23 1 #[(0,x19)]) w fun x20 w=>
 LOOPI [4,5] [x20,(iV 0)] w fun u5 w next5=>
 rN 23 3 (u5 4) w fun x23=>
 rC (u5 5) x23 w fun x24=>
 BR x24
 ((fun w=>rL 32 x1 w fun x27=>
 rX 23 (u5 4) (u5 5) w fun x30=>
 rL 3 x30 w fun x31=>
 cL 152 [x27,x31] w fun x32 w=>
 cL 176 [x32] w fun x33 w=>
 LOOPI [4,7] [(u5 4),(iV 0)] w fun u9 w next9=>
 rN 23 3 x33 w fun x36=>
 rC (u9 7) x36 w fun x37=>
 BR x37
 ((fun w=>rL 32 x1 w fun x40=>
 rX 23 x33 (u9 7) w fun x43=>
 rL 3 x43 w fun x44=>
 cL 212 [x40,x44,(iV 5)] w fun x45 w=>
 LOOPI [4,9] [(u9 4),(iV 0)] w fun u13 w next13=>
 rN 23 3 x45 w fun x48=>
 rC (u13 9) x48 w fun x49=>
 BR x49
 (rX 23 x45 (u13 9) w fun x55=>
 rL 3 x55 w fun x56=>
 rX 101 x13 x56 w fun x57=>
 rL 4 x57 w fun x58=>
 rD (Op.unary .not x58) w fun x59=>
 BR x59
 (rX 23 x45 (u13 9) w fun x63=>
 rL 3 x63 w fun x64=>
 rX 101 x13 x64 w fun x65=>
 oS 4 x65 (Value.bool true) w fun w=>
 rX 23 x45 (u13 9) w fun x69=>
 rL 3 x69 w fun x70=>
 oP (Instr.buildSlice 23 1 #[(0,x70)]) w fun x71 w=>
 oP (Builtin.append_ #[23,23] 23 [(u13 4),x71].toArray) w fun x72 w=>
 rA (u13 9) (iV 1) w fun x51=>
 next13 [x72,x51] w)
 (rA (u13 9) (iV 1) w fun x51=>
 next13 [(u13 4),x51] w))
 (rA (u9 7) (iV 1) w fun x39=>
 next9 [(u13 4),x39] w)) (World.drew1 w))
 (rA (u5 5) (iV 1) w fun x26=>
 next5 [(u9 4),x26] w)) (World.drew1 w))
 (R x13 w)
def cfg151:Cfg:=⟨extL,[],[(5,9444732965739288331248,[4,5]),(9,9444732965722110559120,[4,7]),(13,9444732895370546250256,[4,9])],[(7,[0,1,2,3,4,5,6,7],0),(11,[0,1,2,3,4,5,6],0)],[],[],[]⟩
theorem F151_call {a0:Value} {w:World} {R:VW} (h:F151 a0 w R):cL 151 [a0] w R:=co (g:=cfg151) Tryz.func151 (by kernel_rfl) (by kernel_rfl) (by kernel_rfl) h
open Rep (rep)
noncomputable def zlQ (c:DCode) (p:Nat):List Nat:=zbw c.procs.length (zjz c p 5)
noncomputable def zot (c:DCode) (r:Nat):List Nat:=zbw c.procs.length (FromP c r)
noncomputable def zhn (c:DCode) (r:Nat):List Nat:=(zot c r).flatMap (zlQ c)
theorem zm5 {c:DCode} (hc:CodeR c) (q:Nat):RootP c q↔q=zfG c∨RP (zhn c) (zfG c) q:=by
 have hmem:∀ r q,q∈zhn c r↔∃ p,p<c.procs.length∧FromP c r p∧q<c.procs.length∧zjz c p 5 q:=fun r q=>by
   unfold zhn zot zlQ
   simp only [List.mem_flatMap,za1]
   exact ⟨fun ⟨p,⟨h1,h2⟩,h3,h4⟩=>⟨p,h1,h2,h3,h4⟩,fun ⟨p,h1,h2,h3,h4⟩=>⟨p,⟨h1,h2⟩,h3,h4⟩⟩
 constructor
 · intro h
   induction h with
   | main=>exact .inl rfl
   | @spawn r p q h0 h1 h2 hq ih=>
     have hm:=(hmem r q).2 ⟨p,h1.lt (h0.lt hc),h1,hq,h2⟩
     rcases ih with rfl | ih
     · exact .inr (.one hm)
     exact .inr (.more ih hm)
 rintro (rfl | h)
 · exact .main
 refine h.keeps (p:=RootP c) .main fun i j hi hj=>?_
 obtain ⟨p,_,h1,h2,h3⟩:=(hmem i j).1 hj
 exact .spawn hi h1 h3 h2
theorem zou {α β:Type} {f:α→List β} {L:List α} {i j:Nat} (hi:i<L.length) (hj:j<(f L[i]).length):∃ h:((L.take i).flatMap f).length+j<(L.flatMap f).length,(L.flatMap f)[((L.take i).flatMap f).length+j]=(f L[i])[j]:=by
 have e:L.flatMap f=(L.take i).flatMap f++(f L[i]++(L.drop (i+1)).flatMap f):=by
   rw [←List.flatMap_cons,←List.flatMap_append]
   congr 1
   rw [←List.drop_eq_getElem_cons hi,List.take_append_drop]
 have hlt:((L.take i).flatMap f).length+j<(L.flatMap f).length:=by rw [e];simp only [List.length_append];omega
 refine ⟨hlt,?_⟩
 have:(L.flatMap f)[((L.take i).flatMap f).length+j]?=some (f L[i])[j]:=by
   rw [e,List.getElem?_append_right (by omega),Nat.add_sub_cancel_left,List.getElem?_append_left hj,List.getElem?_eq_getElem hj]
 rw [List.getElem?_eq_getElem hlt] at this
 exact Option.some.inj this
theorem zm6 {α β:Type} {f:α→List β} {L:List α} {i:Nat} (hi:i<L.length):((L.take (i+1)).flatMap f).length=((L.take i).flatMap f).length+(f L[i]).length:=by
 rw [List.take_succ_eq_append_getElem hi,List.flatMap_append,List.length_append];simp
theorem zki {w W0:World} {v0:Value} {c:DCode} (h0:Is W0 v0 c) (e0:Ext W0 w) (hc:CodeR c) :
   CALL Tryz.prog 151 [v0] w fun r w'=>Ext w w'∧Own w.heap.size w' r (zb0 c.procs.length (RootP c)):=by
 refine F151_call ?_
 unfold F151
 have h8:=hc.1.procs8
 obtain ⟨hm1,hm2⟩:=ze8 hc
 have hR:=zm5 hc
 have hcn:∀ x,zhn c x=(zot c x).flatMap (zlQ c):=fun _=>rfl
 have hnl:∀ {i j:Nat},i<c.procs.length→j∈zhn c i→j<c.procs.length∧True:=fun {i j} _ hj=>by
   rw [hcn] at hj
   obtain ⟨p,_,h⟩:=List.mem_flatMap.1 hj
   exact ⟨(za1.1 h).1,trivial⟩
 refine zdm h0 e0 fun w1 hx1 hA=>?_
 have hs1:=hx1.size
 refine zaa zbS ?_
 refine zab zb1 (zaw hA) (Ext.refl _) fun v11 h11=>?_
 refine zae u22 h11 ?_
 refine zeg h8.2 (by omega) fun w2 hx2 hM2=>?_
 have hs2:=hx2.size
 refine zab zdh hA hx2 fun v15 h15=>?_
 refine (zhi h15 hx2).mono ?_
 rintro _ w2a ⟨hx2a,rfl⟩
 rw [hm1]
 have hs2a:=hx2a.size
 have hM2a:=hM2.ext hx2a
 generalize hn:c.procs.length=n at *
 generalize zfG c=a at *
 refine zch (α:=Bool) rfl zdi ty4 hm2 ?_
 refine zbx (α:=Bool) rfl ty4 hM2a (by simp) hm2 za8 fun w2b hc2 hM2b=>?_
 have hc2':ChgI w1.heap.size (w1.heap.size+1) w2a w2b:=hc2.toI fun b hb=>by simp only [List.mem_cons,List.not_mem_nil,or_false] at hb;omega
 have hs2b:=hc2'.size
 have hM0l:((List.replicate n false).set a true).length=n:=by simp
 have hM0:∀ i,mkd ((List.replicate n false).set a true) i↔i=a:=fun i=>by
   rw [zbE (by simp;exact hm2)]
   exact ⟨fun h=>h.resolve_left zbk,.inr⟩
 generalize (List.replicate n false).set a true=M0 at *
 have hx12b:Ext w1 w2b:=(hx2.trans hx2a).chgI hc2' (by omega)
 refine zab zdh hA hx12b fun v18 h18=>?_
 refine (zhi h18 hx12b).mono ?_
 rintro _ w2c ⟨hx2c,rfl⟩
 rw [hm1]
 have hs2c:=hx2c.size
 refine zbB (x:=(a:Int)) u23 ty3 z3 (by decide) (za6 (by unfold I64;omega)) fun v20 w3 hx3 hr3=>?_
 have hs3:=hx3.size
 generalize hm:w1.heap.size=m at *
 have hW3:WI w1 w3 m n w2c.heap.size w3.heap.size v20 [a] M0:=⟨(((hx2.trans hx2a).toI.trans hc2').trans hx2c.toI).trans hx3.toI,hr3,(hM2b.ext hx2c).ext hx3,by omega,by have:=hM2b.lt m (by simp);omega,hs3,Nat.le_refl _⟩
 have hfl:∀ x p,p∈zot c x→p<n:=fun x p hp=>by have:=(za1.1 hp).1;omega
 have hfll:∀ x,(zot c x).length≤n:=fun x=>by have:=zbU (n:=c.procs.length) (p:=FromP c x);rw [hn] at this;unfold zot;rw [hn];exact this
 have holl:∀ x,(zlQ c x).length≤n:=fun x=>by have:=zbU (n:=c.procs.length) (p:=zjz c x 5);rw [hn] at this;unfold zlQ;rw [hn];exact this
 generalize hnx:zhn c=nx at *
 refine zaq (1+n) (fun h us w'=>∃ (tv:Value) (lo hi:Nat) (L:List Nat) (ms:List Bool),us=[tv,.int .i64 (h:Int)]∧h≤L.length∧WI w1 w' m n lo hi tv L ms∧SInv nx n a M0 ms (L.drop h) h) 0 (Nat.zero_le _) ⟨v20,_,_,[a],_,rfl,by simp,hW3,SInv.start hM0l hm2⟩ ?_
 rintro h mk u w4 hkm ⟨tv,lo,hi,L,ms,hu,hhL,hW4,hS4⟩
 obtain ⟨hu1,hu2⟩:=zcO hu;clear hu
 rw [hu1,hu2]
 have hb4:=hS4.bound
 rw [List.length_drop] at hb4
 refine zae u23 hW4.row.is ?_
 rw [zag]
 refine zah ?_
 refine br (fun hlt=>?_) (fun hge=>?_)
 case refine_2=>
   have hhe:h=L.length:=by omega
   rw [hhe,List.drop_length] at hS4
   have hfin:=hS4.fin fun i hi hne=>absurd ((hM0 i).1 hi) hne
   have hms:ms=zb0 n (RootP c):=zbr hS4.len fun i hi=>by rw [hfin i,hM0,hR]
   rw [←hms]
   have hx4:Ext w1 w4:=(Ext.refl w1).chgI hW4.chg (by omega)
   exact ⟨hx1.trans hx4,[m],hW4.mks,fun b hb=>by simp only [List.mem_cons,List.not_mem_nil,or_false] at hb;omega⟩
 have hh:h<L.length:=by omega
 have hx5:=zan w4
 have hW5:=hW4.step hx5
 generalize World.drew1 w4=w5 at *
 have hxa:∀ {w:World} {lo hi tv L ms},WI w1 w m n lo hi tv L ms→Ext w1 w:=fun h=>(Ext.refl w1).chgI h.chg (by omega)
 refine zab zdh hA (hxa hW5) fun v27 h27=>?_
 refine zac u23 ty3 (i:=h) hW5.row.is (by rw [zag];exact hh) fun b1 o1 hA1=>?_
 rw [zaY] at hA1
 refine zad ty3 hA1 (Ext.refl _) fun _=>?_
 generalize hx:L[h]=x at *
 have hdr:L.drop h=x :: L.drop (h+1):=by rw [List.drop_eq_getElem_cons hh,hx]
 have hxn:x<n:=(hS4.tdo x (by rw [hdr];simp)).2
 refine (zj7 h27 (hxa hW5) hc (by rw [hn];exact hxn)).mono ?_
 rintro _ w6a ⟨hx6a,gf,rfl,hgf,hMf⟩
 refine (zd1 hMf.is (Ext.refl _) (by rw [zas];omega)).mono ?_
 rintro v33 w6 ⟨hx6,ho6⟩
 have hFr:(fun i=>i=x∨RP (zi8 c) x i)=FromP c x:=rfl
 rw [zas,zgz,hFr] at ho6
 have ho6':Own w6a.heap.size w6 v33 (zaF (zot c x)):=ho6
 have hW6:=(hW5.step hx6a).step hx6
 have hI6:=hW5.h3
 have hs6a:=hx6a.size
 have hs6:=hx6.size
 have hS6:SIn2 nx n a M0 ms (L.drop (h+1)) h x 0:=hS4.pop (fun i=>by rw [hdr];simp [or_comm]) (by rw [hdr];simp)
 have hfx:=hfll x
 have hflx:=hfl x
 have hnxx:nx x=(zot c x).flatMap (zlQ c):=hcn x
 generalize zot c x=Fl at *
 refine zaq Fl.length (fun k us w'=>∃ (tv:Value) (lo hi:Nat) (L:List Nat) (ms:List Bool),us=[tv,.int .i64 (k:Int)]∧k≤Fl.length∧h<L.length∧WI w1 w' m n lo hi tv L ms∧SIn2 nx n a M0 ms (L.drop (h+1)) h x ((Fl.take k).flatMap (zlQ c)).length∧OwnI w6a.heap.size w6.heap.size w' v33 (zaF Fl)∧(hi≤w6a.heap.size∨w6.heap.size≤lo)∧w6.heap.size≤w'.heap.size) 0 (Nat.zero_le _) ⟨tv,lo,hi,L,ms,rfl,Nat.zero_le _,hh,hW6,hS6,ho6'.toI,.inl (by omega),Nat.le_refl _⟩ ?_
 rintro k mk9 u w7 hkm9 ⟨tv7,lo7,hi7,L7,ms7,hu,hkl,hh7,hW7,hS7,ho7,hd7,hz7⟩
 obtain ⟨hu1,hu2⟩:=zcO hu;clear hu
 rw [hu1,hu2]
 refine zae u23 ho7.is ?_
 rw [zag]
 refine zah ?_
 refine br (fun hlt7=>?_) (fun hge7=>?_)
 case refine_2=>
   refine zaf (by omega) ?_
   refine ⟨mk-1,by omega,h+1,by omega,tv7,lo7,hi7,L7,ms7,rfl,by omega,hW7,hS7.done ?_⟩
   rw [hnxx,show Fl.take k=Fl from List.take_of_length_le (by omega)]
   exact Nat.le_refl _
 have hk:k<Fl.length:=by omega
 have hx8:=zan w7
 have hW8:=hW7.step hx8
 have ho8:=ho7.ext hx8
 have hs8:=hx8.size
 generalize World.drew1 w7=w8 at *
 refine zab zdh hA (hxa hW8) fun v40 h40=>?_
 refine zac u23 ty3 (i:=k) ho8.is (by rw [zag];exact hk) fun b2 o2 hA2=>?_
 rw [zaY] at hA2
 refine zad ty3 hA2 (Ext.refl _) fun _=>?_
 have hfp:=fun j=>zou (f:=zlQ c) (L:=Fl) (i:=k) (j:=j) hk
 have hfn:=zm6 (f:=zlQ c) (L:=Fl) (i:=k) hk
 have hpn:=hflx _ (List.getElem_mem hk)
 rw [←hnxx] at hfp
 generalize Fl[k]=p at *
 refine (zi7 h40 (hxa hW8) hc (p:=p) (op:=5) (by rw [hc.2.1.1,hn];exact hpn) (.inr rfl)).mono ?_
 rintro v45 w9 ⟨hx9,ho9⟩
 have ho9':Own w8.heap.size w9 v45 (zaF (zlQ c p)):=ho9
 have hW9:=hW8.step hx9
 have hs9:=hx9.size
 have hop:=holl p
 generalize zlQ c p=Ol at *
 generalize hq0:((Fl.take k).flatMap (zlQ c)).length=q0 at *
 have hI8:=hW8.h3
 refine zaq Ol.length (fun j us w'=>∃ (tv:Value) (lo hi:Nat) (L:List Nat) (ms:List Bool),us=[tv,.int .i64 (j:Int)]∧j≤Ol.length∧h<L.length∧WI w1 w' m n lo hi tv L ms∧SIn2 nx n a M0 ms (L.drop (h+1)) h x (q0+j)∧OwnI w6a.heap.size w6.heap.size w' v33 (zaF Fl)∧(hi≤w6a.heap.size∨w6.heap.size≤lo)∧OwnI w8.heap.size w9.heap.size w' v45 (zaF Ol)∧(hi≤w8.heap.size∨w9.heap.size≤lo)∧w9.heap.size≤w'.heap.size) 0 (Nat.zero_le _) ⟨tv7,lo7,hi7,L7,ms7,rfl,Nat.zero_le _,hh7,hW9,hS7,ho8.ext hx9,hd7,ho9'.toI,.inl hI8,Nat.le_refl _⟩ ?_
 rintro j mk13 u w10 hkm13 ⟨tv10,lo10,hi10,L10,ms10,hu,hjl,hh10,hW10,hS10,ho10,hd10,hp10,hd10b,hz10⟩
 obtain ⟨hu1,hu2⟩:=zcO hu
 rw [hu1,hu2]
 refine zae u23 hp10.is ?_
 rw [zag]
 refine zah ?_
 refine br (fun hlt10=>?_) (fun hge10=>?_)
 case refine_2=>
   refine zaf (by omega) ?_
   refine ⟨mk9-1,by omega,k+1,by omega,tv10,lo10,hi10,L10,ms10,rfl,by omega,hh10,hW10,?_,ho10,hd10,by omega⟩
   rw [hfn,show Ol.length=j by omega]
   exact hS10
 have hj:j<Ol.length:=by omega
 obtain ⟨hq,hqe⟩:=hfp j hj
 have hrd:∀ {w:World} {K:Value→Prop} (ho:OwnI w8.heap.size w9.heap.size w v45 (zaF Ol)) (kk:K (.int .i64 (((nx x)[q0+j]:Nat):Int))),RD Tryz.prog (Instr.indexAt 23 v45 (.int .i64 (j:Int))) w fun x37=>RD Tryz.prog (Instr.loadAt 3 x37) w K:=fun ho kk=>by
   refine zac u23 ty3 (i:=j) ho.is (by rw [zag];exact hj) fun b1 o1 hA1=>?_
   rw [zaY,←hqe] at hA1
   exact zad ty3 hA1 (Ext.refl _) fun _=>kk
 have hy:=hnl hxn (List.getElem_mem hq)
 refine hrd hp10 ?_
 have hlen10:=hS10.len
 refine zac zdi ty4 hW10.mks.is (by rw [hlen10];exact hy.1) fun b3 o3 hA3=>?_
 refine zaX ty4 hA3 (Ext.refl _) ?_
 refine zaW ?_
 have hmk10:=za5 (ms:=ms10) (i:=(nx x)[q0+j]) (by rw [hlen10];exact hy.1)
 refine zb8 (fun hf=>?_) (fun hf=>?_)
 · have hnm:¬mkd ms10 (nx x)[q0+j]:=by rw [hmk10];simpa using hf
   refine hrd hp10 ?_
   refine zch (α:=Bool) rfl zdi ty4 hy.1 ?_
   refine zbx (α:=Bool) rfl ty4 hW10.mks hlen10 hy.1 za8 fun w11 hc11 hm11=>?_
   have hW11:=hW10.mark hc11 hm11
   have hc11':ChgI m (m+1) w10 w11:=hc11.toI fun b hb=>by simp only [List.mem_cons,List.not_mem_nil,or_false] at hb;omega
   have hm4:=hW5.mks.lt m (by simp)
   have ho11:=ho10.chg hc11' (by omega)
   have hp11:=hp10.chg hc11' (by omega)
   refine hrd hp11 ?_
   have hS11:=hS10.push hq hy.1 hnm
   generalize (nx x)[q0+j]=y at *
   have hLb:L10.length≤2+n:=by
     have h1:=hS10.cnt
     have h2:=zdP ms10
     rw [List.length_drop] at h1
     omega
   refine zdr (x:=(y:Int)) u23 ty3 z3 zc3 (by decide) hW11.row (ownI_int 0 0 (by unfold I64;omega)) (by rw [zam,zag];omega) (by rw [zag];omega) fun v54 w12 lo12 hi12 hc12 hr12 hd12=>?_
   have hW12:=hW11.push hc12 hr12 hd12
   have hsz11:=hc11'.size
   have hsz12:=hc12.size
   refine zaf (by omega) ?_
   refine ⟨mk13-1,by omega,j+1,by omega,v54,lo12,hi12,L10++[y],_,rfl,by omega,by simp;omega,hW12,?_,ho11.chg hc12 (by omega),by omega,hp11.chg hc12 (by omega),by omega,by omega⟩
   rw [List.drop_append_of_le_length (by omega)]
   exact hS11
 have hnm:mkd ms10 (nx x)[q0+j]:=by rw [hmk10];simpa using hf
 refine zaf (by omega) ?_
 exact ⟨mk13-1,by omega,j+1,by omega,tv10,lo10,hi10,L10,ms10,rfl,by omega,hh10,hW10,hS10.skip hq hnm,ho10,hd10,hp10,hd10b,hz10⟩
def MC (c:DCode) (ms:List Bool) (i:Nat):Prop:=
 ((zaj c i).op=4→mkd ms (eN c (agN c i))∧(mkd ms (zN c (agN c i))→∀ j∈zaz c i,mkd ms j))∧(¬(zaj c i).op=4→∀ j∈zaz c i,mkd ms j)
structure TP (c:DCode) (ms0:List Bool) (ag:Bool) (ms:List Bool) (k:Nat):Prop where
 len:ms.length=c.ins.length
 snd:∀ i,mkd ms i→MetP c i
 root:∀ p,RootP c p→mkd ms (eN c p)
 yes:ag=true→zfI ms0<zfI ms
 no:ag=false→ms=ms0∧∀ i,i<k→mkd ms0 i→MC c ms0 i
theorem zdb {ms:List Bool} {i j:Nat} (h:mkd ms j):mkd (ms.set i true) j:=by
 have hl:=zkC h
 by_cases hi:i<ms.length
 · exact (zbE hi).2 (.inl h)
 rw [List.set_eq_of_length_le (by omega)];exact h
theorem zgP {ms:List Bool} {i:Nat} (h:mkd ms i):ms.set i true=ms:=by
 have hl:=zkC h
 rw [za5 hl] at h
 rw [←h];exact List.set_getElem_self hl
def zp2 (ms:List Bool) (i:Nat) (ag:Bool):Bool:=ag || !ms.getD i false
theorem zkZ {ms:List Bool} {i:Nat} {ag:Bool} (h:mkd ms i):zp2 ms i ag=ag:=by
 unfold mkd at h;unfold zp2;rw [h];simp
theorem zk0 {ms:List Bool} {i:Nat} {ag:Bool} (h:¬mkd ms i):zp2 ms i ag=true:=by
 unfold mkd at h;unfold zp2;rw [Bool.not_eq_true] at h;rw [h];simp
theorem TP.meet {c:DCode} {ms0 ms:List Bool} {ag:Bool} {k i:Nat} (h:TP c ms0 ag ms k) (hi:i<c.ins.length) (hm:MetP c i):TP c ms0 (zp2 ms i ag) (ms.set i true) k:=by
 by_cases hk:mkd ms i
 · rw [zkZ hk,zgP hk];exact h
 rw [zk0 hk]
 have hc:=zeS (by rw [h.len];exact hi) hk
 refine ⟨by simp [h.len],fun j hj=>?_,fun p hp=>zdb (h.root p hp),fun _=>?_,fun e=>by cases e⟩
 · rcases (zbE (by rw [h.len];exact hi)).1 hj with h1 | h1
   · exact h.snd j h1
   rw [h1];exact hm
 cases ag with
 | true=>have:=h.yes rfl;omega
 | false=>rw [←(h.no rfl).1];omega
theorem TP.next {c:DCode} {ms0 ms:List Bool} {ag:Bool} {k:Nat} (h:TP c ms0 ag ms k) (hk:mkd ms k→MC c ms k):TP c ms0 ag ms (k+1):=
 ⟨h.len,h.snd,h.root,h.yes,fun e=>⟨(h.no e).1,fun i hi hm=>by
   by_cases e2:i=k
   · subst e2;rw [(h.no e).1] at hk;exact hk hm
   exact (h.no e).2 i (by omega) hm⟩⟩
theorem TP.fin {c:DCode} (hc:CodeR c) {ms0 ms:List Bool} (h:TP c ms0 false ms c.ins.length):ms=zfd c:=by
 obtain ⟨h1,h2⟩:=h.no rfl
 refine zbr h.len fun i hi=>⟨h.snd i,fun hm=>?_⟩
 have hC:MetC c (mkd ms):=⟨h.root,fun i hi ho=>?_,fun i j hi ho hj=>?_,fun i j hi ho hz hj=>?_⟩
 · exact hC.all hm
 all_goals
   have hil:=zkC hi
   rw [h.len] at hil
   have:=h2 i hil (by rw [←h1];exact hi)
   rw [←h1] at this
 · exact (this.1 ho).1
 · exact this.2 ho j hj
 exact (this.1 ho).2 hz j hj
theorem TP.again {c:DCode} {ms0 ms:List Bool} {ag:Bool} {k:Nat} (h:TP c ms0 ag ms k):TP c ms false ms 0:=
 ⟨h.len,h.snd,h.root,fun e=>(by cases e),fun _=>⟨rfl,fun i hi=>by omega⟩⟩
def zem (m n:Nat):Prop:=∀ l,l<6→m.testBit l=true→n.testBit l=true
def HC (c:DCode) (out:List Nat) (i:Nat):Prop:=
 ((zaj c i).op=4→zem (zaG out i) (zaG out (eN c (agN c i)))∧(MetP c (zN c (agN c i))→∀ j∈zaz c i,zem (zaG out (zN c (agN c i))) (zaG out j)))∧(¬(zaj c i).op=4→∀ j∈zaz c i,zem (aft c [] i (zaG out i)) (zaG out j))
structure HP (c:DCode) (out0:List Nat) (ag:Bool) (out:List Nat) (k:Nat):Prop where
 len:out.length=c.ins.length
 lt:∀ x∈out,x<64
 snd:∀ i l,i<c.ins.length→(zaG out i).testBit l=true→MayP c i l∧MetP c i
 yes:ag=true→out0.sum<out.sum
 no:ag=false→out=out0∧∀ i,i<k→MetP c i→HC c out0 i
theorem HP.lt0 {c:DCode} {out0 out:List Nat} {ag:Bool} {k:Nat} (h:HP c out0 ag out k) (i:Nat):zaG out i<64:=zeG h.lt i
theorem zm7 {m n:Nat} (h:n ||| m=n):zem m n:=fun l _ hb=>by
 rw [←h,Nat.testBit_or,hb];simp
theorem zo3 {m n:Nat}:zem m (n ||| m):=fun l _ hb=>by rw [Nat.testBit_or,hb];simp
theorem zgQ {m n k:Nat} (h:zem k n):zem k (n ||| m):=fun l hl hb=>by rw [Nat.testBit_or,h l hl hb];rfl
theorem zjq {m n:Nat} (hm:m<64) (hn:n<64):zhM m n=0↔zem m n:=by
 constructor
 · intro h l hl hb
   have:=congrArg (·.testBit l) h
   simp only [zce,hb,Bool.true_and,Nat.zero_testBit,Bool.not_eq_false'] at this
   exact this
 intro h
 refine Nat.eq_of_testBit_eq fun l=>?_
 rw [zce,Nat.zero_testBit]
 cases e:m.testBit l
 · rfl
 rw [h l (zd2 hm e) e];rfl
theorem zic {m n:Nat} (hm:m<64) (hn:n<64):n ||| m<64:=Nat.or_lt_two_pow (n:=6) hn hm
theorem zov {m n:Nat} (h:¬n ||| m=n):n<n ||| m:=by
 have:n≤n ||| m:=Nat.left_le_or
 omega
theorem HP.add {c:DCode} {out0 out:List Nat} {ag:Bool} {k i m:Nat} (h:HP c out0 ag out k) (hi:i<c.ins.length) (hm:m<64) (hmet:MetP c i) (hmay:∀ l,l<6→m.testBit l=true→MayP c i l) (hn:¬zem m (zaG out i)):HP c out0 true (out.set i (zaG out i ||| m)) k:=by
 have h64:=h.lt0 i
 refine ⟨by simp [h.len],fun x hx=>?_,fun j l hj hb=>?_,fun _=>?_,fun e=>by cases e⟩
 · rcases zmN hx with rfl | hx
   · exact zic hm h64
   exact h.lt x hx
 · rw [zc8 (by rw [h.len];exact hi)] at hb
   split at hb
   · rename_i e
     subst e
     rw [Nat.testBit_or,Bool.or_eq_true] at hb
     rcases hb with hb | hb
     · exact h.snd i l hj hb
     exact ⟨hmay l (zd2 hm hb) hb,hmet⟩
   exact h.snd j l hj hb
 have h1:=zj8 (l:=out) (i:=i) (v:=zaG out i ||| m) (by rw [h.len];exact hi)
 have h2:=zov (m:=m) (n:=zaG out i) fun e=>hn (zm7 e)
 cases ag with
 | true=>have:=h.yes rfl;omega
 | false=>rw [←(h.no rfl).1];omega
theorem HP.next {c:DCode} {out0 out:List Nat} {ag:Bool} {k:Nat} (h:HP c out0 ag out k) (hk:ag=false→MetP c k→HC c out k):HP c out0 ag out (k+1):=
 ⟨h.len,h.lt,h.snd,h.yes,fun e=>⟨(h.no e).1,fun i hi hm=>by
   by_cases e2:i=k
   · subst e2
     have:=hk e hm
     rw [(h.no e).1] at this
     exact this
   exact (h.no e).2 i (by omega) hm⟩⟩
theorem zid {c:DCode} {i m l:Nat} (h4:¬(zaj c i).op=4):(aft c [] i m).testBit l=true↔¬((zaj c i).op=7∧agN c i=l)∧(((zaj c i).op=6∧agN c i=l)∨m.testBit l=true):=by
 rw [←Bool.not_eq_false,zpB]
 unfold zqy zoj
 have e4:((zaj c i).op=4)=False:=eq_false h4
 simp only [e4,false_and,or_false,not_false_eq_true,and_true,not_or,not_and,Bool.not_eq_false]
 constructor
 · rintro ⟨h1,h2⟩
   refine ⟨h1,?_⟩
   by_cases e:(zaj c i).op=6∧agN c i=l
   · exact .inl e
   exact .inr (h2 fun a b=>e ⟨a,b⟩)
 rintro ⟨h1,h2⟩
 refine ⟨h1,fun h3=>?_⟩
 rcases h2 with h2 | h2
 · exact absurd h2.2 (h3 h2.1)
 exact h2
theorem zm8 {c:DCode} {i j m l:Nat} (h4:¬(zaj c i).op=4) (hm:MetP c i) (hj:j∈zaz c i) (hmay:m.testBit l=true→MayP c i l) (hb:(aft c [] i m).testBit l=true):MayP c j l:=by
 obtain ⟨h1,h2⟩:=(zid h4).1 hb
 rcases h2 with h2 | h2
 · exact .lock hm h2.1 h2.2 hj
 exact .pass hm h4 h1 (hmay h2) hj
theorem HC.may {c:DCode} {out:List Nat} (hc:CodeR c) (h:∀ i,MetP c i→HC c out i):MayC c fun i l=>(zaG out i).testBit l=true:=by
 refine ⟨fun i j hm ho hj=>?_,fun i j l hm hl ho ha hb hj=>?_,fun i l hm hl ho hb=>?_,fun i j l hm hl ho hz hb hj=>?_⟩
 · have ha:=zcU hc (hm.lt hc) (.inl ho)
   exact (h i hm).2 (by omega) j hj _ ha.2.2 ((zid (by omega)).2 ⟨fun h=>by omega,.inl ⟨ho,rfl⟩⟩)
 · exact (h i hm).2 ho j hj l hl ((zid ho).2 ⟨ha,.inr hb⟩)
 · exact ((h i hm).1 ho).1 l hl hb
 exact ((h i hm).1 ho).2 hz j hj l hl hb
theorem zm9 {c:DCode} (hc:CodeR c) {out:List Nat} (hlen:out.length=c.ins.length) (hlt:∀ x∈out,x<64) (hs:∀ i l,i<c.ins.length→(zaG out i).testBit l=true→MayP c i l) (h:∀ i,MetP c i→HC c out i):out=zi9 c:=by
 have hC:=HC.may hc h
 refine List.ext_getElem (by rw [hlen,zfO]) fun i h1 h2=>?_
 have hi:i<c.ins.length:=by rw [←hlen];exact h1
 rw [zbI h1,zbI h2,zj9 hi]
 exact zqM (zeG hlt i) fun l hl=>⟨hs i l hi,fun hm=>hC.all hl hm⟩
theorem HP.fin {c:DCode} (hc:CodeR c) {out0 out:List Nat} (h:HP c out0 false out c.ins.length):out=zi9 c:=by
 obtain ⟨h1,h2⟩:=h.no rfl
 exact zm9 hc h.len h.lt (fun i l hi hb=>(h.snd i l hi hb).1) fun i hm=>by rw [h1];exact h2 i (hm.lt hc) hm
theorem HP.again {c:DCode} {out0 out:List Nat} {ag:Bool} {k:Nat} (h:HP c out0 ag out k):HP c out false out 0:=
 ⟨h.len,h.lt,h.snd,fun e=>(by cases e),fun _=>⟨rfl,fun i hi=>by omega⟩⟩
theorem HP.start {c:DCode}:HP c (List.replicate c.ins.length 0) false (List.replicate c.ins.length 0) 0:=
 ⟨by simp,fun x hx=>by rw [(List.mem_replicate.1 hx).2];omega,fun i l hi hb=>by rw [←zbI (by simp;exact hi)] at hb;simp at hb,fun e=>(by cases e),fun _=>⟨rfl,fun i hi=>by omega⟩⟩
theorem HP.sum_le {c:DCode} {out0 out:List Nat} {ag:Bool} {k:Nat} (h:HP c out0 ag out k):out.sum≤c.ins.length*63:=by
 rw [←h.len];exact Go.Proofs.YtifonhplnmpgaaaGreat.sum_le fun x hx=>by have:=h.lt x hx;omega
end Go.Proofs.YtifonhplnmpgaaaGreat
namespace Go.Sh
open Rep (rep)
theorem ChgI.one {w w':World} {g:Nat} (h:ChgI g (g+1) w w'):Chg [g] w w':=⟨h.os,h.tape,h.output,h.size,fun b hb hn=>h.block b hb (by simp at hn;omega)⟩
theorem OwnI.chgF {α:Type} [Rep α] {w w':World} {lo hi:Nat} {v:Value} {x:α} {F:List Nat} (h:OwnI lo hi w v x) (hc:Chg F w w') (hd:∀ b∈F,b<lo∨hi≤b):OwnI lo hi w' v x:=by
 obtain ⟨G,hm,hG⟩:=h
 exact ⟨G,hm.keep fun b hb=>hc.block b (hm.lt b hb) fun hF=>by have:=hG b hb;have:=hd b hF;omega,hG⟩
theorem Blk.chgF {w w':World} {g e:Nat} {cs:List Value} {F:List Nat} (h:Blk g e w cs) (hc:Chg F w w') (hd:g∉F):Blk g e w' cs:=h.keep (hc.block g h.lt hd)
theorem Ext.chgF {w0 w w':World} {F:List Nat} (h:Ext w0 w) (hc:Chg F w w') (hd:∀ b∈F,w0.heap.size≤b):Ext w0 w':=
 ⟨hc.os.trans h.os,hc.tape.trans h.tape,hc.output.trans h.output,Nat.le_trans h.size hc.size,fun b hb=>(hc.block b (Nat.lt_of_lt_of_le hb h.size) fun hF=>by have:=hd b hF;omega).trans (h.block b hb)⟩
end Go.Sh
namespace Go.Proofs.YtifonhplnmpgaaaGreat
open Go Go.Sh Go.Proofs
open Rep (rep)
def F144 (a0 a1 a2:Value) (w:World) (R:VW):Prop:=
 rL 101 a1 w fun x4=>
 rX 101 x4 a0 w fun x6=>
 rL 4 x6 w fun x7=>
 rD (Op.unary .not x7) w fun x8=>
 BR x8
 (rL 101 a1 w fun x9=>
 rX 101 x9 a0 w fun x11=>
 oS 4 x11 (Value.bool true) w fun w=>
 oS 4 a2 (Value.bool true) w fun w=>
 R (Value.tuple #[]) w)
 (R (Value.tuple #[]) w)
def cfg144:Cfg:=⟨extL,[],[],[],[],[],[]⟩
theorem F144_call {a0 a1 a2:Value} {w:World} {R:VW} (h:F144 a0 a1 a2 w R):cL 144 [a0,a1,a2] w R:=co (g:=cfg144) Tryz.func144 (by kernel_rfl) (by kernel_rfl) (by kernel_rfl) h
def F86 (a0:Value) (w:World) (R:VW):Prop:=
 NIL a0 <|
 rF 114 a0 0 w fun x14=>
 rF 32 x14 4 w fun x15=>
 rL 30 x15 w fun x16=>
 rN 30 3 x16 w fun x17=>
 oP (Instr.makeSlice 101 x17 x17) w fun x18 w=>
 oP (Instr.alloc 101 true (.tuple #[])) w fun x3 w=>
 oS 101 x3 x18 w fun w=>
 NIL a0 <|
 rF 114 a0 5 w fun x21=>
 rL 3 x21 w fun x22=>
 cL 66 [x22] w fun x23 w=>
 rN 23 3 x23 w fun x24=>
 LOOPI [25] [(iV 0)] w fun u3 w next3=>
 rC (u3 25) x24 w fun x26=>
 BR x26
 (rX 23 x23 (u3 25) w fun x27=>
 rL 3 x27 w fun x28=>
 (fun w=>rL 101 x3 w fun x29=>
 NIL a0 <|
 rF 114 a0 0 w fun x32=>
 rF 32 x32 3 w fun x33=>
 rL 23 x33 w fun x34=>
 rX 23 x34 x28 w fun x36=>
 rL 3 x36 w fun x37=>
 rX 101 x29 x37 w fun x38=>
 oS 4 x38 (Value.bool true) w fun w=>
 rA (u3 25) (iV 1) w fun x39=>
 next3 [x39] w) (World.drew1 w))
 (oP (Instr.alloc 4 true (.tuple #[])) w fun x6 w=>
 oS 4 x6 (Value.bool true) w fun w=>
 LOOPI [6] [x6] w fun u8 w next8=>
 rL 4 (u8 6) w fun x40=>
 BR x40
 (oS 4 (u8 6) (Value.bool false) w fun w=>
 rD (Instr.makeFunc (Go.Fn.func 144) [].toArray [x3,(u8 6)].toArray) w fun x41=>
 NIL a0 <|
 rF 114 a0 0 w fun x44=>
 rF 32 x44 4 w fun x45=>
 rL 30 x45 w fun x46=>
 rN 30 3 x46 w fun x47=>
 LOOPI [48] [(iV 0)] w fun u12 w next12=>
 rC (u12 48) x47 w fun x49=>
 BR x49
 (rX 30 x46 (u12 48) w fun x51=>
 rL 111 x51 w fun x52=>
 oP (Instr.alloc 111 true (.tuple #[])) w fun x9 w=>
 oS 111 x9 x52 w fun w=>
 rL 101 x3 w fun x53=>
 rX 101 x53 (u12 48) w fun x55=>
 rL 4 x55 w fun x56=>
 rD (Op.unary .not x56) w fun x57=>
 BR x57
 (rA (u12 48) (iV 1) w fun x96=>
 next12 [x96] w)
 (JOIN [] (fun J18=>
 rF 111 x9 0 w fun x58=>
 rL 3 x58 w fun x59=>
 rB .eql 3 T0 U0 x59 (iV 4) w fun x60=>
 BR x60
 ((fun w=>NIL a0 <|
 rF 114 a0 0 w fun x64=>
 rF 32 x64 3 w fun x65=>
 rL 23 x65 w fun x66=>
 rF 111 x9 1 w fun x67=>
 rL 3 x67 w fun x68=>
 rX 23 x66 x68 w fun x69=>
 rL 3 x69 w fun x70=>
 OPN tp (zgV x41 [x70]) w fun x71 w=>
 (fun w=>rL 101 x3 w fun x72=>
 NIL a0 <|
 rF 114 a0 0 w fun x75=>
 rL 32 x75 w fun x76=>
 rF 111 x9 1 w fun x77=>
 rL 3 x77 w fun x78=>
 (fun w_=>cL 134 [x76,x78] w_ fun x79 w=>
 Ext w_ w ∧
 rB .sub 3 T0 U0 x79 (iV 1) w fun x80=>
 rX 101 x72 x80 w fun x81=>
 rL 4 x81 w fun x82=>
 rD (Op.unary .not x82) w fun x83=>
 BR x83
 (rA (u12 48) (iV 1) w fun x96=>
 next12 [x96] w)
 (J18 [] w)) w) (World.drew1 w)) (World.drew1 w))
 (J18 [] w)) (fun u18 w=>
 cL 136 [a0,(u12 48)] w fun x86 w=>
 rN 23 3 x86 w fun x87=>
 LOOPI [88] [(iV 0)] w fun u19 w next19=>
 rC (u19 88) x87 w fun x89=>
 BR x89
 (rX 23 x86 (u19 88) w fun x90=>
 rL 3 x90 w fun x91=>
 OPN tp (zgV x41 [x91]) w fun x94 w=>
 rA (u19 88) (iV 1) w fun x95=>
 next19 [x95] w)
 (rA (u12 48) (iV 1) w fun x96=>
 next12 [x96] w))))
 (rL 4 (u8 6) w fun x97=>
 oP (Instr.alloc 4 true (.tuple #[])) w fun x6 w=>
 oS 4 x6 x97 w fun w=>
 next8 [x6] w))
 (rL 101 x3 w fun x98=>
 R x98 w))
def cfg86:Cfg:=⟨extL,[(18,19342812825603690643587072,[])],[(3,1099478073376,[25]),(8,316912650057057349274664176576,[6]),(12,158456325028528393712111192832,[48]),(19,78918677504442992524819171328,[88])],[(5,[0,1,2,3,4,5,6,7,8,9,10],0),(16,[0,1,2,3,4,5,6,7,8,9,10],0),(17,[0,1,2,3,4,5,6,7,8,9,10,11],128)],[],[],[]⟩
theorem F86_call {a0:Value} {w:World} {R:VW} (h:F86 a0 w R):cL 86 [a0] w R:=co (g:=cfg86) Tryz.func86 (by kernel_rfl) (by kernel_rfl) (by kernel_rfl) h
open Rep (rep)
theorem zk1 {P:Program} {f:Nat} {args caps:List Value} {w:World} {K:Value→World→Prop} (hE:zc0 P f=true) (h:CALL P f (args++caps) w K):OPN P (zgV (.func (.func f) #[] caps.toArray) args) w K:=by
 obtain ⟨h⟩:=h
 refine .enter f (args++caps).toArray w ?_ h
 simp [zgV,Deferred.ofValue,invoke,zc1 hE]
theorem zo4:zc0 Tryz.prog 144=true:=by kernel_rfl
theorem zo5:zc0 Tryz.prog 145=true:=by kernel_rfl
theorem zrc:zcj Tryz.prog 101=some [.slice none 0 0]:=by kernel_rfl
theorem zrd:zcj Tryz.prog 23=some [.slice none 0 0]:=by kernel_rfl
theorem zci {w:World} {lo hi:Nat} {u:Value} (h:u.oneCell'=true):OwnI lo hi w u (⟨u⟩:Raw):=⟨[],⟨⟨[u],⟨rfl,rfl,h⟩,rfl⟩,List.nodup_nil,Wr.nil _⟩,by simp⟩
theorem zfu {t by_:Nat} {z u:Value} {w:World} {K:Value→World→Prop} (hz:zcj Tryz.prog t=some [z]) (ht:tyI Tryz.prog t=some (1,by_,false)) (hu:u.oneCell'=true) (k:∀ w',Ext w w'→Blk w.heap.size t w' [u]→K (.pointer (some ⟨w.heap.size,0,none⟩)) w') :
   OP Tryz.prog (Instr.alloc t true (.tuple #[])) w fun p w1=>OPU Tryz.prog (Instr.storeAt t p u) w1 fun w2=>K p w2:=by
 refine zkB hz fun w1 hx1 hB1=>?_
 refine zcg (α:=Raw) (lo:=0) (hi:=0) ht rfl rfl hB1 (by simp) (zci hu) fun w2 hc2 hB2=>?_
 exact k w2 (hx1.chgI hc2 (Nat.le_refl _)) hB2
structure MW (w1 w:World) (gv g ga n:Nat) (ms:List Bool) (ag:Bool):Prop where
 ext:Ext w1 w
 var:Blk gv 101 w [.slice (some ⟨g,0,none⟩) n n]
 mks:Mine [g] w (.slice (some ⟨g,0,none⟩) n n) ms
 agn:Blk ga 4 w [.bool ag]
 n1:gv≠g
 n2:gv≠ga
 n3:g≠ga
 g0:w1.heap.size≤g
 g1:w1.heap.size≤gv
 g2:w1.heap.size≤ga
section
variable {w1 w w':World} {gv g ga n:Nat} {ms:List Bool} {ag:Bool}
theorem MW.step (h:MW w1 w gv g ga n ms ag) (hx:Ext w w'):MW w1 w' gv g ga n ms ag:=⟨h.ext.trans hx,h.var.ext hx,h.mks.ext hx,h.agn.ext hx,h.n1,h.n2,h.n3,h.g0,h.g1,h.g2⟩
theorem MW.mark {ms':List Bool} (h:MW w1 w gv g ga n ms ag) (hc:Chg [g] w w') (hm:Mine [g] w' (.slice (some ⟨g,0,none⟩) n n) ms'):MW w1 w' gv g ga n ms' ag:=
 ⟨h.ext.chgF hc (by simp [h.g0]),h.var.chgF hc (by simp [h.n1]),hm,h.agn.chgF hc (by simp [Ne.symm h.n3]),h.n1,h.n2,h.n3,h.g0,h.g1,h.g2⟩
theorem MW.agains {ag':Bool} (h:MW w1 w gv g ga n ms ag) (hc:Chg [ga] w w') (hB:Blk ga 4 w' [.bool ag']):MW w1 w' gv g ga n ms ag':=
 ⟨h.ext.chgF hc (by simp [h.g2]),h.var.chgF hc (by simp [h.n2]),h.mks.keep fun b hb=>by
   simp only [List.mem_cons,List.not_mem_nil,or_false] at hb;subst hb
   exact hc.block b (h.mks.lt b (by simp)) (by simp [h.n3]),hB,h.n1,h.n2,h.n3,h.g0,h.g1,h.g2⟩
theorem MW.cell {ga':Nat} {ag':Bool} (h:MW w1 w gv g ga n ms ag) (hx:Ext w w') (hB:Blk ga' 4 w' [.bool ag']) (hg:w.heap.size≤ga'):MW w1 w' gv g ga' n ms ag':=
 ⟨h.ext.trans hx,h.var.ext hx,h.mks.ext hx,hB,h.n1,by have:=h.var.lt;omega,by have:=h.mks.lt g (by simp);omega,h.g0,h.g1,by have:=h.ext.size;omega⟩
theorem zna {i:Nat} (h:MW w1 w gv g ga n ms ag) (hi:i<n) (hl:ms.length=n) :
   CALL Tryz.prog 144 [.int .i64 (i:Int),.pointer (some ⟨gv,0,none⟩),.pointer (some ⟨ga,0,none⟩)] w fun r w'=>r=.tuple #[]∧MW w1 w' gv g ga n (ms.set i true) (zp2 ms i ag)∧Chg [g,ga] w w':=by
 refine F144_call ?_
 unfold F144
 refine zap zck h.var rfl ?_
 refine zac zdi ty4 h.mks.is (by rw [hl];exact hi) fun b1 o1 hA1=>?_
 refine zaX ty4 hA1 (Ext.refl _) ?_
 have hmk:=za5 (ms:=ms) (i:=i) (by rw [hl];exact hi)
 refine zaW ?_
 refine zb8 (fun hf=>?_) (fun hf=>?_)
 · have hn:¬mkd ms i:=by rw [hmk];simpa using hf
   rw [zk0 hn]
   refine zap zck h.var rfl ?_
   refine zch (α:=Bool) rfl zdi ty4 hi ?_
   refine zbx (α:=Bool) rfl ty4 h.mks hl hi za8 fun w2 hc2 hm2=>?_
   have h2:=h.mark hc2 hm2
   refine zcg (α:=Raw) (lo:=0) (hi:=0) ty4 rfl rfl h2.agn (by simp) (zci rfl) fun w3 hc3 hB3=>?_
   exact ⟨rfl,h2.agains hc3.one hB3,(hc2.mono (by simp)).trans (hc3.one.mono (by simp))⟩
 have hy:mkd ms i:=by rw [hmk];simpa using hf
 rw [zkZ hy,zgP hy]
 exact ⟨rfl,h,Chg.refl _ _⟩
end
theorem zqo {w W0:World} {b:Nat} {c:DCode} (hW:WAt W0 b c) (e0:Ext W0 w) (hc:CodeR c) :
   CALL Tryz.prog 86 [.pointer (some ⟨b,0,none⟩)] w fun r w'=>Ext w w'∧Own w.heap.size w' r (zfd c):=by
 refine F86_call ?_
 unfold F86
 have h8:=hc.1.procs8
 have hil:=hc.f.ins
 have hcode:=hW.wl.code
 refine NIL.mk rfl ?_
 refine zaa zbO ?_
 refine zaa zaK ?_
 refine zab zdn (zak hcode) e0 fun v16 h16=>?_
 refine zae u30 h16 ?_
 have hz0:=(zgO hc h8.2).2.2
 have hn:c.ins.length=c.ins.length:=rfl
 generalize hnn:c.ins.length=n at hn
 rw [hnn] at hil
 refine zeg (by omega) (by omega) fun w1 hx1 hM1=>?_
 have hs1:=hx1.size
 have hg1:=hM1.lt _ (List.mem_singleton.2 rfl)
 generalize hg:w.heap.size=g at *
 refine zfu zrc zck rfl fun w2 hx2 hB2=>?_
 have hs2:=hx2.size
 have hM2:=hM1.ext hx2
 generalize hgv:w1.heap.size=gv at *
 refine NIL.mk rfl ?_
 refine zaa zma ?_
 refine zad ty3 hW.roots (e0.trans (hx1.trans hx2)) fun _=>?_
 have hrs:zfb c<256:=zcI h8.1
 refine (zgA (m:=zfb c) (by omega)).mono ?_
 rintro v23 w3 ⟨hx3,ho3⟩
 unfold zfb at ho3
 rw [zlE (by omega)] at ho3
 have hL:∀ p,p∈zbw c.procs.length (RootP c)↔RootP c p:=fun p=>by rw [za1];exact ⟨fun h=>h.2,fun h=>⟨h.lt hc,h⟩⟩
 have hLl:(zbw c.procs.length (RootP c)).length≤8:=Nat.le_trans zbU h8.1
 generalize zbw c.procs.length (RootP c)=L at *
 have hs3:=hx3.size
 have hgv2:=hB2.lt
 refine zae u23 ho3.is ?_
 rw [zag]
 refine zaq L.length (fun k us w'=>∃ ms,us=[.int .i64 (k:Int)]∧k≤L.length∧Ext w w'∧Blk gv 101 w' [.slice (some ⟨g,0,none⟩) n n]∧Mine [g] w' (.slice (some ⟨g,0,none⟩) n n) ms∧OwnI w2.heap.size w3.heap.size w' v23 (zaF L)∧ms.length=n∧(∀ i,mkd ms i→MetP c i)∧∀ p∈L.take k,mkd ms (eN c p)) 0 (Nat.zero_le _) ⟨_,rfl,Nat.zero_le _,hx1.trans (hx2.trans hx3),hB2.ext hx3,hM2.ext hx3,ho3.toI,by simp,fun i h=>absurd h zbk,by simp⟩ ?_
 rintro k mk u w4 hkm ⟨ms,hu,hkl,hx4,hB4,hM4,hO4,hl4,hsn4,hrt4⟩
 simp only [List.map_cons,List.map_nil,List.cons.injEq,and_true] at hu
 rw [hu]
 refine zah ?_
 refine br (fun hlt=>?_) (fun hge=>?_)
 · have hk:k<L.length:=by omega
   refine zac u23 ty3 (i:=k) hO4.is (by rw [zag];exact hk) fun b2 o2 hA2=>?_
   rw [zaY] at hA2
   refine zad ty3 hA2 (Ext.refl _) fun _=>?_
   have htk:=fun x=>zb5 hk (x:=x)
   have hrp:=(hL L[k]).1 (List.getElem_mem hk)
   generalize L[k]=p at *
   have hpe:p<c.entry.length:=by rw [hc.2.1.1];exact hrp.lt hc
   obtain ⟨he1,he2,_⟩:=zfF hc hpe
   have hxd:=zan w4
   have hx5:=hx4.trans hxd
   have hB5:=hB4.ext hxd
   have hM5:=hM4.ext hxd
   have hO5:=hO4.ext hxd
   generalize World.drew1 w4=w5 at *
   refine zap zck hB5 rfl ?_
   refine NIL.mk rfl ?_
   refine zaa zbO ?_
   refine zaa zaO ?_
   refine zab zbv (zal hcode) (e0.trans hx5) fun v34 h34=>?_
   refine zac u23 ty3 h34 hpe fun b5 o5 hA5=>?_
   rw [zbf hpe,he1] at hA5
   refine zad ty3 hA5 (e0.trans hx5) fun _=>?_
   refine zch (α:=Bool) rfl zdi ty4 (by omega) ?_
   refine zbx (α:=Bool) rfl ty4 hM5 hl4 (by omega) za8 fun w6 hc6 hm6=>?_
   refine zaf (by omega) ?_
   refine ⟨mk-1,by omega,k+1,by omega,_,rfl,by omega,hx5.chgF hc6 (by simp [hg]),hB5.chgF hc6 (by simp;omega),hm6,hO5.chgF hc6 (by simp;omega),by simp [hl4],fun i hi=>?_,fun q hq=>?_⟩
   · rcases (zbE (by rw [hl4];omega)).1 hi with h | h
     · exact hsn4 i h
     rw [h];exact .root hrp
   rcases (htk q).1 hq with h | h
   · exact zdb (hrt4 q h)
   rw [h];exact (zbE (by rw [hl4];omega)).2 (.inr rfl)
 have hrt:∀ p,RootP c p→mkd ms (eN c p):=fun p hp=>hrt4 p (by rw [List.take_of_length_le (by omega)];exact (hL p).2 hp)
 have hT:TP c ms false ms 0:=⟨by rw [hl4,hnn],hsn4,hrt,fun e=>(by cases e),fun _=>⟨rfl,fun i hi=>by omega⟩⟩
 clear hu hkm hO4 ho3
 refine zfu zp0 ty4 rfl fun w5 hx5 hB5=>?_
 have hs4:=hx4.size
 have hMW:MW w w5 gv g w4.heap.size n ms true:=⟨hx4.trans hx5,hB4.ext hx5,hM4.ext hx5,hB5,by omega,by have:=hB4.lt;omega,by have:=hM4.lt g (by simp);omega,by omega,by omega,by omega⟩
 generalize w4.heap.size=ga at *
 refine LOOPI.mk (fun m us w'=>∃ (ga:Nat) (ms:List Bool) (ag:Bool),us=[.pointer (some ⟨ga,0,none⟩)]∧m=(n-zfI ms)+(if ag then 1 else 0)∧MW w w' gv g ga n ms ag∧TP c ms false ms 0∧(ag=false→ms=zfd c)) (n-zfI ms+1) ⟨ga,ms,true,rfl,rfl,hMW,hT,fun e=>by cases e⟩ ?_
 rintro m u w6 ⟨ga,ms,ag,hu,hm,hW6,hT6,hend⟩
 simp only [List.map_cons,List.map_nil,List.cons.injEq,and_true] at hu
 rw [hu]
 have hcn:=zdP ms
 rw [hT6.len,hnn] at hcn
 refine zap ty4 hW6.agn rfl ?_
 refine zb8 (fun hag=>?_) (fun hag=>?_)
 case refine_2=>
   refine zap zck hW6.var rfl ?_
   rw [←hend hag]
   exact ⟨hW6.ext,[g],hW6.mks,fun b hb=>by simp only [List.mem_cons,List.not_mem_nil,or_false] at hb;omega⟩
 rw [hag,if_pos rfl] at hm
 refine zcg (α:=Raw) (lo:=0) (hi:=0) ty4 rfl rfl hW6.agn (by simp) (zci rfl) fun w7 hc7 hB7=>?_
 have hW7:=hW6.agains hc7.one hB7
 refine zaQ (v:=.func (.func 144) #[] #[.pointer (some ⟨gv,0,none⟩),.pointer (some ⟨ga,0,none⟩)]) (fun w' _=>by simp [Instr.makeFunc]) ?_
 refine NIL.mk rfl ?_
 refine zaa zbO ?_
 refine zaa zaK ?_
 refine zab zdn (zak hcode) (e0.trans hW7.ext) fun v46 h46=>?_
 refine zae u30 h46 ?_
 rw [hnn]
 refine zaq n (fun k us w'=>∃ (ms':List Bool) (ag':Bool),us=[.int .i64 (k:Int)]∧k≤n∧MW w w' gv g ga n ms' ag'∧TP c ms ag' ms' k) 0 (Nat.zero_le _) ⟨ms,false,rfl,Nat.zero_le _,hW7,hT6⟩ ?_
 rintro k mk u w8 hkm ⟨ms8,ag8,hu,hkl,hW8,hT8⟩
 simp only [List.map_cons,List.map_nil,List.cons.injEq,and_true] at hu
 rw [hu]
 refine zah ?_
 refine br (fun hlt=>?_) (fun hge=>?_)
 case refine_2=>
   have hke:k=n:=by omega
   rw [hke] at hT8
   refine zap ty4 hW8.agn rfl ?_
   refine zfu zp0 ty4 rfl fun w9 hx9 hB9=>?_
   have hcn8:=zdP ms8
   rw [hT8.len,hnn] at hcn8
   refine ⟨(n-zfI ms8)+(if ag8 then 1 else 0),?_,_,ms8,ag8,rfl,rfl,hW8.cell hx9 hB9 (Nat.le_refl _),hT8.again,fun e=>?_⟩
   · cases ag8 with
     | true=>have:=hT8.yes rfl;simp;omega
     | false=>rw [(hT8.no rfl).1];simp;omega
   rw [e,←hnn] at hT8
   exact hT8.fin hc
 have hk:k<n:=by omega
 have hkn:k<c.ins.length:=by omega
 have hl8:ms8.length=n:=by rw [hT8.len,hnn]
 refine zac u30 zaR h46 hkn fun b3 o3 hA3=>?_
 rw [zaS] at hA3
 refine zab zaR hA3 (e0.trans hW8.ext) fun v52 h52=>?_
 refine zct zfD rfl zaR rfl h52 (e0.trans hW8.ext) fun w9 hx9 hAI hV9=>?_
 have hW9:=hW8.step hx9
 have hAB9:=zey h52 hV9 rfl
 refine zap zck hW9.var rfl ?_
 refine zac zdi ty4 (i:=k) hW9.mks.is (by rw [hl8];exact hk) fun b4 o4 hA4=>?_
 refine zaX ty4 hA4 (Ext.refl _) ?_
 refine zaW ?_
 have hmk8:=za5 (ms:=ms8) (i:=k) (by rw [hl8];exact hk)
 refine zb8 (fun hf=>?_) (fun hf=>?_)
 · have hnm:¬mkd ms8 k:=by rw [hmk8];simpa using hf
   refine zaf (by omega) ?_
   exact ⟨mk-1,by omega,k+1,by omega,ms8,ag8,rfl,by omega,hW9,hT8.next fun h=>absurd h hnm⟩
 have hym:mkd ms8 k:=by rw [hmk8];simpa using hf
 have hMk:=hT8.snd k hym
 refine JOIN.mk (fun us w'=>∃ (ms':List Bool) (ag':Bool),MW w w' gv g ga n ms' ag'∧TP c ms ag' ms' k∧((zaj c k).op=4→mkd ms' (eN c (agN c k)))∧∀ j∈zaz c k,MetP c j) ?_ ?_
 · refine zaa zaL ?_
   refine zad ty3 (zat hAI) (Ext.refl _) fun _=>?_
   refine zao ?_
   refine br (fun c4=>?_) (fun c4=>?_)
   · obtain ⟨ha1,ha2⟩:=zd3 hc hkn (.inl c4)
     have hpe:agN c k<c.entry.length:=by rw [hc.2.1.1];exact ha2
     obtain ⟨he1,he2,_⟩:=zfF hc hpe
     obtain ⟨hz1,hz2,hz3⟩:=zgO hc ha2
     have hxd:=zan w9
     have hW10:=hW9.step hxd
     generalize World.drew1 w9=w10 at *
     refine NIL.mk rfl ?_
     refine zaa zbO ?_
     refine zaa zaO ?_
     refine zab zbv (zal hcode) (e0.trans hW10.ext) fun v66 h66=>?_
     refine zaa zbi ?_
     refine zad ty3 (zaJ hAI) hxd fun _=>?_
     rw [ha1]
     refine zac u23 ty3 h66 hpe fun b5 o5 hA5=>?_
     rw [zbf hpe,he1] at hA5
     refine zad ty3 hA5 (e0.trans hW10.ext) fun _=>?_
     refine zk1 (args:=[_]) (caps:=[_,_]) zo4 ((zna (i:=eN c (agN c k)) hW10 (by omega) hl8).mono ?_)
     rintro _ w11 ⟨rfl,hW11,hc11⟩
     have hT11:=hT8.meet he2 (.call hMk c4)
     have hme:mkd (ms8.set (eN c (agN c k)) true) (eN c (agN c k)):=(zbE (by rw [hl8];omega)).2 (.inr rfl)
     have hx12:=zan w11
     have hW12:=hW11.step hx12
     have hgI:w8.heap.size<w10.heap.size:=by have:=hV9.lt;have:=hxd.size;omega
     have hne:w8.heap.size∉[g,ga]:=by have h1:=hW8.mks.lt g (by simp);have h2:=hW8.agn.lt;simp;omega
     have hAI11:=(hAB9.ext hxd).keep (hc11.block _ hgI hne)
     have hAI12:=(hAI11.ext hx12).at (e0.trans hW12.ext)
     generalize World.drew1 w11=w12 at *
     refine zap zck hW12.var rfl ?_
     refine NIL.mk rfl ?_
     refine zaa zbO ?_
     refine zab zdh hcode (e0.trans hW12.ext) fun v76 h76=>?_
     refine zaa zbi ?_
     refine zad ty3 (zaJ hAI12) (Ext.refl _) fun _=>?_
     rw [ha1]
     refine (zc7 h76 (e0.trans hW12.ext) (by omega)).mono ?_
     rintro _ w13 ⟨hx13,rfl⟩
     refine ⟨hx13,?_⟩
     have hW13:=hW12.step hx13
     rw [hz1]
     refine za9 (by unfold I64;omega) ?_
     rw [show ((zN c (agN c k)+1:Nat):Int)-1=(zN c (agN c k):Int) by omega]
     have hl13:(ms8.set (eN c (agN c k)) true).length=n:=by rw [List.length_set,hl8]
     generalize ms8.set (eN c (agN c k)) true=ms13 at *
     refine zac zdi ty4 (i:=zN c (agN c k)) hW13.mks.is (by rw [hl13];omega) fun b6 o6 hA6=>?_
     refine zaX ty4 hA6 (Ext.refl _) ?_
     refine zaW ?_
     have hmk13:=za5 (ms:=ms13) (i:=zN c (agN c k)) (by rw [hl13];omega)
     refine zb8 (fun hf13=>?_) (fun hf13=>?_)
     · have hnm:¬mkd ms13 (zN c (agN c k)):=by rw [hmk13];simpa using hf13
       refine zaf (by omega) ?_
       exact ⟨mk-1,by omega,k+1,by omega,ms13,_,rfl,by omega,hW13,hT11.next fun _=>⟨fun _=>⟨hme,fun h=>absurd h hnm⟩,fun h=>absurd c4 h⟩⟩
     have hyz:mkd ms13 (zN c (agN c k)):=by rw [hmk13];simpa using hf13
     exact ⟨ms13,_,hW13,hT11,fun _=>hme,fun j hj=>.back hMk c4 (hT11.snd _ hyz) hj⟩
   exact ⟨ms8,ag8,hW9,hT8,fun h=>absurd h c4,fun j hj=>.next hMk c4 hj⟩
 rintro us w14 ⟨ms14,ag14,hW14,hT14,hc14,hnx⟩
 refine (zgy hcode (e0.trans hW14.ext) hc hkn).mono ?_
 rintro v86 w15 ⟨hx15,ho15⟩
 have hW15:=hW14.step hx15
 have hl2:=zd0 c k
 have hnl:=fun {j:Nat} (hj:j∈zaz c k)=>(zcF hc hkn hj).1
 generalize hNx:zaz c k=N at *
 refine zae u23 ho15.is ?_
 rw [zag]
 refine zaq N.length (fun q us w'=>∃ (ms':List Bool) (ag':Bool),us=[.int .i64 (q:Int)]∧q≤N.length∧MW w w' gv g ga n ms' ag'∧TP c ms ag' ms' k∧((zaj c k).op=4→mkd ms' (eN c (agN c k)))∧(∀ j∈N.take q,mkd ms' j)∧OwnI w14.heap.size w15.heap.size w' v86 (zaF N)) 0 (Nat.zero_le _) ⟨ms14,ag14,rfl,Nat.zero_le _,hW15,hT14,hc14,by simp,ho15.toI⟩ ?_
 rintro q mq u w16 hqm ⟨ms16,ag16,hu,hql,hW16,hT16,hc16,hq16,hO16⟩
 simp only [List.map_cons,List.map_nil,List.cons.injEq,and_true] at hu
 rw [hu]
 refine zah ?_
 refine br (fun hlt=>?_) (fun hge=>?_)
 case refine_2=>
   refine zaf (by omega) ?_
   rw [List.take_of_length_le (by omega)] at hq16
   exact ⟨mk-1,by omega,k+1,by omega,ms16,ag16,rfl,by omega,hW16,hT16.next fun _=>⟨fun h4=>⟨hc16 h4,fun _=>hNx▸hq16⟩,fun _=>hNx▸hq16⟩⟩
 have hq:q<N.length:=by omega
 refine zac u23 ty3 (i:=q) hO16.is (by rw [zag];exact hq) fun b7 o7 hA7=>?_
 rw [zaY] at hA7
 refine zad ty3 hA7 (Ext.refl _) fun _=>?_
 have htq:=fun x=>zb5 hq (x:=x)
 have hj:=List.getElem_mem hq
 have hjl:=hnl hj
 have hjm:=hnx _ hj
 generalize N[q]=j at *
 have hl16:ms16.length=n:=by rw [hT16.len,hnn]
 refine zk1 (args:=[_]) (caps:=[_,_]) zo4 ((zna (i:=j) hW16 (by omega) hl16).mono ?_)
 rintro _ w17 ⟨rfl,hW17,hc17⟩
 refine zaf (by omega) ?_
 have hg14:=hW14.mks.lt g (by simp)
 have hga14:=hW14.agn.lt
 refine ⟨mq-1,by omega,q+1,by omega,_,_,rfl,by omega,hW17,hT16.meet hjl hjm,fun h4=>zdb (hc16 h4),fun i hi=>?_,hO16.chgF hc17 (by simp;omega)⟩
 rcases (htq i).1 hi with h | h
 · exact zdb (hq16 i h)
 rw [h];exact (zbE (by rw [hl16];omega)).2 (.inr rfl)
def F145 (a0 a1 a2 a3 a4:Value) (w:World) (R:VW):Prop:=
 rL 101 a2 w fun x7=>
 rX 101 x7 a0 w fun x9=>
 rL 4 x9 w fun x10=>
 BR x10
 (rL 23 a3 w fun x13=>
 rX 23 x13 a0 w fun x15=>
 rL 3 x15 w fun x16=>
 rB .andNot 3 T0 T0 a1 x16 w fun x17=>
 rB .neq 3 T0 U0 x17 (iV 0) w fun x18=>
 BR x18
 (rL 23 a3 w fun x20=>
 rX 23 x20 a0 w fun x22=>
 rL 3 x22 w fun x23=>
 rB .or 3 T0 T0 x23 a1 w fun x25=>
 rX 23 x20 a0 w fun x26=>
 oS 3 x26 x25 w fun w=>
 oS 4 a4 (Value.bool true) w fun w=>
 R (Value.tuple #[]) w)
 (R (Value.tuple #[]) w))
 (R (Value.tuple #[]) w)
def cfg145:Cfg:=⟨extL,[],[],[],[],[],[]⟩
theorem F145_call {a0 a1 a2 a3 a4:Value} {w:World} {R:VW} (h:F145 a0 a1 a2 a3 a4 w R):cL 145 [a0,a1,a2,a3,a4] w R:=co (g:=cfg145) Tryz.func145 (by kernel_rfl) (by kernel_rfl) (by kernel_rfl) h
def F87 (a0 a1:Value) (w:World) (R:VW):Prop:=
 oP (Instr.box 101 a1) w fun x3 w=>
 NIL a0 <|
 rF 114 a0 0 w fun x15=>
 rF 32 x15 4 w fun x16=>
 rL 30 x16 w fun x17=>
 rN 30 3 x17 w fun x18=>
 oP (Instr.makeSlice 23 x18 x18) w fun x19 w=>
 oP (Instr.alloc 23 true (.tuple #[])) w fun x5 w=>
 oS 23 x5 x19 w fun w=>
 oP (Instr.alloc 4 true (.tuple #[])) w fun x6 w=>
 oS 4 x6 (Value.bool true) w fun w=>
 LOOPI [6] [x6] w fun u3 w next3=>
 rL 4 (u3 6) w fun x20=>
 BR x20
 (oS 4 (u3 6) (Value.bool false) w fun w=>
 rD (Instr.makeFunc (Go.Fn.func 145) [].toArray [x3,x5,(u3 6)].toArray) w fun x21=>
 NIL a0 <|
 rF 114 a0 0 w fun x24=>
 rF 32 x24 4 w fun x25=>
 rL 30 x25 w fun x26=>
 rN 30 3 x26 w fun x27=>
 LOOPI [28] [(iV 0)] w fun u7 w next7=>
 rC (u7 28) x27 w fun x29=>
 BR x29
 (rX 30 x26 (u7 28) w fun x31=>
 rL 111 x31 w fun x32=>
 oP (Instr.alloc 111 true (.tuple #[])) w fun x9 w=>
 oS 111 x9 x32 w fun w=>
 rL 101 x3 w fun x33=>
 rX 101 x33 (u7 28) w fun x35=>
 rL 4 x35 w fun x36=>
 rD (Op.unary .not x36) w fun x37=>
 BR x37
 (rA (u7 28) (iV 1) w fun x98=>
 next7 [x98] w)
 (rL 23 x5 w fun x38=>
 rX 23 x38 (u7 28) w fun x40=>
 rL 3 x40 w fun x41=>
 JOIN [10] (fun J19=>
 rF 111 x9 0 w fun x42=>
 rL 3 x42 w fun x43=>
 rB .eql 3 T0 U0 x43 (iV 6) w fun x45=>
 BR x45
 (rF 111 x9 1 w fun x47=>
 rL 3 x47 w fun x48=>
 rD (convert 3 121 x48) w fun x49=>
 rB .shl 3 U0 T0 (iV 1) x49 w fun x50=>
 rB .or 3 T0 T0 x41 x50 w fun x51=>
 J19 [x51] w)
 (rB .eql 3 T0 U0 x43 (iV 7) w fun x53=>
 BR x53
 (rF 111 x9 1 w fun x55=>
 rL 3 x55 w fun x56=>
 rD (convert 3 121 x56) w fun x57=>
 rB .shl 3 U0 T0 (iV 1) x57 w fun x58=>
 rB .andNot 3 T0 T0 x41 x58 w fun x59=>
 J19 [x59] w)
 (rB .eql 3 T0 U0 x43 (iV 4) w fun x61=>
 BR x61
 ((fun w=>NIL a0 <|
 rF 114 a0 0 w fun x65=>
 rF 32 x65 3 w fun x66=>
 rL 23 x66 w fun x67=>
 rF 111 x9 1 w fun x68=>
 rL 3 x68 w fun x69=>
 rX 23 x67 x69 w fun x70=>
 rL 3 x70 w fun x71=>
 OPN tp (zgV x21 [x71,x41]) w fun x73 w=>
 (fun w=>rL 23 x5 w fun x74=>
 NIL a0 <|
 rF 114 a0 0 w fun x77=>
 rL 32 x77 w fun x78=>
 rF 111 x9 1 w fun x79=>
 rL 3 x79 w fun x80=>
 (fun w_=>cL 134 [x78,x80] w_ fun x81 w=>
 Ext w_ w ∧
 rB .sub 3 T0 U0 x81 (iV 1) w fun x82=>
 rX 23 x74 x82 w fun x83=>
 rL 3 x83 w fun x84=>
 J19 [x84] w) w) (World.drew1 w)) (World.drew1 w))
 (J19 [x41] w)))) (fun u19 w=>
 cL 136 [a0,(u7 28)] w fun x87 w=>
 rN 23 3 x87 w fun x88=>
 LOOPI [89] [(iV 0)] w fun u20 w next20=>
 rC (u20 89) x88 w fun x90=>
 BR x90
 (rX 23 x87 (u20 89) w fun x91=>
 rL 3 x91 w fun x92=>
 OPN tp (zgV x21 [x92,(u19 10)]) w fun x96 w=>
 rA (u20 89) (iV 1) w fun x97=>
 next20 [x97] w)
 (rA (u7 28) (iV 1) w fun x98=>
 next7 [x98] w))))
 (rL 4 (u3 6) w fun x99=>
 oP (Instr.alloc 4 true (.tuple #[])) w fun x6 w=>
 oS 4 x6 x99 w fun w=>
 next3 [x6] w))
 (rL 23 x5 w fun x100=>
 R x100 w)
def cfg87:Cfg:=⟨extL,[(19,38685626227663735544087552,[10])],[(3,1267650600228229401496702162880,[6]),(7,633825300114114700748083173120,[28]),(20,316293680037414660236726243328,[89])],[(17,[0,1,2,3,4,5,6,7,8,9,10,11],0),(18,[0,1,2,3,4,5,6,7,8,9,10,11],128)],[],[],[]⟩
theorem F87_call {a0 a1:Value} {w:World} {R:VW} (h:F87 a0 a1 w R):cL 87 [a0,a1] w R:=co (g:=cfg87) Tryz.func87 (by kernel_rfl) (by kernel_rfl) (by kernel_rfl) h
open Rep (rep)
theorem zpI {P:Program} {w:World} {t:TypeId} {v:Value} {K:Value→World→Prop} (h:v.cells=#[v]) (k:∀ w',Ext w w'→Blk w.heap.size t w' [v]→K (.pointer (some ⟨w.heap.size,0,none⟩)) w'):OP P (Instr.box t v) w K:=
 ⟨_,w.alloc (.cells #[v] t),by simp [Instr.box,newVar,newRow,h],k _ (zay w _) (by unfold Blk;rw [heap_alloc_new w _])⟩
def AddR (c:DCode) (out:List Nat) (ag:Bool) (i m:Nat) (out':List Nat) (ag':Bool):Prop:=
 (MetP c i∧¬zem m (zaG out i)∧out'=out.set i (zaG out i ||| m)∧ag'=true)∨((MetP c i→zem m (zaG out i))∧out'=out∧ag'=ag)
theorem AddR.hp {c:DCode} {out0 out out':List Nat} {ag ag':Bool} {k i m:Nat} (h:AddR c out ag i m out' ag') (hP:HP c out0 ag out k) (hi:i<c.ins.length) (hm:m<64) (hmay:∀ l,l<6→m.testBit l=true→MayP c i l):HP c out0 ag' out' k:=by
 rcases h with ⟨h1,h2,rfl,rfl⟩ | ⟨_,rfl,rfl⟩
 · exact hP.add hi hm h1 hmay h2
 exact hP
theorem AddR.sub {c:DCode} {out out':List Nat} {ag ag':Bool} {i m:Nat} (h:AddR c out ag i m out' ag') (hi:i<out.length) (hm:MetP c i):zem m (zaG out' i):=by
 rcases h with ⟨h1,h2,rfl,rfl⟩ | ⟨h,rfl,rfl⟩
 · rw [zc8 hi,if_pos rfl];exact zo3
 exact h hm
theorem AddR.mono {c:DCode} {out out':List Nat} {ag ag':Bool} {i m x j:Nat} (h:AddR c out ag i m out' ag') (hi:i<out.length) (hx:zem x (zaG out j)):zem x (zaG out' j):=by
 rcases h with ⟨h1,h2,rfl,rfl⟩ | ⟨_,rfl,rfl⟩
 · rw [zc8 hi]
   split
   · rename_i e;subst e;exact zgQ hx
   exact hx
 exact hx
theorem AddR.ag {c:DCode} {out out':List Nat} {ag ag':Bool} {i m:Nat} (h:AddR c out ag i m out' ag') (e:ag'=false):ag=false:=by
 rcases h with ⟨_,_,_,rfl⟩ | ⟨_,_,rfl⟩
 · cases e
 exact e
structure HW (w1 w:World) (gm go g ga n:Nat) (vm:Value) (out:List Nat) (ag:Bool):Prop where
 ext:Ext w1 w
 met:Blk gm 101 w [vm]
 var:Blk go 23 w [.slice (some ⟨g,0,none⟩) n n]
 mine:Mine [g] w (.slice (some ⟨g,0,none⟩) n n) (zaF out)
 agn:Blk ga 4 w [.bool ag]
 n0:gm≠g
 n01:gm≠ga
 n1:go≠g
 n2:go≠ga
 n3:g≠ga
 g0:w1.heap.size≤g
 g1:w1.heap.size≤go
 g2:w1.heap.size≤ga
section
variable {w1 w w':World} {gm go g ga n:Nat} {vm:Value} {out:List Nat} {ag:Bool}
theorem HW.step (h:HW w1 w gm go g ga n vm out ag) (hx:Ext w w'):HW w1 w' gm go g ga n vm out ag:=⟨h.ext.trans hx,h.met.ext hx,h.var.ext hx,h.mine.ext hx,h.agn.ext hx,h.n0,h.n01,h.n1,h.n2,h.n3,h.g0,h.g1,h.g2⟩
theorem HW.set {i v:Nat} (h:HW w1 w gm go g ga n vm out ag) (hc:Chg [g] w w') (hm:Mine [g] w' (.slice (some ⟨g,0,none⟩) n n) ((zaF out).set i (v:Int))):HW w1 w' gm go g ga n vm (out.set i v) ag:=
 ⟨h.ext.chgF hc (by simp [h.g0]),h.met.chgF hc (by simp [h.n0]),h.var.chgF hc (by simp [h.n1]),by rw [ze7];exact hm,h.agn.chgF hc (by simp [Ne.symm h.n3]),h.n0,h.n01,h.n1,h.n2,h.n3,h.g0,h.g1,h.g2⟩
theorem HW.agains {ag':Bool} (h:HW w1 w gm go g ga n vm out ag) (hc:Chg [ga] w w') (hB:Blk ga 4 w' [.bool ag']):HW w1 w' gm go g ga n vm out ag':=
 ⟨h.ext.chgF hc (by simp [h.g2]),h.met.chgF hc (by simp [h.n01]),h.var.chgF hc (by simp [h.n2]),h.mine.keep fun b hb=>by
   simp only [List.mem_cons,List.not_mem_nil,or_false] at hb;subst hb
   exact hc.block b (h.mine.lt b (by simp)) (by simp [h.n3]),hB,h.n0,h.n01,h.n1,h.n2,h.n3,h.g0,h.g1,h.g2⟩
theorem HW.cell {ga':Nat} {ag':Bool} (h:HW w1 w gm go g ga n vm out ag) (hx:Ext w w') (hB:Blk ga' 4 w' [.bool ag']) (hg:w.heap.size≤ga'):HW w1 w' gm go g ga' n vm out ag':=
 ⟨h.ext.trans hx,h.met.ext hx,h.var.ext hx,h.mine.ext hx,hB,h.n0,by have:=h.met.lt;omega,h.n1,by have:=h.var.lt;omega,by have:=h.mine.lt g (by simp);omega,h.g0,h.g1,by have:=h.ext.size;omega⟩
theorem znb {W1:World} {c:DCode} {i m:Nat} (h:HW w1 w gm go g ga n vm out ag) (hv:Is W1 vm (zfd c)) (e1:Ext W1 w) (hn:c.ins.length=n) (hi:i<n) (hl:out.length=n) (h64:∀ x∈out,x<64) (hm:m<64) :
   CALL Tryz.prog 145 [.int .i64 (i:Int),.int .i64 (m:Int),.pointer (some ⟨gm,0,none⟩),.pointer (some ⟨go,0,none⟩),.pointer (some ⟨ga,0,none⟩)] w fun r w'=>r=.tuple #[]∧∃ out' ag',HW w1 w' gm go g ga n vm out' ag'∧Chg [g,ga] w w'∧AddR c out ag i m out' ag':=by
 refine F145_call ?_
 unfold F145
 have hml:(zfd c).length=n:=by unfold zfd;rw [zas,hn]
 refine zap zck h.met rfl ?_
 refine zac zdi ty4 hv (by rw [hml];exact hi) fun b1 o1 hA1=>?_
 refine zaX ty4 hA1 e1 ?_
 have hmk:=za5 (ms:=zfd c) (i:=i) (by rw [hml];exact hi)
 have hms:=zbl (n:=c.ins.length) (p:=MetP c) (i:=i)
 have hiff:(zfd c)[i]=true↔MetP c i:=by
   rw [←hmk];unfold zfd;rw [hms];exact ⟨fun h=>h.2,fun h=>⟨by omega,h⟩⟩
 have hi64:=zeG h64 i
 refine zb8 (fun hf=>?_) (fun hf=>?_)
 · have hmet:=hiff.1 hf
   refine zap zbv h.var rfl ?_
   refine zac u23 ty3 (i:=i) h.mine.is (by rw [zag,hl];exact hi) fun b2 o2 hA2=>?_
   rw [zbu] at hA2
   refine zad ty3 hA2 (Ext.refl _) fun _=>?_
   refine ziA (m:=m) (n:=zaG out i) (by omega) (by omega) ?_
   refine zaI ?_
   refine br (fun hne=>?_) (fun heq=>?_)
   · have hns:¬zem m (zaG out i):=fun hs=>hne (by rw [(zjq hm hi64).2 hs];rfl)
     refine zap zbv h.var rfl ?_
     refine zac u23 ty3 (i:=i) h.mine.is (by rw [zag,hl];exact hi) fun b3 o3 hA3=>?_
     rw [zbu] at hA3
     refine zad ty3 hA3 (Ext.refl _) fun _=>?_
     refine zfY (m:=zaG out i) (n:=m) (by omega) (by omega) ?_
     have ho:=zic hm hi64
     refine zch (α:=Int) rfl u23 ty3 hi ?_
     refine zbx (α:=Int) rfl ty3 h.mine (by rw [zag,hl]) hi (zel (v:=zaG out i ||| m) (by omega)) fun w2 hc2 hm2=>?_
     have h2:=h.set (v:=zaG out i ||| m) hc2 hm2
     refine zcg (α:=Raw) (lo:=0) (hi:=0) ty4 rfl rfl h2.agn (by simp) (zci rfl) fun w3 hc3 hB3=>?_
     exact ⟨rfl,_,true,h2.agains hc3.one hB3,(hc2.mono (by simp)).trans (hc3.one.mono (by simp)),.inl ⟨hmet,hns,rfl,rfl⟩⟩
   have hs:zem m (zaG out i):=(zjq hm hi64).1 (Int.ofNat_inj.1 (Decidable.not_not.1 heq))
   exact ⟨rfl,out,ag,h,Chg.refl _ _,.inr ⟨fun _=>hs,rfl,rfl⟩⟩
 exact ⟨rfl,out,ag,h,Chg.refl _ _,.inr ⟨fun hm=>(by rw [hiff.2 hm] at hf;cases hf),rfl,rfl⟩⟩
end
def CR (c:DCode) (out0:List Nat) (k h0 m:Nat) (ag:Bool):Prop:=ag=false→h0=zaG out0 k∧((zaj c k).op=4→m=zaG out0 (zN c (agN c k)))∧(¬(zaj c k).op=4→m=aft c [] k (zaG out0 k))
theorem HP.close {c:DCode} {out0 out:List Nat} {ag:Bool} {k h0 m:Nat} (hP:HP c out0 ag out k) (hC:CR c out0 k h0 m ag) (h1:(zaj c k).op=4→zem h0 (zaG out (eN c (agN c k)))) (h2:∀ j∈zaz c k,MetP c j→zem m (zaG out j)):HP c out0 ag out (k+1):=
 hP.next fun e hk=>by
   obtain ⟨c1,c2,c3⟩:=hC e
   have ho:=(hP.no e).1
   rw [←ho] at c1 c2 c3
   refine ⟨fun h4=>⟨c1▸h1 h4,fun hz j hj=>?_⟩,fun h4 j hj=>?_⟩
   · rw [←c2 h4];exact h2 j hj (.back hk h4 hz hj)
   rw [←c3 h4];exact h2 j hj (.next hk h4 hj)
theorem zqp {w W0 W1:World} {b:Nat} {v1:Value} {c:DCode} (hW:WAt W0 b c) (e0:Ext W0 w) (hv:Is W1 v1 (zfd c)) (e1:Ext W1 w) (hc:CodeR c) :
   CALL Tryz.prog 87 [.pointer (some ⟨b,0,none⟩),v1] w fun r w'=>Ext w w'∧Own w.heap.size w' r (zaF (zi9 c)):=by
 refine F87_call ?_
 unfold F87
 have h8:=hc.1.procs8
 have hil:=hc.f.ins
 have hcode:=hW.wl.code
 have hcell:v1.cells=#[v1]:=by
   obtain ⟨aa,cc,FF,xx,hh,_⟩:=zdd hv
   rw [hh];rfl
 refine zpI hcell fun wm hxm hBm=>?_
 have hsm:=hxm.size
 have e0m:=e0.trans hxm
 refine NIL.mk rfl ?_
 refine zaa zbO ?_
 refine zaa zaK ?_
 refine zab zdn (zak hcode) e0m fun v17 h17=>?_
 refine zae u30 h17 ?_
 have hz0:=(zgO hc h8.2).2.2
 have hP0:=HP.start (c:=c)
 have hn:c.ins.length=c.ins.length:=rfl
 generalize hnn:c.ins.length=n at hn
 rw [hnn] at hil hP0
 refine zfa (by omega) (by omega) fun w1 hx1 hM1=>?_
 have hs1:=hx1.size
 have hg1:=hM1.lt _ (List.mem_singleton.2 rfl)
 have hmg:w.heap.size<wm.heap.size:=hBm.lt
 generalize hgm:w.heap.size=gm at *
 generalize hg:wm.heap.size=g at *
 refine zfu zrd zbv rfl fun w2 hx2 hB2=>?_
 have hs2:=hx2.size
 have hM2:=hM1.ext hx2
 have hBm2:=hBm.ext (hx1.trans hx2)
 generalize hgo:w1.heap.size=go at *
 have hgo2:=hB2.lt
 refine zfu zp0 ty4 rfl fun w5 hx5 hB5=>?_
 have hHW:HW w w5 gm go g w2.heap.size n v1 (List.replicate n 0) true:=⟨hxm.trans (hx1.trans (hx2.trans hx5)),hBm2.ext hx5,hB2.ext hx5,hM2.ext hx5,hB5,by omega,by omega,by omega,by omega,by omega,by omega,by omega,by omega⟩
 generalize w2.heap.size=ga at *
 generalize List.replicate n 0=out at *
 refine LOOPI.mk (fun m us w'=>∃ (ga:Nat) (out:List Nat) (ag:Bool),us=[.pointer (some ⟨ga,0,none⟩)]∧m=(n*63-out.sum)+(if ag then 1 else 0)∧HW w w' gm go g ga n v1 out ag∧HP c out false out 0∧(ag=false→out=zi9 c)) (n*63-out.sum+1) ⟨ga,out,true,rfl,rfl,hHW,hP0,fun e=>by cases e⟩ ?_
 rintro m u w6 ⟨ga,out,ag,hu,hm,hW6,hT6,hend⟩
 simp only [List.map_cons,List.map_nil,List.cons.injEq,and_true] at hu
 rw [hu]
 have hcn:=hT6.sum_le
 rw [hnn] at hcn
 refine zap ty4 hW6.agn rfl ?_
 refine zb8 (fun hag=>?_) (fun hag=>?_)
 case refine_2=>
   refine zap zbv hW6.var rfl ?_
   rw [←hend hag]
   exact ⟨hW6.ext,[g],hW6.mine,fun b hb=>by simp only [List.mem_cons,List.not_mem_nil,or_false] at hb;omega⟩
 rw [hag,if_pos rfl] at hm
 refine zcg (α:=Raw) (lo:=0) (hi:=0) ty4 rfl rfl hW6.agn (by simp) (zci rfl) fun w7 hc7 hB7=>?_
 have hW7:=hW6.agains hc7.one hB7
 refine zaQ (v:=.func (.func 145) #[] #[.pointer (some ⟨gm,0,none⟩),.pointer (some ⟨go,0,none⟩),.pointer (some ⟨ga,0,none⟩)]) (fun w' _=>by simp [Instr.makeFunc]) ?_
 refine NIL.mk rfl ?_
 refine zaa zbO ?_
 refine zaa zaK ?_
 refine zab zdn (zak hcode) (e0.trans hW7.ext) fun v26 h26=>?_
 refine zae u30 h26 ?_
 rw [hnn]
 refine zaq n (fun k us w'=>∃ (out':List Nat) (ag':Bool),us=[.int .i64 (k:Int)]∧k≤n∧HW w w' gm go g ga n v1 out' ag'∧HP c out ag' out' k) 0 (Nat.zero_le _) ⟨out,false,rfl,Nat.zero_le _,hW7,hT6⟩ ?_
 rintro k mk u w8 hkm ⟨out8,ag8,hu,hkl,hW8,hT8⟩
 simp only [List.map_cons,List.map_nil,List.cons.injEq,and_true] at hu
 rw [hu]
 refine zah ?_
 refine br (fun hlt=>?_) (fun hge=>?_)
 case refine_2=>
   have hke:k=n:=by omega
   rw [hke] at hT8
   refine zap ty4 hW8.agn rfl ?_
   refine zfu zp0 ty4 rfl fun w9 hx9 hB9=>?_
   have hcn8:=hT8.sum_le
   rw [hnn] at hcn8
   refine ⟨(n*63-out8.sum)+(if ag8 then 1 else 0),?_,_,out8,ag8,rfl,rfl,hW8.cell hx9 hB9 (Nat.le_refl _),hT8.again,fun e=>?_⟩
   · cases ag8 with
     | true=>have:=hT8.yes rfl;simp;omega
     | false=>rw [(hT8.no rfl).1];simp;omega
   rw [e,←hnn] at hT8
   exact hT8.fin hc
 have hk:k<n:=by omega
 have hkn:k<c.ins.length:=by omega
 have hl8:out8.length=n:=by rw [hT8.len,hnn]
 refine zac u30 zaR h26 hkn fun b3 o3 hA3=>?_
 rw [zaS] at hA3
 refine zab zaR hA3 (e0.trans hW8.ext) fun v32 h32=>?_
 refine zct zfD rfl zaR rfl h32 (e0.trans hW8.ext) fun w9 hx9 hAI hV9=>?_
 have hW9:=hW8.step hx9
 have hAB9:=zey h32 hV9 rfl
 have hml:(zfd c).length=n:=by unfold zfd;rw [zas,hnn]
 have hms:=zbl (n:=c.ins.length) (p:=MetP c) (i:=k)
 have hmk:=za5 (ms:=zfd c) (i:=k) (by rw [hml];exact hk)
 have hiff:(zfd c)[k]=true↔MetP c k:=by
   rw [←hmk];unfold zfd;rw [hms];exact ⟨fun h=>h.2,fun h=>⟨by omega,h⟩⟩
 refine zap zck hW9.met rfl ?_
 refine zac zdi ty4 (i:=k) hv (by rw [hml];exact hk) fun b4 o4 hA4=>?_
 refine zaX ty4 hA4 (e1.trans hW9.ext) ?_
 refine zaW ?_
 refine zb8 (fun hf=>?_) (fun hf=>?_)
 · have hnm:¬MetP c k:=fun h=>by rw [hiff.2 h] at hf;cases hf
   refine zaf (by omega) ?_
   exact ⟨mk-1,by omega,k+1,by omega,out8,ag8,rfl,by omega,hW9,hT8.next fun _ h=>absurd h hnm⟩
 have hMk:MetP c k:=hiff.1 (by simpa using hf)
 have hk64:=hT8.lt0 k
 refine zap zbv hW9.var rfl ?_
 refine zac u23 ty3 (i:=k) hW9.mine.is (by rw [zag,hl8];exact hk) fun b5 o5 hA5=>?_
 rw [zbu] at hA5
 refine zad ty3 hA5 (Ext.refl _) fun _=>?_
 have hkz:ag8=false→zaG out8 k=zaG out k:=fun e=>by rw [(hT8.no e).1]
 have hkm8:∀ l,l<6→(zaG out8 k).testBit l=true→MayP c k l:=fun l hl hb=>(hT8.snd k l hkn hb).1
 generalize hh0:zaG out8 k=h0 at *
 refine JOIN.mk (fun us w'=>∃ (m:Nat) (out':List Nat) (ag':Bool),us=[.int .i64 (m:Int)]∧HW w w' gm go g ga n v1 out' ag'∧HP c out ag' out' k∧m<64∧CR c out k h0 m ag'∧((zaj c k).op=4→zem h0 (zaG out' (eN c (agN c k))))∧∀ l,l<6→m.testBit l=true→∀ j∈zaz c k,MayP c j l) ?_ ?_
 · have haf:aft c [] k h0=if (zaj c k).op=6 then h0 ||| 2^agN c k else if (zaj c k).op=7 then zhM h0 (2^agN c k) else if (zaj c k).op=4 then (h0 &&& (tbl [] (agN c k)).1) ||| (tbl [] (agN c k)).2 else h0:=rfl
   have hgo:¬(zaj c k).op=4→∀ w',HW w w' gm go g ga n v1 out8 ag8→aft c [] k h0<64→∃ (m:Nat) (out':List Nat) (ag':Bool),[Value.int .i64 (aft c [] k h0:Nat)]=[.int .i64 (m:Int)]∧HW w w' gm go g ga n v1 out' ag'∧HP c out ag' out' k∧m<64∧CR c out k h0 m ag'∧((zaj c k).op=4→zem h0 (zaG out' (eN c (agN c k))))∧∀ l,l<6→m.testBit l=true→∀ j∈zaz c k,MayP c j l:=fun h4 w' hW' hlt'=>
     ⟨_,out8,ag8,rfl,hW',hT8,hlt',fun e=>⟨hkz e,fun h=>absurd h h4,fun _=>by rw [hkz e]⟩,fun h=>absurd h h4,fun l hl hb j hj=>zm8 h4 hMk hj (hkm8 l hl) hb⟩
   refine zaa zaL ?_
   refine zad ty3 (zat hAI) (Ext.refl _) fun _=>?_
   refine zao ?_
   refine br (fun c6=>?_) (fun c6=>?_)
   · obtain ⟨ha,_,hq⟩:=zcU hc hkn (.inl c6)
     have hp:=zia hq
     rw [if_pos c6] at haf
     refine zaa zbi ?_
     refine zad ty3 (zaJ hAI) (Ext.refl _) fun _=>?_
     rw [ha]
     refine zbD (by kernel_rfl) zik (by omega) ?_
     refine zew (by omega) ?_
     refine zfY (m:=h0) (n:=2^agN c k) (by omega) (by omega) ?_
     have:=hgo (by omega) w9 hW9 (by rw [haf];exact zoX hk64 hq)
     rw [haf] at this
     exact this
   rw [if_neg c6] at haf
   refine zao ?_
   refine br (fun c7=>?_) (fun c7=>?_)
   · obtain ⟨ha,_,hq⟩:=zcU hc hkn (.inr c7)
     have hp:=zia hq
     rw [if_pos c7] at haf
     refine zaa zbi ?_
     refine zad ty3 (zaJ hAI) (Ext.refl _) fun _=>?_
     rw [ha]
     refine zbD (by kernel_rfl) zik (by omega) ?_
     refine zew (by omega) ?_
     refine ziA (m:=h0) (n:=2^agN c k) (by omega) (by omega) ?_
     have:=hgo (by omega) w9 hW9 (by rw [haf];exact Nat.lt_of_le_of_lt (zgb _ _) hk64)
     rw [haf] at this
     exact this
   rw [if_neg c7] at haf
   refine zao ?_
   refine br (fun c4=>?_) (fun c4=>?_)
   · obtain ⟨ha1,ha2⟩:=zd3 hc hkn (.inl c4)
     have hpe:agN c k<c.entry.length:=by rw [hc.2.1.1];exact ha2
     obtain ⟨he1,he2,_⟩:=zfF hc hpe
     obtain ⟨hz1,hz2,hz3⟩:=zgO hc ha2
     have hxd:=zan w9
     have hW10:=hW9.step hxd
     generalize World.drew1 w9=w10 at *
     refine NIL.mk rfl ?_
     refine zaa zbO ?_
     refine zaa zaO ?_
     refine zab zbv (zal hcode) (e0.trans hW10.ext) fun v66 h66=>?_
     refine zaa zbi ?_
     refine zad ty3 (zaJ hAI) hxd fun _=>?_
     rw [ha1]
     refine zac u23 ty3 h66 hpe fun b5 o5 hA5=>?_
     rw [zbf hpe,he1] at hA5
     refine zad ty3 hA5 (e0.trans hW10.ext) fun _=>?_
     refine zk1 (args:=[_,_]) (caps:=[_,_,_]) zo5 ((znb (i:=eN c (agN c k)) (m:=h0) hW10 hv (e1.trans hW10.ext) hnn (by omega) hl8 hT8.lt hk64).mono ?_)
     rintro _ w11 ⟨rfl,out11,ag11,hW11,hc11,hR11⟩
     have hmE:MetP c (eN c (agN c k)):=.call hMk c4
     have hT11:=hR11.hp hT8 he2 hk64 fun l hl hb=>.call hMk c4 (hkm8 l hl hb)
     have hF1:=hR11.sub (by rw [hl8];omega) hmE
     have hx12:=zan w11
     have hW12:=hW11.step hx12
     have hgI:w8.heap.size<w10.heap.size:=by have:=hV9.lt;have:=hxd.size;omega
     have hne:w8.heap.size∉[g,ga]:=by have h1:=hW8.mine.lt g (by simp);have h2:=hW8.agn.lt;simp;omega
     have hAI11:=(hAB9.ext hxd).keep (hc11.block _ hgI hne)
     have hAI12:=(hAI11.ext hx12).at (e0.trans hW12.ext)
     generalize World.drew1 w11=w12 at *
     refine zap zbv hW12.var rfl ?_
     refine NIL.mk rfl ?_
     refine zaa zbO ?_
     refine zab zdh hcode (e0.trans hW12.ext) fun v76 h76=>?_
     refine zaa zbi ?_
     refine zad ty3 (zaJ hAI12) (Ext.refl _) fun _=>?_
     rw [ha1]
     refine (zc7 h76 (e0.trans hW12.ext) (by omega)).mono ?_
     rintro _ w13 ⟨hx13,rfl⟩
     refine ⟨hx13,?_⟩
     have hW13:=hW12.step hx13
     rw [hz1]
     refine za9 (by unfold I64;omega) ?_
     rw [show ((zN c (agN c k)+1:Nat):Int)-1=(zN c (agN c k):Int) by omega]
     have hl11:out11.length=n:=by rw [hT11.len,hnn]
     refine zac u23 ty3 (i:=zN c (agN c k)) hW13.mine.is (by rw [zag,hl11];omega) fun b6 o6 hA6=>?_
     rw [zbu] at hA6
     refine zad ty3 hA6 (Ext.refl _) fun _=>?_
     refine ⟨zaG out11 (zN c (agN c k)),out11,ag11,rfl,hW13,hT11,hT11.lt0 _,fun e=>⟨hkz (hR11.ag e),fun _=>by rw [(hT11.no e).1],fun h=>absurd c4 h⟩,fun _=>hF1,fun l hl hb j hj=>?_⟩
     have:=hT11.snd _ l (by omega) hb
     exact .back hMk c4 this.2 this.1 hj
   rw [if_neg c4] at haf
   have:=hgo c4 w9 hW9 (by rw [haf];exact hk64)
   rw [haf] at this
   exact this
 rintro us w14 ⟨m,out14,ag14,hus,hW14,hT14,hm64,hC14,hF14,hmay⟩
 simp only [List.map_cons,List.map_nil,List.cons.injEq,and_true] at hus
 rw [hus]
 refine (zgy hcode (e0.trans hW14.ext) hc hkn).mono ?_
 rintro v86 w15 ⟨hx15,ho15⟩
 have hW15:=hW14.step hx15
 have hl2:=zd0 c k
 have hnl:=fun {j:Nat} (hj:j∈zaz c k)=>(zcF hc hkn hj).1
 have hclose:=fun {out:List Nat} {o:List Nat} {ag:Bool} (hP:HP c out ag o k)=>HP.close (h0:=h0) (m:=m) hP
 generalize hNx:zaz c k=N at *
 refine zae u23 ho15.is ?_
 rw [zag]
 refine zaq N.length (fun q us w'=>∃ (out':List Nat) (ag':Bool),us=[.int .i64 (q:Int)]∧q≤N.length∧HW w w' gm go g ga n v1 out' ag'∧HP c out ag' out' k∧CR c out k h0 m ag'∧((zaj c k).op=4→zem h0 (zaG out' (eN c (agN c k))))∧(∀ j∈N.take q,MetP c j→zem m (zaG out' j))∧OwnI w14.heap.size w15.heap.size w' v86 (zaF N)) 0 (Nat.zero_le _) ⟨out14,ag14,rfl,Nat.zero_le _,hW15,hT14,hC14,hF14,by simp,ho15.toI⟩ ?_
 rintro q mq u w16 hqm ⟨out16,ag16,hu,hql,hW16,hT16,hC16,hF16,hq16,hO16⟩
 simp only [List.map_cons,List.map_nil,List.cons.injEq,and_true] at hu
 rw [hu]
 refine zah ?_
 refine br (fun hlt=>?_) (fun hge=>?_)
 case refine_2=>
   refine zaf (by omega) ?_
   rw [List.take_of_length_le (by omega)] at hq16
   exact ⟨mk-1,by omega,k+1,by omega,out16,ag16,rfl,by omega,hW16,hclose hT16 hC16 hF16 (hNx▸hq16)⟩
 have hq:q<N.length:=by omega
 refine zac u23 ty3 (i:=q) hO16.is (by rw [zag];exact hq) fun b7 o7 hA7=>?_
 rw [zaY] at hA7
 refine zad ty3 hA7 (Ext.refl _) fun _=>?_
 have htq:=fun x=>zb5 hq (x:=x)
 have hj:=List.getElem_mem hq
 have hjl:=hnl hj
 have hmj:=fun l hl hb=>hmay l hl hb _ hj
 generalize N[q]=j at *
 have hl16:out16.length=n:=by rw [hT16.len,hnn]
 refine zk1 (args:=[_,_]) (caps:=[_,_,_]) zo5 ((znb (i:=j) (m:=m) hW16 hv (e1.trans hW16.ext) hnn (by omega) hl16 hT16.lt hm64).mono ?_)
 rintro _ w17 ⟨rfl,out17,ag17,hW17,hc17,hR17⟩
 refine zaf (by omega) ?_
 have hg14:=hW14.mine.lt g (by simp)
 have hga14:=hW14.agn.lt
 have hjo:j<out16.length:=by omega
 refine ⟨mq-1,by omega,q+1,by omega,out17,ag17,rfl,by omega,hW17,hR17.hp hT16 hjl hm64 hmj,fun e=>hC16 (hR17.ag e),fun h4=>hR17.mono hjo (hF16 h4),fun i hi hmi=>?_,hO16.chgF hc17 (by simp;omega)⟩
 rcases (htq i).1 hi with h | h
 · exact hR17.mono hjo (hq16 i h hmi)
 subst h;exact hR17.sub hjo hmi
end Go.Proofs.YtifonhplnmpgaaaGreat
namespace Go.Sh
open Rep (rep)
theorem zds {α:Type} [Rep α] {w:World} {g e o:Nat} {cs:List Value} {v:Value} {l:List α} (hB:Blk g e w cs) (ho:cs[o]?=some v) (h:Is w v l):At w g o l:=by
 obtain ⟨F,xs,hr,rfl⟩:=h
 have hr':=hr
 obtain ⟨a,cap,Fi,ys,rfl,h⟩:=hr
 refine ⟨F,_,hr',fun i u hi=>?_⟩
 have:i=0:=by
   cases i with
   | zero=>rfl
   | succ i=>simp at hi
 subst this
 simp only [List.getElem?_cons_zero,Option.some.injEq] at hi
 subst hi
 have:=hB.range o _ ho
 rw [Nat.zero_add] at this
 exact this
end Go.Sh
namespace Go.Proofs.YtifonhplnmpgaaaGreat
open Go Go.Sh Go.Proofs
open Rep (rep)
def F177 (a0 a1 a2:Value) (w:World) (R:VW):Prop:=
 (fun w=>NIL a0 <|
 rF 159 a0 1 w fun x8=>
 rL 101 x8 w fun x9=>
 rX 101 x9 a1 w fun x11=>
 rL 4 x11 w fun x12=>
 rD (Op.unary .not x12) w fun x13=>
 BR x13
 (NIL a0 <|
 rF 159 a0 1 w fun x35=>
 rL 101 x35 w fun x36=>
 rX 101 x36 a1 w fun x38=>
 oS 4 x38 (Value.bool true) w fun w=>
 (fun w=>NIL a0 <|
 rF 159 a0 2 w fun x41=>
 rL 23 x41 w fun x42=>
 NIL a0 <|
 rF 159 a0 2 w fun x46=>
 rL 23 x46 w fun x47=>
 rX 23 x47 a1 w fun x49=>
 rL 3 x49 w fun x50=>
 rB .or 3 T0 T0 x50 a2 w fun x52=>
 rX 23 x42 a1 w fun x53=>
 oS 3 x53 x52 w fun w=>
 NIL a0 <|
 rF 159 a0 3 w fun x56=>
 oS 4 x56 (Value.bool true) w fun w=>
 R (Value.tuple #[]) w) (World.drew1 w))
 (NIL a0 <|
 rF 159 a0 2 w fun x17=>
 rL 23 x17 w fun x18=>
 rX 23 x18 a1 w fun x20=>
 rL 3 x20 w fun x21=>
 rB .or 3 T0 T0 x21 a2 w fun x23=>
 NIL a0 <|
 rF 159 a0 2 w fun x26=>
 rL 23 x26 w fun x27=>
 rX 23 x27 a1 w fun x29=>
 rL 3 x29 w fun x30=>
 rB .neq 3 T0 T0 x23 x30 w fun x31=>
 BR x31
 (NIL a0 <|
 rF 159 a0 1 w fun x35=>
 rL 101 x35 w fun x36=>
 rX 101 x36 a1 w fun x38=>
 oS 4 x38 (Value.bool true) w fun w=>
 (fun w=>NIL a0 <|
 rF 159 a0 2 w fun x41=>
 rL 23 x41 w fun x42=>
 NIL a0 <|
 rF 159 a0 2 w fun x46=>
 rL 23 x46 w fun x47=>
 rX 23 x47 a1 w fun x49=>
 rL 3 x49 w fun x50=>
 rB .or 3 T0 T0 x50 a2 w fun x52=>
 rX 23 x42 a1 w fun x53=>
 oS 3 x53 x52 w fun w=>
 NIL a0 <|
 rF 159 a0 3 w fun x56=>
 oS 4 x56 (Value.bool true) w fun w=>
 R (Value.tuple #[]) w) (World.drew1 w))
 (R (Value.tuple #[]) w))) (World.drew1 w)
def cfg177:Cfg:=⟨extL,[],[],[(0,[0,1,2,3,4,5,6,7,8,9,10,11,12,13,14,15,16,17,18,19,20,21,22,23,24,25,26],0),(2,[0,1,2,3,4,5,6,7,8,9,10,11,12,13,14,15],0)],[],[],[]⟩
theorem F177_call {a0 a1 a2:Value} {w:World} {R:VW} (h:F177 a0 a1 a2 w R):cL 177 [a0,a1,a2] w R:=co (g:=cfg177) Tryz.func177 (by kernel_rfl) (by kernel_rfl) (by kernel_rfl) h
open Rep (rep)
theorem zho {w:World} {v:Value} {c:DCode} (h:Is w v c):∃ a0 a1 a2 a3 a4 n0 n1 n2 n3 n4 k0 k1 k2 k3 k4,v=.agg #[.slice a0 n0 k0,.slice a1 n1 k1,.slice a2 n2 k2,.slice a3 n3 k3,.slice a4 n4 k4]:=by
 obtain ⟨F,cs,hr,rfl⟩:=h
 obtain ⟨F0,c0,F1,c1,F2,c2,F3,c3,F4,c4,rfl,rfl,⟨_,_,_,_,rfl,_⟩,⟨_,_,_,_,rfl,_⟩,⟨_,_,_,_,rfl,_⟩,⟨_,_,_,_,rfl,_⟩,⟨_,_,_,_,rfl,_⟩⟩:=zgn hr
 exact ⟨_,_,_,_,_,_,_,_,_,_,_,_,_,_,_,rfl⟩
structure LP (c:DCode) (ms0:List Bool) (out0:List Nat) (nw:Bool) (ms:List Bool) (out:List Nat) (k:Nat):Prop where
 len:ms.length=c.ins.length
 leno:out.length=c.ins.length
 lt:∀ x∈out,x<64
 snd:∀ i,mkd ms i→MetP c i
 sndm:∀ i l,i<c.ins.length→(zaG out i).testBit l=true→MayP c i l
 root:∀ p,RootP c p→mkd ms (eN c p)
 yes:nw=true→zfI ms0+out0.sum<zfI ms+out.sum
 no:nw=false→ms=ms0∧out=out0∧∀ i,i<k→mkd ms0 i→MC c ms0 i∧((zaj c i).op=4→zem (zaG out0 i) (zaG out0 (eN c (agN c i)))∧(mkd ms0 (zN c (agN c i))→∀ j∈zaz c i,zem (zaG out0 (zN c (agN c i))) (zaG out0 j)))∧(¬(zaj c i).op=4→∀ j∈zaz c i,zem (aft c [] i (zaG out0 i)) (zaG out0 j))
theorem LP.lt0 {c:DCode} {ms0 ms:List Bool} {out0 out:List Nat} {nw:Bool} {k:Nat} (h:LP c ms0 out0 nw ms out k) (i:Nat):zaG out i<64:=zeG h.lt i
def zny (ms:List Bool) (out:List Nat) (nw:Bool) (i m:Nat):Bool:=nw || !(ms.getD i false&&decide (zaG out i ||| m=zaG out i))
theorem zk2 {ms:List Bool} {out:List Nat} {nw:Bool} {i m:Nat} (h:mkd ms i) (h2:zaG out i ||| m=zaG out i):zny ms out nw i m=nw:=by
 unfold mkd at h;unfold zny;rw [h,decide_eq_true h2];simp
theorem zie {ms:List Bool} {out:List Nat} {nw:Bool} {i m:Nat} (h:¬(mkd ms i∧zaG out i ||| m=zaG out i)):zny ms out nw i m=true:=by
 unfold mkd at h;unfold zny
 cases e:ms.getD i false
 · simp
 have:¬(zaG out i ||| m=zaG out i):=fun h2=>h ⟨e,h2⟩
 rw [decide_eq_false this];simp
theorem zif {out:List Nat} {i:Nat} (h:i<out.length):out.set i (zaG out i)=out:=by rw [←zbI h];exact List.set_getElem_self h
theorem znc {ms:List Bool} {i:Nat}:zfI ms≤zfI (ms.set i true):=by
 by_cases h:i<ms.length
 · by_cases hk:mkd ms i
   · rw [zgP hk];exact Nat.le_refl _
   rw [zeS h hk];omega
 rw [List.set_eq_of_length_le (by omega)];exact Nat.le_refl _
theorem LP.put {c:DCode} {ms0 ms:List Bool} {out0 out:List Nat} {nw:Bool} {k i m:Nat} (h:LP c ms0 out0 nw ms out k) (hi:i<c.ins.length) (hm:m<64) (hmet:MetP c i) (hmay:∀ l,l<6→m.testBit l=true→MayP c i l) :
   LP c ms0 out0 (zny ms out nw i m) (ms.set i true) (out.set i (zaG out i ||| m)) k:=by
 by_cases hk:mkd ms i∧zaG out i ||| m=zaG out i
 · rw [zk2 hk.1 hk.2,zgP hk.1,hk.2,zif (by rw [h.leno];exact hi)];exact h
 rw [zie hk]
 have h64:=h.lt0 i
 have h1:=zj8 (l:=out) (i:=i) (v:=zaG out i ||| m) (by rw [h.leno];exact hi)
 have h2:zaG out i≤zaG out i ||| m:=Nat.left_le_or
 have h3:=znc (ms:=ms) (i:=i)
 refine ⟨by simp [h.len],by simp [h.leno],fun x hx=>?_,fun j hj=>?_,fun j l hj hb=>?_,fun p hp=>zdb (h.root p hp),fun _=>?_,fun e=>by cases e⟩
 · rcases zmN hx with rfl | hx
   · exact zic hm h64
   exact h.lt x hx
 · rcases (zbE (by rw [h.len];exact hi)).1 hj with h4 | h4
   · exact h.snd j h4
   rw [h4];exact hmet
 · rw [zc8 (by rw [h.leno];exact hi)] at hb
   split at hb
   · rename_i e
     subst e
     rw [Nat.testBit_or,Bool.or_eq_true] at hb
     rcases hb with hb | hb
     · exact h.sndm i l hj hb
     exact hmay l (zd2 hm hb) hb
   exact h.sndm j l hj hb
 have key:zfI ms+out.sum<zfI (ms.set i true)+(out.set i (zaG out i ||| m)).sum:=by
   by_cases hk1:mkd ms i
   · have:=zov fun e=>hk ⟨hk1,e⟩
     omega
   have:=zeS (by rw [h.len];exact hi) hk1
   omega
 cases nw with
 | true=>have:=h.yes rfl;omega
 | false=>rw [←(h.no rfl).1,←(h.no rfl).2.1];exact key
theorem znd {ms:List Bool} {out:List Nat} {nw:Bool} {i m:Nat} (e:zny ms out nw i m=false):nw=false:=by
 unfold zny at e
 cases nw<;>simp_all
theorem zne {out:List Nat} {i j m x:Nat} (hi:i<out.length) (hx:zem x (zaG out j)):zem x (zaG (out.set i (zaG out i ||| m)) j):=by
 rw [zc8 hi]
 split
 · rename_i e;subst e;exact zgQ hx
 exact hx
theorem zfA {out:List Nat} {i m:Nat} (hi:i<out.length):zem m (zaG (out.set i (zaG out i ||| m)) i):=by
 rw [zc8 hi,if_pos rfl];exact zo3
theorem LP.fin {c:DCode} (hc:CodeR c) {ms0 ms:List Bool} {out0 out:List Nat} (h:LP c ms0 out0 false ms out c.ins.length):ms=zfd c∧out=zi9 c:=by
 obtain ⟨h1,h2,h3⟩:=h.no rfl
 rw [←h1,←h2] at h3
 have hT:TP c ms false ms c.ins.length:=⟨h.len,h.snd,h.root,fun e=>(by cases e),fun _=>⟨rfl,fun i hi hm=>(h3 i hi hm).1⟩⟩
 have hms:=hT.fin hc
 have hmk:∀ i,MetP c i→mkd ms i:=fun i hi=>by rw [hms];exact zbl.2 ⟨hi.lt hc,hi⟩
 exact ⟨hms,zm9 hc h.leno h.lt h.sndm fun i hm=>by
   have:=(h3 i (hm.lt hc) (hmk i hm)).2
   exact ⟨fun h4=>⟨(this.1 h4).1,fun hz=>(this.1 h4).2 (hmk _ hz)⟩,this.2⟩⟩
theorem LP.again {c:DCode} {ms0 ms:List Bool} {out0 out:List Nat} {nw:Bool} {k:Nat} (h:LP c ms0 out0 nw ms out k):LP c ms out false ms out 0:=
 ⟨h.len,h.leno,h.lt,h.snd,h.sndm,h.root,fun e=>(by cases e),fun _=>⟨rfl,rfl,fun i hi=>by omega⟩⟩
theorem LP.skip {c:DCode} {ms0 ms:List Bool} {out0 out:List Nat} {nw:Bool} {k:Nat} (h:LP c ms0 out0 nw ms out k) (hk:¬mkd ms k):LP c ms0 out0 nw ms out (k+1):=
 ⟨h.len,h.leno,h.lt,h.snd,h.sndm,h.root,h.yes,fun e=>⟨(h.no e).1,(h.no e).2.1,fun i hi hm=>by
   by_cases e2:i=k
   · subst e2;rw [(h.no e).1] at hk;exact absurd hm hk
   exact (h.no e).2.2 i (by omega) hm⟩⟩
theorem LP.close {c:DCode} {ms0 ms:List Bool} {out0 out:List Nat} {nw:Bool} {k h0 m:Nat} (h:LP c ms0 out0 nw ms out k) (hC:CR c out0 k h0 m nw) (h1:(zaj c k).op=4→mkd ms (eN c (agN c k))∧zem h0 (zaG out (eN c (agN c k))))
   (h2:((zaj c k).op=4→mkd ms (zN c (agN c k)))→∀ j∈zaz c k,mkd ms j∧zem m (zaG out j)):LP c ms0 out0 nw ms out (k+1):=
 ⟨h.len,h.leno,h.lt,h.snd,h.sndm,h.root,h.yes,fun e=>by
   obtain ⟨o1,o2,o3⟩:=h.no e
   refine ⟨o1,o2,fun i hi hm=>?_⟩
   by_cases e2:i=k
   · subst e2
     obtain ⟨c1,c2,c3⟩:=hC e
     rw [o1,o2] at h1
     rw [o1,o2] at h2
     refine ⟨⟨fun h4=>⟨(h1 h4).1,fun hz j hj=>(h2 (fun _=>hz) j hj).1⟩,fun h4 j hj=>(h2 (fun h=>absurd h h4) j hj).1⟩,fun h4=>⟨c1▸(h1 h4).2,fun hz j hj=>c2 h4▸(h2 (fun _=>hz) j hj).2⟩,fun h4 j hj=>c3 h4▸(h2 (fun h=>absurd h h4) j hj).2⟩
   exact o3 i (by omega) hm⟩
structure LW (w1 w:World) (gw g h n:Nat) (kc:List Value) (ms:List Bool) (out:List Nat) (nw:Bool):Prop where
 ext:Ext w1 w
 blk:Blk gw 159 w (kc++[.slice (some ⟨g,0,none⟩) n n,.slice (some ⟨h,0,none⟩) n n,.bool nw])
 mks:Mine [g] w (.slice (some ⟨g,0,none⟩) n n) ms
 mine:Mine [h] w (.slice (some ⟨h,0,none⟩) n n) (zaF out)
 k5:kc.length=5
 n1:gw≠g
 n2:gw≠h
 n3:g≠h
 g0:w1.heap.size≤gw
 g1:w1.heap.size≤g
 g2:w1.heap.size≤h
section
variable {w1 w w':World} {gw g h n:Nat} {kc:List Value} {ms:List Bool} {out:List Nat} {nw:Bool}
theorem LW.step (H:LW w1 w gw g h n kc ms out nw) (hx:Ext w w'):LW w1 w' gw g h n kc ms out nw:=⟨H.ext.trans hx,H.blk.ext hx,H.mks.ext hx,H.mine.ext hx,H.k5,H.n1,H.n2,H.n3,H.g0,H.g1,H.g2⟩
theorem LW.c5 (H:LW w1 w gw g h n kc ms out nw):(kc++[Value.slice (some ⟨g,0,none⟩) n n,.slice (some ⟨h,0,none⟩) n n,.bool nw])[5]?=some (.slice (some ⟨g,0,none⟩) n n):=by rw [List.getElem?_append_right (by rw [H.k5];omega),H.k5];rfl
theorem LW.c6 (H:LW w1 w gw g h n kc ms out nw):(kc++[Value.slice (some ⟨g,0,none⟩) n n,.slice (some ⟨h,0,none⟩) n n,.bool nw])[6]?=some (.slice (some ⟨h,0,none⟩) n n):=by rw [List.getElem?_append_right (by rw [H.k5];omega),H.k5];rfl
theorem LW.c7 (H:LW w1 w gw g h n kc ms out nw):(kc++[Value.slice (some ⟨g,0,none⟩) n n,.slice (some ⟨h,0,none⟩) n n,.bool nw])[7]?=some (.bool nw):=by rw [List.getElem?_append_right (by rw [H.k5];omega),H.k5];rfl
theorem LW.mark {ms':List Bool} (H:LW w1 w gw g h n kc ms out nw) (hc:Chg [g] w w') (hm:Mine [g] w' (.slice (some ⟨g,0,none⟩) n n) ms'):LW w1 w' gw g h n kc ms' out nw:=
 ⟨H.ext.chgF hc (by simp [H.g1]),H.blk.chgF hc (by simp [H.n1]),hm,H.mine.keep fun b hb=>by
   simp only [List.mem_cons,List.not_mem_nil,or_false] at hb;subst hb
   exact hc.block b (H.mine.lt b (by simp)) (by simp [Ne.symm H.n3]),H.k5,H.n1,H.n2,H.n3,H.g0,H.g1,H.g2⟩
theorem LW.set {i v:Nat} (H:LW w1 w gw g h n kc ms out nw) (hc:Chg [h] w w') (hm:Mine [h] w' (.slice (some ⟨h,0,none⟩) n n) ((zaF out).set i (v:Int))):LW w1 w' gw g h n kc ms (out.set i v) nw:=
 ⟨H.ext.chgF hc (by simp [H.g2]),H.blk.chgF hc (by simp [H.n2]),H.mks.keep fun b hb=>by
   simp only [List.mem_cons,List.not_mem_nil,or_false] at hb;subst hb
   exact hc.block b (H.mks.lt b (by simp)) (by simp [H.n3]),by rw [ze7];exact hm,H.k5,H.n1,H.n2,H.n3,H.g0,H.g1,H.g2⟩
theorem LW.news {nw':Bool} (H:LW w1 w gw g h n kc ms out nw) (hc:Chg [gw] w w') (hB:Blk gw 159 w' ((kc++[Value.slice (some ⟨g,0,none⟩) n n,.slice (some ⟨h,0,none⟩) n n,.bool nw]).set 7 (.bool nw'))):LW w1 w' gw g h n kc ms out nw':=by
 have e:(kc++[Value.slice (some ⟨g,0,none⟩) n n,.slice (some ⟨h,0,none⟩) n n,.bool nw]).set 7 (.bool nw')=kc++[Value.slice (some ⟨g,0,none⟩) n n,.slice (some ⟨h,0,none⟩) n n,.bool nw']:=by
   rw [List.set_append_right _ _ (by rw [H.k5];omega),H.k5];rfl
 rw [e] at hB
 exact ⟨H.ext.chgF hc (by simp [H.g0]),hB,H.mks.keep fun b hb=>by
   simp only [List.mem_cons,List.not_mem_nil,or_false] at hb;subst hb
   exact hc.block b (H.mks.lt b (by simp)) (by simp [Ne.symm H.n1]),H.mine.keep fun b hb=>by
   simp only [List.mem_cons,List.not_mem_nil,or_false] at hb;subst hb
   exact hc.block b (H.mine.lt b (by simp)) (by simp [Ne.symm H.n2]),H.k5,H.n1,H.n2,H.n3,H.g0,H.g1,H.g2⟩
theorem LW.l8 (H:LW w1 w gw g h n kc ms out nw):7<(kc++[Value.slice (some ⟨g,0,none⟩) n n,.slice (some ⟨h,0,none⟩) n n,.bool nw]).length:=by simp [H.k5]
theorem zgR {i m:Nat} (H:LW w1 w gw g h n kc ms out nw) (hi:i<n) (hl:ms.length=n) (hlo:out.length=n) (h64:∀ x∈out,x<64) (hm:m<64) :
   CALL Tryz.prog 177 [.pointer (some ⟨gw,0,none⟩),.int .i64 (i:Int),.int .i64 (m:Int)] w fun r w'=>r=.tuple #[]∧LW w1 w' gw g h n kc (ms.set i true) (out.set i (zaG out i ||| m)) (zny ms out nw i m)∧Chg [gw,g,h] w w':=by
 refine F177_call ?_
 unfold F177
 have hi64:=zeG h64 i
 have ho:=zic hm hi64
 have hxd:=zan w
 have H1:=H.step hxd
 have hcd:Chg [gw,g,h] w (World.drew1 w):=⟨hxd.os,hxd.tape,hxd.output,hxd.size,fun b hb _=>hxd.block b hb⟩
 generalize World.drew1 w=wd at *
 have hmk:=za5 (ms:=ms) (i:=i) (by rw [hl];exact hi)
 refine NIL.mk rfl ?_
 refine zaa zfj ?_
 refine zap zck H1.blk H1.c5 ?_
 refine zac zdi ty4 H1.mks.is (by rw [hl];exact hi) fun b1 o1 hA1=>?_
 refine zaX ty4 hA1 (Ext.refl _) ?_
 refine zaW ?_
 have hrd:∀ {w':World} {K:Value→Prop} (H:LW w1 w' gw g h n kc ms out nw) (k:K (.int .i64 (zaG out i:Int))),RD Tryz.prog (Instr.indexAt 23 (.slice (some ⟨h,0,none⟩) n n) (.int .i64 (i:Int))) w' fun x37=>RD Tryz.prog (Instr.loadAt 3 x37) w' K:=fun H k=>by
   refine zac u23 ty3 (i:=i) H.mine.is (by rw [zag,hlo];exact hi) fun b1 o1 hA1=>?_
   rw [zbu] at hA1
   exact zad ty3 hA1 (Ext.refl _) fun _=>k
 refine zb8 (fun hf=>?_) (fun hf=>?_)
 · have hnew:¬(mkd ms i∧zaG out i ||| m=zaG out i):=fun hh=>by rw [hmk.1 hh.1] at hf;cases hf
   rw [zie hnew]
   refine NIL.mk rfl ?_
   refine zaa zfj ?_
   refine zap zck H1.blk H1.c5 ?_
   refine zch (α:=Bool) rfl zdi ty4 hi ?_
   refine zbx (α:=Bool) rfl ty4 H1.mks hl hi za8 fun w2 hc2 hm2=>?_
   have H2:=H1.mark hc2 hm2
   have hx3:=zan w2
   have H3:=H2.step hx3
   have hc3:Chg [gw,g,h] w2 (World.drew1 w2):=⟨hx3.os,hx3.tape,hx3.output,hx3.size,fun b hb _=>hx3.block b hb⟩
   generalize World.drew1 w2=w3 at *
   refine NIL.mk rfl ?_
   refine zaa zdx ?_
   refine zap zbv H3.blk H3.c6 ?_
   refine NIL.mk rfl ?_
   refine zaa zdx ?_
   refine zap zbv H3.blk H3.c6 ?_
   refine zac u23 ty3 (i:=i) H3.mine.is (by rw [zag,hlo];exact hi) fun b4 o4 hA4=>?_
   rw [zbu] at hA4
   refine zad ty3 hA4 (Ext.refl _) fun _=>?_
   refine zfY (m:=zaG out i) (n:=m) (by omega) (by omega) ?_
   refine zch (α:=Int) rfl u23 ty3 hi ?_
   refine zbx (α:=Int) rfl ty3 H3.mine (by rw [zag,hlo]) hi (zel (v:=zaG out i ||| m) (by omega)) fun w4 hc4 hm4=>?_
   have H4:=H3.set (v:=zaG out i ||| m) hc4 hm4
   refine NIL.mk rfl ?_
   refine zaa zhH ?_
   refine zcg (α:=Raw) (lo:=0) (hi:=0) ty4 rfl rfl H4.blk H4.l8 (zci rfl) fun w5 hc5 hB5=>?_
   exact ⟨rfl,H4.news hc5.one hB5,(((hcd.trans (hc2.mono (by simp))).trans hc3).trans (hc4.mono (by simp))).trans (hc5.one.mono (by simp))⟩
 have hym:mkd ms i:=by rw [hmk];simpa using hf
 refine NIL.mk rfl ?_
 refine zaa zdx ?_
 refine zap zbv H1.blk H1.c6 ?_
 refine hrd H1 ?_
 refine zfY (m:=zaG out i) (n:=m) (by omega) (by omega) ?_
 refine NIL.mk rfl ?_
 refine zaa zdx ?_
 refine zap zbv H1.blk H1.c6 ?_
 refine hrd H1 ?_
 refine zaI ?_
 refine br (fun hne=>?_) (fun heq=>?_)
 · have hnew:¬(mkd ms i∧zaG out i ||| m=zaG out i):=fun hh=>hne (by rw [hh.2])
   rw [zie hnew]
   refine NIL.mk rfl ?_
   refine zaa zfj ?_
   refine zap zck H1.blk H1.c5 ?_
   refine zch (α:=Bool) rfl zdi ty4 hi ?_
   refine zbx (α:=Bool) rfl ty4 H1.mks hl hi za8 fun w2 hc2 hm2=>?_
   have H2:=H1.mark hc2 hm2
   have hx3:=zan w2
   have H3:=H2.step hx3
   have hc3:Chg [gw,g,h] w2 (World.drew1 w2):=⟨hx3.os,hx3.tape,hx3.output,hx3.size,fun b hb _=>hx3.block b hb⟩
   generalize World.drew1 w2=w3 at *
   refine NIL.mk rfl ?_
   refine zaa zdx ?_
   refine zap zbv H3.blk H3.c6 ?_
   refine NIL.mk rfl ?_
   refine zaa zdx ?_
   refine zap zbv H3.blk H3.c6 ?_
   refine zac u23 ty3 (i:=i) H3.mine.is (by rw [zag,hlo];exact hi) fun b4 o4 hA4=>?_
   rw [zbu] at hA4
   refine zad ty3 hA4 (Ext.refl _) fun _=>?_
   refine zfY (m:=zaG out i) (n:=m) (by omega) (by omega) ?_
   refine zch (α:=Int) rfl u23 ty3 hi ?_
   refine zbx (α:=Int) rfl ty3 H3.mine (by rw [zag,hlo]) hi (zel (v:=zaG out i ||| m) (by omega)) fun w4 hc4 hm4=>?_
   have H4:=H3.set (v:=zaG out i ||| m) hc4 hm4
   refine NIL.mk rfl ?_
   refine zaa zhH ?_
   refine zcg (α:=Raw) (lo:=0) (hi:=0) ty4 rfl rfl H4.blk H4.l8 (zci rfl) fun w5 hc5 hB5=>?_
   exact ⟨rfl,H4.news hc5.one hB5,(((hcd.trans (hc2.mono (by simp))).trans hc3).trans (hc4.mono (by simp))).trans (hc5.one.mono (by simp))⟩
 have he:zaG out i ||| m=zaG out i:=Int.ofNat_inj.1 (Decidable.not_not.1 heq)
 rw [zk2 hym he,zgP hym,he,zif (by rw [hlo];exact hi)]
 exact ⟨rfl,H1,hcd⟩
end
end Go.Proofs.YtifonhplnmpgaaaGreat
