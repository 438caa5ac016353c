/-
  The law FnRaces of the given program returns true for every input, and its arguments read afterwards as before: the given statement Rows.FnRacesSaid.
-/
import Derived.Test.YtbnjpfjjmhodnaaGreatPFnRaces7
set_option linter.unusedVariables false
set_option linter.unusedSimpArgs false
set_option linter.unusedSectionVars false
namespace Go.Proofs.YtbnjpfjjmhodnaaGreat
open Go Go.Sh Go.Proofs
open Rep (rep)
def F121 (a0:Value) (w:World) (R:VW):Prop:=
 rN 135 3 a0 w fun x7=>
 LOOPI [3,8] [(Value.slice none 0 0),(iV 0)] w fun u3 w next3=>
 rC (u3 8) x7 w fun x9=>
 BR x9
 (rX 135 a0 (u3 8) w fun x11=>
 rL 4 x11 w fun x12=>
 BR x12
 (oP (Instr.buildSlice 25 1 #[(0,(u3 8))]) w fun x16 w=>
 oP (Builtin.append_ #[25,25] 25 [(u3 3),x16].toArray) w fun x17 w=>
 rA (u3 8) (iV 1) w fun x18=>
 next3 [x17,x18] w)
 (rA (u3 8) (iV 1) w fun x18=>
 next3 [(u3 3),x18] w))
 (R (u3 3) w)
def cfg121:Cfg:=⟨extL,[],[(3,524088,[3,8])],[],[],[],[]⟩
theorem F121_call {a0:Value} {w:World} {R:VW} (h:F121 a0 w R):cL 121 [a0] w R:=co (g:=cfg121) Tryz.func121 (by kernel_rfl) (by kernel_rfl) (by kernel_rfl) h
open Rep (rep)
theorem zru {w W0:World} {v0:Value} {ms:List Bool} (h0:Is W0 v0 ms) (e0:Ext W0 w) (hn:ms.length≤2000000) :
   CALL Tryz.prog 121 [v0] w fun r w'=>Ext w w'∧Own w.heap.size w' r (zaI (zsj ms ms.length)):=by
 refine F121_call ?_
 unfold F121
 refine zag zcX h0 ?_
 refine zas ms.length (fun k us w'=>∃ (v:Value),us=[v,.int .i64 (k:Int)]∧k≤ms.length∧Ext w w'∧RowI w.heap.size w'.heap.size 3 w' v (zaI (zsj ms k))) 0 (Nat.zero_le _) ⟨_,rfl,Nat.zero_le _,Ext.refl _,zc0 _ _ _ _⟩ ?_
 rintro k mk u w2 hkm ⟨v,hu,hkl,hx2,hr2⟩
 obtain ⟨hu1,hu2⟩:=zcC hu
 rw [hu1,hu2]
 refine zah ?_
 refine br (fun hlt=>?_) (fun hge=>?_)
 case refine_2=>
   have:k=ms.length:=by omega
   rw [this] at hr2
   exact ⟨hx2,hr2.own.own⟩
 have hk:k<ms.length:=by omega
 have hs2:=hx2.size
 have hg:ms.getD k false=ms[k]:=by rw [List.getD_eq_getElem?_getD,List.getElem?_eq_getElem hk];rfl
 have hil:=zop ms k
 refine zad zcX ty4 h0 hk fun b2 o2 hA2=>?_
 refine zaz ty4 hA2 (e0.trans hx2) ?_
 refine zbw (fun hf=>?_) (fun hf=>?_)
 · refine zbV (lo2:=w2.heap.size) (hi2:=w2.heap.size) (x:=(k:Int)) u25 ty3 z3 zc3 (by decide) hr2 hs2 (zcx _ _ (by unfold I64;omega)) (Nat.le_refl _) hs2 (by rw [zap,zae];omega) (by rw [zae];omega) fun v54 w9 hc9 hr9=>?_
   refine zaf (by omega) ?_
   refine ⟨mk-1,by omega,k+1,by omega,v54,rfl,by omega,hx2.chgI hc9 (Nat.le_refl _),?_⟩
   rw [zg0,hg,hf,if_pos rfl,zb3]
   exact hr9
 refine zaf (by omega) ?_
 refine ⟨mk-1,by omega,k+1,by omega,v,rfl,by omega,hx2,?_⟩
 rw [zg0,hg,hf]
 simpa using hr2
end Go.Proofs.YtbnjpfjjmhodnaaGreat
namespace Go.Sh
open Rep (rep)
instance:Rep Nat where
 size:=1
 agg:=false
 rep F _ cs x:=F=[]∧cs=[.int .u64 (x:Int)]∧x<18446744073709551616
 pos:=by decide
 sz _:=rfl
 len:=by rintro _ _ _ _ ⟨_,rfl,_⟩;rfl
 one:=by rintro _ _ _ _ ⟨_,rfl,_⟩ v hv;simp at hv;subst hv;rfl
 keep:=by rintro _ _ _ _ _ h _;exact h
 lt:=by rintro _ _ _ _ ⟨rfl,_⟩ b hb;cases hb
instance:Flat Nat:=⟨fun h=>h.1⟩
instance:RepZ Nat:=⟨0,[.int .u64 0],fun _=>⟨rfl,rfl,by decide⟩⟩
section
variable {P:Program} {w w0:World} {K:Value→Prop} {t:TypeId} {x y:Operand}
end
end Go.Sh
namespace Go.Proofs.YtbnjpfjjmhodnaaGreat
open Go Go.Sh Go.Proofs
open Rep (rep)
def F9 (a0:Value) (w:World) (R:VW):Prop:=
 rN 22 3 a0 w fun x4=>
 rB .gtr 3 T0 U0 x4 (iV 1048576) w fun x5=>
 R x5 w
def cfg9:Cfg:=⟨extL,[],[],[],[],[],[]⟩
theorem F9_call {a0:Value} {w:World} {R:VW} (h:F9 a0 w R):cL 9 [a0] w R:=co (g:=cfg9) Tryz.func9 (by kernel_rfl) (by kernel_rfl) (by kernel_rfl) h
theorem zuY {w:World} {v0:Value} {W0:World} {bs:(List UInt8)}  (h0:Is W0 v0 bs) (e0:Ext W0 w)  :
   CALL Tryz.prog 9 [v0] w fun r w'=>Ext w w'∧(r=.bool (decide ((1048576:Int)<bs.length))):=by
 refine F9_call ?_
 unfold F9
 have hln4:=zan h0
 refine zag u22 h0 ?_
 refine zc8 ?_
 refine ⟨Ext.refl w,?_⟩
 rfl
def F46 (a0 a1:Value) (w:World) (R:VW):Prop:=
 rN 57 3 a0 w fun x7=>
 rN 57 3 a1 w fun x9=>
 rB .neq 3 T0 T0 x7 x9 w fun x10=>
 BR x10
 (R (Value.bool false) w)
 (LOOPI [5] [(iV 0)] w fun u4 w next4=>
 rN 57 3 a0 w fun x13=>
 rC (u4 5) x13 w fun x14=>
 BR x14
 ((fun w=>rX 57 a0 (u4 5) w fun x19=>
 rL 60 x19 w fun x20=>
 rX 57 a1 (u4 5) w fun x23=>
 rL 60 x23 w fun x24=>
 rB .neq 60 T0 T0 x20 x24 w fun x25=>
 BR x25
 (R (Value.bool false) w)
 (rA (u4 5) (iV 1) w fun x16=>
 next4 [x16] w)) (World.drew1 w))
 (R (Value.bool true) w))
def cfg46:Cfg:=⟨extL,[],[(4,67106864,[5])],[(6,[0,1,2,3,4,5,6,7,8],0)],[],[],[]⟩
theorem F46_call {a0 a1:Value} {w:World} {R:VW} (h:F46 a0 a1 w R):cL 46 [a0,a1] w R:=co (g:=cfg46) Tryz.func46 (by kernel_rfl) (by kernel_rfl) (by kernel_rfl) h
theorem zmA {w:World} {v0:Value} {W0:World} {l1:(List DRace)} {v1:Value} {W1:World} {l2:(List DRace)}  (h0:Is W0 v0 l1) (e0:Ext W0 w) (h1:Is W1 v1 l2) (e1:Ext W1 w)  :
   CALL Tryz.prog 46 [v0,v1] w fun r w'=>Ext w w'∧(r=.bool (decide (l1=l2))):=by
 refine F46_call ?_
 unfold F46
 have hl1:=zan h0
 have hln7:=zan h0
 refine zag u57 h0 ?_
 have hln9:=zan h1
 refine zag u57 h1 ?_
 refine zaN ?_
 refine br (fun c1=>?_) (fun c1=>?_)
 · refine ⟨Ext.refl w,?_⟩
   have:l1≠l2:=fun e=>c1 (by rw [e])
   simp [this]
 refine zas (l1.length) (fun k us w'=>us=[.int .i64 (k:Int)]∧Ext w w'∧(l1.take k=l2.take k)) (0) (by omega) ⟨by simp,Ext.refl w,by simp⟩ ?_
 rintro k m4 uu4 w1_ hk4 ⟨hu,hx1_,hinv⟩
 simp only [List.map_cons,List.map_nil,List.cons.injEq,and_true] at hu
 try rw [hu]
 try clear hu
 have hln13:=zan h0
 refine zag u57 h0 ?_
 refine zah ?_
 refine br (fun c2=>?_) (fun c2=>?_)
 · have hx2_:=zaj w1_
   refine zad u57 zcG h0 (by omega) fun b19 o19 h19=>?_
   refine zab zcG h19 (e0.trans (hx1_.trans hx2_)) fun v20 h20=>?_
   refine zad u57 zcG h1 (by omega) fun b23 o23 h23=>?_
   refine zab zcG h23 (e1.trans (hx1_.trans hx2_)) fun v24 h24=>?_
   refine zjd h20 h24 ?_
   refine br (fun c3=>?_) (fun c3=>?_)
   · refine ⟨(hx1_.trans hx2_),?_⟩
     have:l1≠l2:=fun e=>c3 (by subst e;rfl)
     simp [this]
   refine zaf (by omega) ?_
   refine ⟨m4-1,by omega,k+1,by omega,by simp,(hx1_.trans hx2_),?_⟩
   rw [List.take_succ_eq_append_getElem (by omega),List.take_succ_eq_append_getElem (by omega),hinv,Decidable.not_not.1 c3]
 refine ⟨hx1_,?_⟩
 rw [List.take_of_length_le (by omega),List.take_of_length_le (by omega)] at hinv
 simp [hinv]
def F41 (a0 a1:Value) (w:World) (R:VW):Prop:=
 LOOPI [5] [(iV 0)] w fun u2 w next2=>
 rN 25 3 a0 w fun x8=>
 rC (u2 5) x8 w fun x9=>
 BR x9
 (rX 25 a0 (u2 5) w fun x14=>
 rL 3 x14 w fun x15=>
 rB .eql 3 T0 T0 x15 a1 w fun x17=>
 BR x17
 (R (Value.bool true) w)
 (rA (u2 5) (iV 1) w fun x11=>
 next2 [x11] w))
 (R (Value.bool false) w)
def cfg41:Cfg:=⟨extL,[],[(2,262128,[5])],[],[],[],[]⟩
theorem F41_call {a0 a1:Value} {w:World} {R:VW} (h:F41 a0 a1 w R):cL 41 [a0,a1] w R:=co (g:=cfg41) Tryz.func41 (by kernel_rfl) (by kernel_rfl) (by kernel_rfl) h
theorem zrv {w:World} {v0:Value} {W0:World} {l:(List Int)} {y:Int}  (h0:Is W0 v0 l) (e0:Ext W0 w)  :
   CALL Tryz.prog 41 [v0,.int .i64 y] w fun r w'=>Ext w w'∧(r=.bool (decide (y∈l))):=by
 refine F41_call ?_
 unfold F41
 refine zas (l.length) (fun k us w'=>us=[.int .i64 (k:Int)]∧Ext w w'∧(y∉l.take k)) (0) (by omega) ⟨by simp,Ext.refl w,by simp⟩ ?_
 rintro k m2 uu2 w1_ hk2 ⟨hu,hx1_,hinv⟩
 simp only [List.map_cons,List.map_nil,List.cons.injEq,and_true] at hu
 try rw [hu]
 try clear hu
 have hln8:=zan h0
 refine zag u25 h0 ?_
 refine zah ?_
 refine br (fun c1=>?_) (fun c1=>?_)
 · refine zad u25 ty3 h0 (by omega) fun b14 o14 h14=>?_
   refine zac ty3 h14 (e0.trans hx1_) fun hI15=>?_
   refine zai ?_
   refine br (fun c2=>?_) (fun c2=>?_)
   · refine ⟨hx1_,?_⟩
     have:y∈l:=c2▸List.getElem_mem _
     simp [this]
   refine zaf (by omega) ?_
   refine ⟨m2-1,by omega,k+1,by omega,by simp,hx1_,?_⟩
   exact zg9 (by omega) hinv c2
 refine ⟨hx1_,?_⟩
 rw [List.take_of_length_le (by omega)] at hinv
 simp [hinv]
def F309 (a0 a1 a2 a3:Value) (w:World) (R:VW):Prop:=
 cL 97 [a1] w fun x15 w=>
 rN 25 3 x15 w fun x16=>
 LOOPI [9,17] [(Value.slice none 0 0),(iV 0)] w fun u3 w next3=>
 rC (u3 17) x16 w fun x18=>
 BR x18
 (rX 25 x15 (u3 17) w fun x19=>
 rL 3 x19 w fun x20=>
 cL 234 [a0,x20] w fun x23 w=>
 rN 25 3 x23 w fun x24=>
 LOOPI [9,25] [(u3 9),(iV 0)] w fun u6 w next6=>
 rC (u6 25) x24 w fun x26=>
 BR x26
 (rX 25 x23 (u6 25) w fun x27=>
 rL 3 x27 w fun x28=>
 NIL a0 <|
 rF 180 a0 0 w fun x31=>
 rF 28 x31 4 w fun x32=>
 rL 26 x32 w fun x33=>
 rX 26 x33 x28 w fun x35=>
 rF 77 x35 0 w fun x36=>
 rL 3 x36 w fun x37=>
 rB .eql 3 T0 T0 x37 a2 w fun x39=>
 BR x39
 (NIL a0 <|
 rF 180 a0 0 w fun x43=>
 rF 28 x43 4 w fun x44=>
 rL 26 x44 w fun x45=>
 rX 26 x45 x28 w fun x47=>
 rF 77 x47 1 w fun x48=>
 rL 3 x48 w fun x49=>
 rB .eql 3 T0 T0 x49 a3 w fun x51=>
 BR x51
 (oP (Instr.buildSlice 25 1 #[(0,x28)]) w fun x55 w=>
 oP (Builtin.append_ #[25,25] 25 [(u6 9),x55].toArray) w fun x56 w=>
 rA (u6 25) (iV 1) w fun x57=>
 next6 [x56,x57] w)
 (rA (u6 25) (iV 1) w fun x57=>
 next6 [(u6 9),x57] w))
 (rA (u6 25) (iV 1) w fun x57=>
 next6 [(u6 9),x57] w))
 (rA (u3 17) (iV 1) w fun x58=>
 next3 [(u6 9),x58] w))
 (R (u3 9) w)
def cfg309:Cfg:=⟨extL,[],[(3,576460752303303168,[9,17]),(6,288230376118166016,[9,25])],[],[],[],[]⟩
theorem F309_call {a0 a1 a2 a3:Value} {w:World} {R:VW} (h:F309 a0 a1 a2 a3 w R):cL 309 [a0,a1,a2,a3] w R:=co (g:=cfg309) Tryz.func309 (by kernel_rfl) (by kernel_rfl) (by kernel_rfl) h
def F301 (a0 a1:Value) (w:World) (R:VW):Prop:=
 oP (Instr.box 28 a0) w fun x2 w=>
 oP (Instr.buildSlice 25 0 #[]) w fun x10 w=>
 rL 28 x2 w fun x11=>
 cL 255 [x11] w fun x12 w=>
 LOOPI [5,7] [x10,(iV 0)] w fun u4 w next4=>
 rF 28 x2 2 w fun x14=>
 rL 24 x14 w fun x15=>
 rN 24 3 x15 w fun x16=>
 rC (u4 7) x16 w fun x17=>
 BR x17
 (rX 135 x12 (u4 7) w fun x22=>
 rL 4 x22 w fun x23=>
 rD (Op.unary .not x23) w fun x24=>
 BR x24
 (rA (u4 7) (iV 1) w fun x19=>
 next4 [(u4 5),x19] w)
 (rL 28 x2 w fun x25=>
 cL 306 [x25,(u4 7)] w fun x27 w=>
 rF 28 x2 3 w fun x28=>
 rL 25 x28 w fun x29=>
 rX 25 x29 (u4 7) w fun x31=>
 rL 3 x31 w fun x32=>
 LOOPI [5,9] [(u4 5),x32] w fun u9 w next9=>
 rL 28 x2 w fun x34=>
 cL 213 [x34,(u4 7)] w fun x36 w=>
 rB .leq 3 T0 T0 (u9 9) x36 w fun x37=>
 BR x37
 (rX 135 x27 (u9 9) w fun x42=>
 rL 4 x42 w fun x43=>
 BR x43
 (rF 28 x2 4 w fun x45=>
 rL 26 x45 w fun x46=>
 rX 26 x46 (u9 9) w fun x48=>
 rF 77 x48 0 w fun x49=>
 rL 3 x49 w fun x50=>
 rB .eql 3 T0 U0 x50 (iV 5) w fun x51=>
 BR x51
 (rF 28 x2 4 w fun x54=>
 rL 26 x54 w fun x55=>
 rX 26 x55 (u9 9) w fun x57=>
 rF 77 x57 1 w fun x58=>
 rL 3 x58 w fun x59=>
 rB .eql 3 T0 T0 x59 a1 w fun x61=>
 BR x61
 (oP (Instr.buildSlice 25 1 #[(0,(u9 9))]) w fun x65 w=>
 oP (Builtin.append_ #[25,25] 25 [(u9 5),x65].toArray) w fun x66 w=>
 rA (u9 9) (iV 1) w fun x39=>
 next9 [x66,x39] w)
 (rA (u9 9) (iV 1) w fun x39=>
 next9 [(u9 5),x39] w))
 (rA (u9 9) (iV 1) w fun x39=>
 next9 [(u9 5),x39] w))
 (rA (u9 9) (iV 1) w fun x39=>
 next9 [(u9 5),x39] w))
 (rA (u4 7) (iV 1) w fun x19=>
 next4 [(u9 5),x19] w)))
 (R (u4 5) w)
def cfg301:Cfg:=⟨extL,[],[(4,147573952589676405664,[5,7]),(9,147573952581086478880,[5,9])],[],[],[],[]⟩
theorem F301_call {a0 a1:Value} {w:World} {R:VW} (h:F301 a0 a1 w R):cL 301 [a0,a1] w R:=co (g:=cfg301) Tryz.func301 (by kernel_rfl) (by kernel_rfl) (by kernel_rfl) h
open Rep (rep)
def StP (c:DCode) (r p i:Nat):Prop:=zaB c p i∧(zak c i).op=5∧agN c i=r
noncomputable def zeb (c:DCode) (r:Nat):List Nat:=(zbn c.procs.length (UsedP c)).flatMap fun p=>zbn c.ins.length (StP c r p)
theorem znG {n:Nat} {p q:Nat→Prop} {f:Nat→Bool} (h:∀ i,i<n→(f i=true↔q i)):(zbn n p).filter f=zbn n fun i=>p i∧q i:=by
 induction n with
 | zero=>rfl
 | succ n ih=>
   have ih:=ih fun i hi=>h i (by omega)
   by_cases hp:p n
   · rw [zfc hp,List.filter_append,ih]
     by_cases hq:q n
     · rw [zfc ⟨hp,hq⟩];simp [(h n (by omega)).2 hq]
     rw [zfd fun e=>hq e.2]
     have:f n=false:=by
       cases e:f n
       · rfl
       exact absurd ((h n (by omega)).1 e) hq
     simp [this]
   rw [zfd hp,zfd fun e=>hp e.1,ih]
theorem zf3 {α β:Type} {f:α→List β} {B:Nat}:∀ {l:List α},(∀ a∈l,(f a).length≤B)→(l.flatMap f).length≤l.length*B
 | [],_=>by simp
 | a :: l,h=>by
   have h1:=h a (by simp)
   have h2:=zf3 (l:=l) fun b hb=>h b (by simp [hb])
   simp only [List.flatMap_cons,List.length_append,List.length_cons,Nat.add_mul]
   omega
theorem zkf {c:DCode} (hc:CodeR c) {r i:Nat} (h:i∈zeb c r):i<c.ins.length:=by
 unfold zeb at h
 obtain ⟨p,_,h⟩:=List.mem_flatMap.1 h
 exact (zaT.1 h).1
theorem zkg {w W0:World} {b r:Nat} {c:DCode} (hW:WAt W0 b c) (e0:Ext W0 w) (hc:CodeR c) :
   CALL Tryz.prog 309 [.pointer (some ⟨b,0,none⟩),.int .i64 (zdD c:Nat),.int .i64 5,.int .i64 (r:Int)] w fun v w'=>Ext w w'∧Own w.heap.size w' v (zaI (zeb c r)):=by
 refine F309_call ?_
 unfold F309
 have h8:=hc.1.procs8
 have hil:=hc.f.ins
 have hu256:zdD c<256:=zaY h8.1
 refine (zdt (m:=zdD c) (by omega)).mono ?_
 rintro v15 w1 ⟨hx1,ho1⟩
 unfold zdD at ho1
 rw [zdi (by omega)] at ho1
 have hup:∀ p∈zbn c.procs.length (UsedP c),p<c.procs.length:=fun p hp=>(zaT.1 hp).1
 have hul:=za6 (n:=c.procs.length) (p:=UsedP c)
 unfold zeb
 generalize zbn c.procs.length (UsedP c)=U at *
 refine zag u25 ho1.is ?_
 rw [zae]
 have hfl:∀ k,((U.take k).flatMap fun p=>zbn c.ins.length (StP c r p)).length≤20000:=fun k=>by
   have:=zf3 (l:=U.take k) (f:=fun p=>zbn c.ins.length (StP c r p)) (B:=1500) fun a _=>Nat.le_trans za6 hil
   have h2:=List.length_take_le' k U
   have:(U.take k).length*1500≤8*1500:=Nat.mul_le_mul_right _ (by omega)
   omega
 refine zas U.length (fun k us w'=>∃ out,us=[out,.int .i64 (k:Int)]∧k≤U.length∧Ext w1 w'∧RowI w1.heap.size w'.heap.size 3 w' out (zaI ((U.take k).flatMap fun p=>zbn c.ins.length (StP c r p)))) 0 (Nat.zero_le _) ⟨_,rfl,Nat.zero_le _,Ext.refl _,zc0 _ _ _ _⟩ ?_
 rintro k mk u w2 hkm ⟨out,hu,hkl,hx2,hr2⟩
 obtain ⟨hu1,hu2⟩:=zcC hu
 rw [hu1,hu2]
 refine zah ?_
 refine br (fun hlt=>?_) (fun hge=>?_)
 case refine_2=>
   have hke:k=U.length:=by omega
   rw [hke,List.take_length] at hr2
   exact ⟨hx1.trans hx2,hr2.own.own.mono (by have:=hx1.size;omega)⟩
 have hk:k<U.length:=by omega
 have hp:=hup U[k] (List.getElem_mem _)
 have hfs:=zep (f:=fun p=>zbn c.ins.length (StP c r p)) hk
 refine zad u25 ty3 (i:=k) ho1.is (by rw [zae];exact hk) fun b3 o3 hA3=>?_
 rw [zaM] at hA3
 generalize U[k]=p at *
 refine zac ty3 hA3 hx2 fun _=>?_
 refine (zfJ hW.wl (e0.trans (hx1.trans hx2)) hc hp).mono ?_
 rintro v23 w3 ⟨hx3,ho3⟩
 have hLin:∀ i∈zbn c.ins.length (zaB c p),i<c.ins.length:=fun i hi=>(zaT.1 hi).1
 have hLf:(zbn c.ins.length (zaB c p)).filter (fun i=>decide ((zak c i).op=5∧agN c i=r))=zbn c.ins.length (StP c r p):=znG fun i hi=>by rw [decide_eq_true_eq]
 have hLl:=za6 (n:=c.ins.length) (p:=zaB c p)
 rw [←hLf] at hfs
 have hfk:=hfl k
 generalize zbn c.ins.length (zaB c p)=L at *
 generalize (U.take k).flatMap (fun p=>zbn c.ins.length (StP c r p))=Op at *
 refine zag u25 ho3.is ?_
 rw [zae]
 have hs3:=hx3.size
 have hs2:=hx2.size
 obtain ⟨F3,hM3,hF3⟩:=ho3
 refine zas L.length (fun j us w'=>∃ out lo hi,us=[out,.int .i64 (j:Int)]∧j≤L.length∧Ext w1 w'∧Mine F3 w' v23 (zaI L)∧w1.heap.size≤lo∧hi≤w'.heap.size∧RowI lo hi 3 w' out (zaI (Op++(L.take j).filter (fun i=>decide ((zak c i).op=5∧agN c i=r))))∧∀ b∈F3,b<lo∨hi≤b) 0 (Nat.zero_le _) ⟨out,w1.heap.size,w2.heap.size,rfl,Nat.zero_le _,hx2.trans hx3,hM3,Nat.le_refl _,hs3,by simpa using hr2.ext hx3,fun b hb=>.inr (hF3 b hb)⟩ ?_
 rintro j mj u6 w6 hjm ⟨out6,lo,hi,hu6,hjl,hx6,hM6,hlo,hhi,hr6,hd⟩
 obtain ⟨hu61,hu62⟩:=zcC hu6
 rw [hu61,hu62]
 refine zah ?_
 refine br (fun hlt6=>?_) (fun hge6=>?_)
 case refine_2=>
   refine zaf (by omega) ?_
   refine ⟨mk-1,by omega,k+1,by omega,out6,rfl,by omega,hx6,?_⟩
   rw [List.take_of_length_le (by omega)] at hr6
   rw [hfs]
   exact hr6.mono hlo hhi
 have hj:j<L.length:=by omega
 have hi':=hLin L[j] (List.getElem_mem _)
 have htk:L.take (j+1)=L.take j++[L[j]]:=List.take_succ_eq_append_getElem hj
 refine zad u25 ty3 (i:=j) hM6.is (by rw [zae];exact hj) fun b4 o4 hA4=>?_
 rw [zaM] at hA4
 have hlen:(Op++(L.take j).filter (fun i=>decide ((zak c i).op=5∧agN c i=r))).length≤100000:=by
   have:=List.length_filter_le (fun i=>decide ((zak c i).op=5∧agN c i=r)) (L.take j)
   have h2:=List.length_take_le' j L
   rw [List.length_append];omega
 generalize L[j]=i at *
 refine zac ty3 hA4 (Ext.refl _) fun _=>?_
 have ex6:=e0.trans (hx1.trans hx6)
 have hno:¬((zak c i).op=5∧agN c i=r)→(L.take (j+1)).filter (fun i=>decide ((zak c i).op=5∧agN c i=r))=(L.take j).filter (fun i=>decide ((zak c i).op=5∧agN c i=r)):=fun h=>by
   rw [htk,List.filter_append];simp [h]
 have hyes:((zak c i).op=5∧agN c i=r)→(L.take (j+1)).filter (fun i=>decide ((zak c i).op=5∧agN c i=r))=(L.take j).filter (fun i=>decide ((zak c i).op=5∧agN c i=r))++[i]:=fun h=>by
   rw [htk,List.filter_append];simp [h]
 refine NIL.mk rfl ?_
 refine zaa za5 ?_
 refine zaa zaG ?_
 refine zab zcO (zal hW.wl.code) ex6 fun v33 h33=>?_
 refine zad u26 zc6 (i:=i) h33 hi' fun b5 o5 hA5=>?_
 rw [zaF] at hA5
 refine zaa zbf ?_
 refine zac ty3 (zay hA5) ex6 fun _=>?_
 refine zai ?_
 refine br (fun h5=>?_) (fun h5=>?_)
 case refine_2=>
   refine zaf (by omega) ?_
   exact ⟨mj-1,by omega,j+1,by omega,out6,lo,hi,rfl,by omega,hx6,hM6,hlo,hhi,by rw [hno fun h=>h5 h.1];exact hr6,hd⟩
 obtain ⟨hag,_⟩:=zbN hc hi' (.inr h5)
 refine NIL.mk rfl ?_
 refine zaa za5 ?_
 refine zaa zaG ?_
 refine zab zcO (zal hW.wl.code) ex6 fun v45 h45=>?_
 refine zad u26 zc6 (i:=i) h45 hi' fun b7 o7 hA7=>?_
 rw [zaF] at hA7
 refine zaa zbu ?_
 refine zac ty3 (zaC hA7) ex6 fun _=>?_
 refine zai ?_
 refine br (fun ha=>?_) (fun ha=>?_)
 case refine_2=>
   refine zaf (by omega) ?_
   exact ⟨mj-1,by omega,j+1,by omega,out6,lo,hi,rfl,by omega,hx6,hM6,hlo,hhi,by rw [hno fun h=>ha (by rw [hag,h.2])];exact hr6,hd⟩
 refine zd6 (x:=(i:Int)) u25 ty3 z3 zc3 (by decide) hr6 (lo2:=0) (hi2:=0) (zcx _ _ (by unfold I64;omega)) (by rw [zap,zae];omega) (by rw [zae];omega) fun v' w' lo' hi2 hc7 hr' hd7=>?_
 have hs7:=hc7.size
 have hs6:=hx6.size
 refine zaf (by omega) ?_
 refine ⟨mj-1,by omega,j+1,by omega,v',lo',hi2,rfl,by omega,hx6.chgI hc7 hlo,hM6.keep fun b hb=>hc7.block b (hM6.lt b hb) (hd b hb),by omega,by omega,?_,fun b hb=>?_⟩
 · rw [hyes ⟨h5,by omega⟩,←List.append_assoc,zb3]
   exact hr'
 have:=hd b hb
 have:=hM6.lt b hb
 omega
theorem zh7 {w W0:World} {v0:Value} {r:Nat} {c:DCode} (h0:Is W0 v0 c) (e0:Ext W0 w) (hc:CodeR c) :
   CALL Tryz.prog 301 [v0,.int .i64 (r:Int)] w fun v w'=>Ext w w'∧Own w.heap.size w' v (zaI (zeb c r)):=by
 refine F301_call ?_
 unfold F301
 have h8:=hc.1.procs8
 have hil:=hc.f.ins
 have he:=hc.2.1.1
 refine zaV h0 e0 fun w1 hx1 hA=>?_
 refine zaP (α:=Int) u25 ty3 fun a10 w2 hx2 hr2=>?_
 refine zab zbm hA hx2 fun v11 h11=>?_
 refine (zf2 h11 hx2 hc).mono ?_
 rintro v12 w3 ⟨hx3,ho3⟩
 have hx13:=hx2.trans hx3
 have hs1:=hx1.size
 have hs13:=hx13.size
 have hfl:∀ k,k≤8→((zbn k (UsedP c)).flatMap fun p=>zbn c.ins.length (StP c r p)).length≤20000:=fun k hk=>by
   have h1:=zf3 (l:=zbn k (UsedP c)) (f:=fun p=>zbn c.ins.length (StP c r p)) (B:=1500) fun a _=>Nat.le_trans za6 hil
   have h2:=za6 (n:=k) (p:=UsedP c)
   have:(zbn k (UsedP c)).length*1500≤8*1500:=Nat.mul_le_mul_right _ (by omega)
   omega
 refine zas c.procs.length (fun k us w'=>∃ out,us=[out,.int .i64 (k:Int)]∧k≤c.procs.length∧Ext w3 w'∧RowI w3.heap.size w'.heap.size 3 w' out (zaI ((zbn k (UsedP c)).flatMap fun p=>zbn c.ins.length (StP c r p)))) 0 (Nat.zero_le _) ⟨_,rfl,Nat.zero_le _,Ext.refl _,zcD _ _ _ _ _⟩ ?_
 rintro p mk u w4 hkm ⟨out,hu,hkl,hx4,hr4⟩
 obtain ⟨hu1,hu2⟩:=zcC hu
 rw [hu1,hu2]
 have hx14:=hx13.trans hx4
 refine zaa zbb ?_
 refine zab zcj (zat hA) hx14 fun v15 h15=>?_
 refine zag u24 h15 ?_
 refine zah ?_
 refine br (fun hlt=>?_) (fun hge=>?_)
 case refine_2=>
   have hke:p=c.procs.length:=by omega
   rw [hke] at hr4
   exact ⟨hx1.trans hx14,hr4.own.own.mono (by omega)⟩
 have hp:p<c.procs.length:=by omega
 have hmk:=zaH (n:=c.procs.length) (p:=UsedP c) (i:=p)
 rw [zaO (by rw [zam];exact hp)] at hmk
 refine zad zcX ty4 (i:=p) ho3.is (by rw [zam];exact hp) fun b3 o3 hA3=>?_
 refine zaz ty4 hA3 hx4 ?_
 refine zaJ ?_
 refine zbw (fun hf=>?_) (fun hf=>?_)
 · have hnu:¬UsedP c p:=fun h=>by rw [hmk.2 ⟨hp,h⟩] at hf;cases hf
   refine zaf (by omega) ?_
   exact ⟨mk-1,by omega,p+1,by omega,out,rfl,by omega,hx4,by rw [zfd hnu];exact hr4⟩
 have hU:UsedP c p:=(hmk.1 (by simpa using hf)).2
 have hfs:(zbn (p+1) (UsedP c)).flatMap (fun p=>zbn c.ins.length (StP c r p))=(zbn p (UsedP c)).flatMap (fun p=>zbn c.ins.length (StP c r p))++zbn c.ins.length (StP c r p):=by
   rw [zfc hU,List.flatMap_append];simp
 have hfk:=hfl p (by omega)
 refine zab zbm hA hx14 fun v25 h25=>?_
 refine (zeP h25 hx14 hc (by rw [he];exact hp)).mono ?_
 rintro v27 w5 ⟨hx5,ho5⟩
 have hx15:=hx14.trans hx5
 obtain ⟨hen,heN,_⟩:=zfp hc (p:=p) (by rw [he];exact hp)
 obtain ⟨hzB,hzO,hzN⟩:=zen hc hp
 have hze:=(zjE hc (p:=p) (by rw [he];exact hp)).2.1
 have hlv:∀ i,zaB c p i→eN c p≤i∧i≤zN c p:=fun i hi=>by
   have h1:=zbq hc (by rw [he];exact hp) hi
   obtain ⟨q,hq,h3,h4⟩:=zdw hc h1.1
   have:q=p:=by have:=h1.2;omega
   subst this;exact h4
 have hz0:zbn (eN c p) (StP c r p)=[]:=by
   rw [zg5 (n:=0) (Nat.zero_le _) fun i _ h2 hs=>by have:=hlv i hs.1;omega];rfl
 have hzz:zbn c.ins.length (StP c r p)=zbn (zN c p+1) (StP c r p):=zg5 (by omega) fun i h1 _ hs=>by have:=hlv i hs.1;omega
 rw [hzz] at hfs
 refine zaa za1 ?_
 refine zab zcN (zaq hA) hx15 fun v29 h29=>?_
 refine zad u25 ty3 (i:=p) h29 (by rw [he];exact hp) fun b6 o6 hA6=>?_
 refine zac ty3 hA6 hx15 fun _=>?_
 rw [zbh,hen]
 generalize hOp:(zbn p (UsedP c)).flatMap (fun p=>zbn c.ins.length (StP c r p))=Op at *
 obtain ⟨F5,hM5,hF5⟩:=ho5
 have hs45:=hx5.size
 have hs34:=hx4.size
 have hr5:RowI w3.heap.size w4.heap.size 3 w5 out (zaI (Op++zbn (eN c p) (StP c r p))):=by rw [hz0];simpa using hr4.ext hx5
 refine zas (zN c p+1) (fun j us w'=>∃ out lo hi,us=[out,.int .i64 (j:Int)]∧eN c p≤j∧j≤zN c p+1∧Ext w3 w'∧Mine F5 w' v27 (zbP c.ins.length (zaB c p))∧w3.heap.size≤lo∧hi≤w'.heap.size∧RowI lo hi 3 w' out (zaI (Op++zbn j (StP c r p)))∧∀ b∈F5,b<lo∨hi≤b) (eN c p) (by omega) ⟨out,w3.heap.size,w4.heap.size,rfl,Nat.le_refl _,by omega,hx4.trans hx5,hM5,Nat.le_refl _,hs45,hr5,fun b hb=>.inr (hF5 b hb)⟩ ?_
 rintro i mj u6 w6 hjm ⟨out6,lo,hi,hu6,hie,hjl,hx6,hM6,hlo,hhi,hr6,hd⟩
 obtain ⟨hu61,hu62⟩:=zcC hu6
 rw [hu61,hu62]
 have hx16:=hx13.trans hx6
 refine zab zbm hA hx16 fun v34 h34=>?_
 refine (zd2 h34 hx16 (p:=(p:Int)) (by omega) (by omega) hc.2.1.nonneg).mono ?_
 rintro _ w7 ⟨hx7,rfl⟩
 rw [hzO]
 have hx17:=hx16.trans hx7
 have hx37:=hx6.trans hx7
 have hM7:=hM6.ext hx7
 have hr7:=hr6.ext hx7
 have hs67:=hx7.size
 refine zcT ?_
 refine br (fun hlt6=>?_) (fun hge6=>?_)
 case refine_2=>
   have hie:i=zN c p+1:=by omega
   refine zaf (by omega) ?_
   refine ⟨mk-1,by omega,p+1,by omega,out6,rfl,by omega,hx37,?_⟩
   rw [hfs,←hie]
   exact hr7.mono hlo (by omega)
 have hi':i<c.ins.length:=by omega
 have hlen:(Op++zbn i (StP c r p)).length≤100000:=by
   have:=za6 (n:=i) (p:=StP c r p)
   rw [List.length_append];omega
 have hml:=zaH (n:=c.ins.length) (p:=zaB c p) (i:=i)
 rw [zaO (by rw [zam];exact hi')] at hml
 have hskip:¬StP c r p i→∃ m',m'<mj∧∃ k',k'+m'=zN c p+1∧∃ out lo hi,[out6,Value.int .i64 ((i+1:Nat):Int)]=[out,.int .i64 (k':Int)]∧eN c p≤k'∧k'≤zN c p+1∧Ext w3 w7∧Mine F5 w7 v27 (zbP c.ins.length (zaB c p))∧w3.heap.size≤lo∧hi≤w7.heap.size∧RowI lo hi 3 w7 out (zaI (Op++zbn k' (StP c r p)))∧∀ b∈F5,b<lo∨hi≤b:=fun hn=>
   ⟨mj-1,by omega,i+1,by omega,out6,lo,hi,rfl,by omega,by omega,hx37,hM7,hlo,by omega,by rw [zfd hn];exact hr7,hd⟩
 refine zad zcX ty4 (i:=i) hM7.is (by rw [zam];exact hi') fun b8 o8 hA8=>?_
 refine zaz ty4 hA8 (Ext.refl _) ?_
 refine zbw (fun hf=>?_) (fun hf=>?_)
 case refine_2=>
   refine zaf (by omega) ?_
   exact hskip fun h=>by rw [hml.2 ⟨hi',h.1⟩] at hf;cases hf
 have hL:=(hml.1 hf).2
 refine zaa zaG ?_
 refine zab zcO (zal hA) hx17 fun v46 h46=>?_
 refine zad u26 zc6 (i:=i) h46 hi' fun b9 o9 hA9=>?_
 rw [zaF] at hA9
 refine zaa zbf ?_
 refine zac ty3 (zay hA9) hx17 fun _=>?_
 refine zai ?_
 refine br (fun h5=>?_) (fun h5=>?_)
 case refine_2=>
   refine zaf (by omega) ?_
   exact hskip fun h=>h5 h.2.1
 obtain ⟨hag,_⟩:=zbN hc hi' (.inr h5)
 refine zaa zaG ?_
 refine zab zcO (zal hA) hx17 fun v55 h55=>?_
 refine zad u26 zc6 (i:=i) h55 hi' fun b10 o10 hA10=>?_
 rw [zaF] at hA10
 refine zaa zbu ?_
 refine zac ty3 (zaC hA10) hx17 fun _=>?_
 refine zai ?_
 refine br (fun ha=>?_) (fun ha=>?_)
 case refine_2=>
   refine zaf (by omega) ?_
   exact hskip fun h=>ha (by rw [hag,h.2.2])
 refine zd6 (x:=(i:Int)) u25 ty3 z3 zc3 (by decide) hr7 (lo2:=0) (hi2:=0) (zcx _ _ (by unfold I64;omega)) (by rw [zap,zae];omega) (by rw [zae];omega) fun v' w' lo' hi2 hc8 hr' hd8=>?_
 have hs8:=hc8.size
 have hs37:=hx37.size
 refine zaf (by omega) ?_
 refine ⟨mj-1,by omega,i+1,by omega,v',lo',hi2,rfl,by omega,by omega,hx37.chgI hc8 hlo,hM7.keep fun b hb=>hc8.block b (hM7.lt b hb) (hd b hb),by omega,by omega,?_,fun b hb=>?_⟩
 · rw [zfc (⟨hL,h5,by omega⟩:StP c r p i),←List.append_assoc,zb3]
   exact hr'
 have:=hd b hb
 have:=hM7.lt b hb
 omega
def F310 (a0 a1:Value) (w:World) (R:VW):Prop:=
 NIL a0 <|
 rF 180 a0 0 w fun x8=>
 rF 28 x8 4 w fun x9=>
 rL 26 x9 w fun x10=>
 rN 26 3 x10 w fun x11=>
 oP (Instr.makeSlice 135 x11 x11) w fun x12 w=>
 cL 170 [a0,x12,a1] w fun x16 w=>
 R x12 w
def cfg310:Cfg:=⟨extL,[],[],[],[],[],[]⟩
theorem F310_call {a0 a1:Value} {w:World} {R:VW} (h:F310 a0 a1 w R):cL 310 [a0,a1] w R:=co (g:=cfg310) Tryz.func310 (by kernel_rfl) (by kernel_rfl) (by kernel_rfl) h
def F308 (a0 a1:Value) (w:World) (R:VW):Prop:=
 rB .geq 3 T0 U0 a1 (iV 0) w fun x6=>
 BR x6
 (NIL a0 <|
 rF 180 a0 0 w fun x11=>
 rF 28 x11 2 w fun x12=>
 rL 24 x12 w fun x13=>
 rN 24 3 x13 w fun x14=>
 rC a1 x14 w fun x15=>
 R x15 w)
 (R (Value.bool false) w)
def cfg308:Cfg:=⟨extL,[],[],[],[],[],[]⟩
theorem F308_call {a0 a1:Value} {w:World} {R:VW} (h:F308 a0 a1 w R):cL 308 [a0,a1] w R:=co (g:=cfg308) Tryz.func308 (by kernel_rfl) (by kernel_rfl) (by kernel_rfl) h
def F257 (a0 a1:Value) (w:World) (R:VW):Prop:=
 cL 308 [a0,a1] w fun x9 w=>
 rD (Op.unary .not x9) w fun x10=>
 BR x10
 (R (Value.bool false) w)
 (NIL a0 <|
 rF 180 a0 5 w fun x14=>
 rL 3 x14 w fun x15=>
 cL 117 [x15,a1] w fun x17 w=>
 rD (Op.unary .not x17) w fun x18=>
 BR x18
 (R (Value.bool false) w)
 (cL 236 [a0] w fun x21 w=>
 NIL a0 <|
 rF 180 a0 6 w fun x25=>
 rL 3 x25 w fun x26=>
 cL 309 [a0,x26,(iV 5),a1] w fun x28 w=>
 rB .eql 3 T0 T0 a1 x21 w fun x31=>
 BR x31
 (rN 25 3 x28 w fun x33=>
 rB .eql 3 T0 U0 x33 (iV 0) w fun x34=>
 R x34 w)
 ((fun w=>rN 25 3 x28 w fun x36=>
 rB .neq 3 T0 U0 x36 (iV 1) w fun x37=>
 BR x37
 (R (Value.bool false) w)
 (NIL a0 <|
 rF 180 a0 0 w fun x41=>
 rL 28 x41 w fun x42=>
 rX 25 x28 (iV 0) w fun x44=>
 rL 3 x44 w fun x45=>
 (fun w_=>cL 208 [x42,x45] w_ fun x46 w=>
 Ext w_ w ∧
 rB .neq 3 T0 T0 x46 x21 w fun x48=>
 BR x48
 (R (Value.bool false) w)
 (rX 25 x28 (iV 0) w fun x53=>
 rL 3 x53 w fun x54=>
 rX 25 x28 (iV 0) w fun x57=>
 rL 3 x57 w fun x58=>
 (fun w_=>cL 310 [a0,x54] w_ fun x55 w=>
 Ext w_ w ∧
 rX 135 x55 x58 w fun x59=>
 rL 4 x59 w fun x60=>
 BR x60
 (R (Value.bool false) w)
 ((fun w=>cL 257 [a0,x21] w fun x64 w=>
 BR x64
 (NIL a0 <|
 rF 180 a0 2 w fun x68=>
 rL 25 x68 w fun x69=>
 NIL a0 <|
 rF 180 a0 6 w fun x72=>
 rL 3 x72 w fun x73=>
 (fun w_=>cL 235 [x69,x73] w_ fun x74 w=>
 Ext w_ w ∧
 cL 117 [x74,x21] w fun x76 w=>
 rD (Op.unary .not x76) w fun x77=>
 R x77 w) w)
 (R (Value.bool false) w)) (World.drew1 w))) w)) w)) (World.drew1 w))))
def cfg257:Cfg:=⟨extL,[],[],[(7,[0,1,2,3,4,5,6,7,8,9,10,12,11,13,14,15,16,17,18,19,21,22,23,20,24,25,26],1050624),(9,[0,1,2,3,4,5,6,7,8,9,10,11,13,12,14,15,16,17],4096)],[],[],[]⟩
theorem F257_call {a0 a1:Value} {w:World} {R:VW} (h:F257 a0 a1 w R):cL 257 [a0,a1] w R:=co (g:=cfg257) Tryz.func257 (by kernel_rfl) (by kernel_rfl) (by kernel_rfl) h
open Rep (rep)
theorem zta {W0 w:World} {b:Nat} {c:DCode} (h:At W0 b 0 c) (hx:Ext W0 w):KAt W0 w b c:=by
 obtain ⟨F,cs,hr,hc⟩:=h
 have hl:=Rep.len hr
 have hp:0<cs.length:=by rw [hl];exact Rep.pos
 have hc':=zbZ hc hx
 refine ⟨F,cs,hr,hc',Decidable.byContradiction fun hn=>?_⟩
 have:=hc' 0 cs[0] (List.getElem?_eq_getElem hp)
 simp only [World.cell?] at this
 rw [Array.getElem?_eq_none (by omega)] at this
 cases this
theorem zsy {w W0:World} {b a:Nat} {c:DCode} (hW:WAt W0 b c) (e0:Ext W0 w) (hc:CodeR c) (ha:a<c.ins.length) :
   CALL Tryz.prog 310 [.pointer (some ⟨b,0,none⟩),.int .i64 (a:Int)] w fun v w'=>Ext w w'∧Own w.heap.size w' v (zbP c.ins.length (RP (zax c) a)):=by
 refine F310_call ?_
 unfold F310
 have hil:=hc.f.ins
 refine NIL.mk rfl ?_
 refine zaa za5 ?_
 refine zaa zaG ?_
 refine zab zcO (zal hW.wl.code) e0 fun v10 h10=>?_
 refine zag u26 h10 ?_
 have hk0:=zta hW.wl.code e0
 have hbl:=hk0.lt
 refine zdL (by omega) (by omega) fun w1 hx1 hM1=>?_
 have hs1:=hx1.size
 have e0s:=e0.size
 refine (zmp (zta hW.wl.code (e0.trans hx1)) (e0.trans hx1) hc rfl ha hM1 (by simp) (by omega) (by omega) fun i hi=>absurd hi zbz).mono ?_
 rintro _ w2 ⟨rfl,hc2,hM2⟩
 refine ⟨hx1.chgI hc2 (Nat.le_refl _),[w.heap.size],?_,fun b hb=>by simp at hb;omega⟩
 have:(zbP c.ins.length fun i=>mkd (List.replicate c.ins.length false) i∨RP (zax c) a i)=zbP c.ins.length (RP (zax c) a):=zbD fun i _=>⟨fun h=>h.resolve_left zbz,.inr⟩
 rw [←this];exact hM2
theorem zmB {w W0:World} {b r:Nat} {c:DCode} (hW:WAt W0 b c) (e0:Ext W0 w) (hr:r<c.procs.length) :
   CALL Tryz.prog 308 [.pointer (some ⟨b,0,none⟩),.int .i64 (r:Int)] w fun v w'=>Ext w w'∧v=.bool true:=by
 refine F308_call ?_
 unfold F308
 refine zck ?_
 refine br (fun _=>?_) (fun h=>by omega)
 refine NIL.mk rfl ?_
 refine zaa za5 ?_
 refine zaa zbb ?_
 refine zab zcj (zat hW.wl.code) e0 fun v10 h10=>?_
 refine zag u24 h10 ?_
 refine zah ?_
 exact ⟨Ext.refl _,by simp;omega⟩
def zpv (c:DCode) (r a:Nat):Prop:=zeb c r=[a]∧zar c a=(zb4 c:Int)∧¬RP (zax c) a a∧zeb c (zb4 c)=[]∧¬ ∃ p,UsedP c p∧zil c p 4 (zb4 c)
def zdO (c:DCode) (r:Nat):Prop:=(r=zb4 c∧zeb c r=[])∨(r≠zb4 c∧∃ a,zpv c r a)
noncomputable instance (c:DCode) (r:Nat):Decidable (zdO c r):=Classical.propDecidable _
theorem zeW {c:DCode}:zdO c (zb4 c)↔zeb c (zb4 c)=[]:=
 ⟨fun h=>h.elim (·.2) fun h=>absurd rfl h.1,fun h=>.inl ⟨rfl,h⟩⟩
theorem zis {c:DCode} {r:Nat} (hr:r≠zb4 c):zdO c r↔∃ a,zpv c r a:=
 ⟨fun h=>h.elim (fun h=>absurd h.1 hr) (·.2),fun h=>.inr ⟨hr,h⟩⟩
theorem zmC {l:List Nat}:((l.length:Int)=0)↔l=[]:=by
 rw [←List.length_eq_zero_iff];omega
theorem zmD {c:DCode} {p:Nat}:(zdD c).testBit p=true↔p<c.procs.length∧UsedP c p:=zch
theorem zkh {c:DCode} {p:Nat}:(zci c).testBit p=true↔p<c.procs.length∧RootP c p:=zch
theorem zrw {c:DCode} (hc:CodeR c) {p:Nat} (h:UsedP c p):p<c.procs.length:=by
 obtain ⟨r,hr,hf⟩:=h
 exact hf.lt (hr.lt hc)
theorem zpw {c:DCode} (hc:CodeR c) {q:Nat} (hq:q<c.procs.length):(orL (cls c 4) (zcd (zdD c))).testBit q=true↔∃ p,UsedP c p∧zil c p 4 q:=by
 have h8:=hc.1.procs8
 rw [zg8 (m:=zdD c) (n:=c.procs.length) zjg (by omega)]
 constructor
 · rintro ⟨i,h1,h2,h3⟩
   exact ⟨i,(zmD.1 h2).2,((zhN h1).1 h3).2⟩
 rintro ⟨i,h1,h2⟩
 have hi:=zrw hc h1
 exact ⟨i,hi,zmD.2 ⟨hi,h1⟩,(zhN hi).2 ⟨hq,h2⟩⟩
theorem zki {w W0:World} {b:Nat} {c:DCode} (hW:WAt W0 b c) (e0:Ext W0 w) (hc:CodeR c) :
   CALL Tryz.prog 257 [.pointer (some ⟨b,0,none⟩),.int .i64 (zb4 c:Nat)] w fun v w'=>Ext w w'∧v=.bool (decide (zdO c (zb4 c))):=by
 refine F257_call ?_
 unfold F257
 have h8:=hc.1.procs8
 have hml:=(zdM hc).2
 have hr256:zci c<256:=zaY h8.1
 refine (zmB hW e0 hml).mono ?_
 rintro _ w1 ⟨hx1,rfl⟩
 refine zaJ ?_
 refine zbw (fun h=>by cases h) (fun _=>?_)
 refine NIL.mk rfl ?_
 refine zaa zgj ?_
 refine zac ty3 hW.roots (e0.trans hx1) fun _=>?_
 refine (zeQ (m:=zci c) (i:=zb4 c) (by omega) (by omega)).mono ?_
 rintro _ w2 ⟨hx2,rfl⟩
 rw [zkh.2 ⟨hml,.main⟩]
 refine zaJ ?_
 refine zbw (fun h=>by cases h) (fun _=>?_)
 have hx12:=hx1.trans hx2
 refine (zgx (hW.wl.code.ext (e0.trans hx12)) hc).mono ?_
 rintro _ w3 ⟨hx3,rfl⟩
 have hx13:=hx12.trans hx3
 refine NIL.mk rfl ?_
 refine zaa zgk ?_
 refine zac ty3 hW.used (e0.trans hx13) fun _=>?_
 refine (zkg (r:=zb4 c) hW (e0.trans hx13) hc).mono ?_
 rintro v28 w4 ⟨hx4,ho4⟩
 refine zai ?_
 refine br (fun _=>?_) (fun h=>absurd rfl h)
 refine zag u25 ho4.is ?_
 refine zai ?_
 rw [zae]
 exact ⟨hx13.trans hx4,by congr 1;rw [decide_eq_decide,zeW,zmC]⟩
theorem zrx {w W0:World} {b r:Nat} {c:DCode} (hW:WAt W0 b c) (e0:Ext W0 w) (hc:CodeR c) (hr:RootP c r) :
   CALL Tryz.prog 257 [.pointer (some ⟨b,0,none⟩),.int .i64 (r:Int)] w fun v w'=>Ext w w'∧v=.bool (decide (zdO c r)):=by
 by_cases hm:r=zb4 c
 · subst hm;exact zki hW e0 hc
 refine F257_call ?_
 unfold F257
 have h8:=hc.1.procs8
 have hml:=(zdM hc).2
 have hrl:=hr.lt hc
 have hr256:zci c<256:=zaY h8.1
 have hu256:zdD c<2^c.procs.length:=zjg
 refine (zmB hW e0 hrl).mono ?_
 rintro _ w1 ⟨hx1,rfl⟩
 refine zaJ ?_
 refine zbw (fun h=>by cases h) (fun _=>?_)
 refine NIL.mk rfl ?_
 refine zaa zgj ?_
 refine zac ty3 hW.roots (e0.trans hx1) fun _=>?_
 refine (zeQ (m:=zci c) (i:=r) (by omega) (by omega)).mono ?_
 rintro _ w2 ⟨hx2,rfl⟩
 rw [zkh.2 ⟨hrl,hr⟩]
 refine zaJ ?_
 refine zbw (fun h=>by cases h) (fun _=>?_)
 have hx12:=hx1.trans hx2
 refine (zgx (hW.wl.code.ext (e0.trans hx12)) hc).mono ?_
 rintro _ w3 ⟨hx3,rfl⟩
 have hx13:=hx12.trans hx3
 refine NIL.mk rfl ?_
 refine zaa zgk ?_
 refine zac ty3 hW.used (e0.trans hx13) fun _=>?_
 refine (zkg (r:=r) hW (e0.trans hx13) hc).mono ?_
 rintro v28 w4' ⟨hx4,ho4⟩
 refine zai ?_
 refine br (fun h=>absurd (by omega) hm) (fun _=>?_)
 have hxd:=zaj w4'
 have hx14:=hx13.trans (hx4.trans hxd)
 have hS4:=ho4.is.ext hxd
 generalize World.drew1 w4'=w4 at *
 have hsm:=fun a (ha:a∈zeb c r)=>zkf hc ha
 have hnot:(¬ ∃ a,zpv c r a)→Value.bool false=.bool (decide (zdO c r)):=fun h=>by rw [decide_eq_false fun h2=>h ((zis hm).1 h2)]
 refine zag u25 hS4 ?_
 refine zaN ?_
 rw [zae]
 refine br (fun hne=>?_) (fun heq=>?_)
 · exact ⟨hx14,hnot fun ⟨a,h⟩=>hne (by rw [h.1];rfl)⟩
 have hl1:(zeb c r).length=1:=by have:=Decidable.not_not.1 heq;omega
 obtain ⟨a,ha⟩:∃ a,zeb c r=[a]:=List.length_eq_one_iff.1 hl1
 have hal:a<c.ins.length:=hsm a (by rw [ha];simp)
 rw [ha] at hS4
 have hget:∀ {w:World} {K:Value→Prop},Ext w4 w→(K (.int .i64 (a:Int)))→RD Tryz.prog (Instr.indexAt 25 v28 (.int .i64 0)) w fun x=>RD Tryz.prog (Instr.loadAt 3 x) w K:=fun hx kk=>by
   refine zad u25 ty3 (i:=0) hS4 (by simp [zaI]) fun b3 o3 hA3=>?_
   rw [show (zaI [a])[0]'(by simp [zaI])=(a:Int) from rfl] at hA3
   exact zac ty3 hA3 hx fun _=>kk
 have hone:∀ a',zpv c r a'→a'=a:=fun a' h=>by have:=h.1;rw [ha] at this;simpa using this.symm
 refine NIL.mk rfl ?_
 refine zaa za5 ?_
 refine zab zbm hW.wl.code (e0.trans hx14) fun v42 h42=>?_
 refine hget (Ext.refl _) ?_
 refine (zml (a:=(a:Int)) h42 (e0.trans hx14) hc (by omega) (by omega)).mono ?_
 rintro _ w5 ⟨hx5,rfl⟩
 refine ⟨hx5,?_⟩
 have hx15:=hx14.trans hx5
 refine zaN ?_
 refine br (fun hne=>?_) (fun heq2=>?_)
 · exact ⟨hx15,hnot fun ⟨a',h⟩=>hne (by have:=hone a' h;subst this;exact h.2.1)⟩
 refine hget hx5 ?_
 refine hget hx5 ?_
 refine (zsy (a:=a) hW (e0.trans hx15) hc hal).mono ?_
 rintro v55 w6 ⟨hx6,ho6⟩
 refine ⟨hx6,?_⟩
 have hx16:=hx15.trans hx6
 have hmk:=zaH (n:=c.ins.length) (p:=RP (zax c) a) (i:=a)
 rw [zaO (by rw [zam];exact hal)] at hmk
 refine zad zcX ty4 (i:=a) ho6.is (by rw [zam];exact hal) fun b8 o8 hA8=>?_
 refine zaz ty4 hA8 (Ext.refl _) ?_
 refine zbw (fun hrp=>?_) (fun hrp=>?_)
 · exact ⟨hx16,hnot fun ⟨a',h⟩=>by have:=hone a' h;subst this;exact h.2.2.1 (hmk.1 hrp).2⟩
 have hnr:¬RP (zax c) a a:=fun h=>by rw [hmk.2 ⟨hal,h⟩] at hrp;cases hrp
 have hxd6:=zaj w6
 have hx17:=hx16.trans hxd6
 generalize World.drew1 w6=w7 at *
 refine (zki hW (e0.trans hx17) hc).mono ?_
 rintro _ w8 ⟨hx8,rfl⟩
 have hx18:=hx17.trans hx8
 refine br (fun hsm=>?_) (fun hsm=>?_)
 case refine_2=>exact ⟨hx18,hnot fun ⟨a',h⟩=>hsm (zeW.2 h.2.2.2.1)⟩
 refine NIL.mk rfl ?_
 refine zaa zkF ?_
 refine zab zcN hW.calls (e0.trans hx18) fun v69 h69=>?_
 refine NIL.mk rfl ?_
 refine zaa zgk ?_
 refine zac ty3 hW.used (e0.trans hx18) fun _=>?_
 have hcl:∀ x∈cls c 4,x<256:=fun x hx=>by
   obtain ⟨p,_,rfl⟩:=List.mem_map.1 hx
   exact zaY h8.1
 refine (zf0 (m:=zdD c) h69 (e0.trans hx18) hcl (by rw [zfK];omega) (by rw [zfK];exact hu256)).mono ?_
 rintro _ w9 ⟨hx9,rfl⟩
 refine ⟨hx9,?_⟩
 have ho256:=zot hcl (zcd (zdD c))
 refine (zeQ (m:=orL (cls c 4) (zcd (zdD c))) (i:=zb4 c) (by omega) (by omega)).mono ?_
 rintro _ w10 ⟨hx10,rfl⟩
 refine zaJ ?_
 refine ⟨hx18.trans (hx9.trans hx10),?_⟩
 have hcb:=zpw hc hml
 have:zdO c r↔¬(orL (cls c 4) (zcd (zdD c))).testBit (zb4 c)=true:=by
   rw [zis hm,hcb]
   constructor
   · rintro ⟨a',h⟩;exact h.2.2.2.2
   intro h;exact ⟨a,ha,Decidable.not_not.1 heq2,hnr,zeW.1 hsm,h⟩
 congr 1
 cases hb:(orL (cls c 4) (zcd (zdD c))).testBit (zb4 c)
 · rw [decide_eq_true (this.2 (by rw [hb];simp))];rfl
 rw [decide_eq_false (fun h=>this.1 h hb)];rfl
def F252 (a0 a1:Value) (w:World) (R:VW):Prop:=
 oP (Instr.box 28 a0) w fun x2 w=>
 rL 28 x2 w fun x9=>
 cL 90 [x9] w fun x10 w=>
 rL 28 x2 w fun x11=>
 cL 301 [x11,a1] w fun x13 w=>
 rB .eql 3 T0 T0 a1 x10 w fun x16=>
 BR x16
 (rN 25 3 x13 w fun x18=>
 rB .eql 3 T0 U0 x18 (iV 0) w fun x19=>
 R x19 w)
 ((fun w=>rN 25 3 x13 w fun x21=>
 rB .neq 3 T0 U0 x21 (iV 1) w fun x22=>
 BR x22
 (R (Value.bool false) w)
 (rL 28 x2 w fun x24=>
 rX 25 x13 (iV 0) w fun x26=>
 rL 3 x26 w fun x27=>
 (fun w_=>cL 194 [x24,x27] w_ fun x28 w=>
 Ext w_ w ∧
 rB .neq 3 T0 T0 x28 x10 w fun x30=>
 BR x30
 (R (Value.bool false) w)
 (rL 28 x2 w fun x33=>
 rX 25 x13 (iV 0) w fun x35=>
 rL 3 x35 w fun x36=>
 rX 25 x13 (iV 0) w fun x39=>
 rL 3 x39 w fun x40=>
 (fun w_=>cL 302 [x33,x36] w_ fun x37 w=>
 Ext w_ w ∧
 rX 135 x37 x40 w fun x41=>
 rL 4 x41 w fun x42=>
 BR x42
 (R (Value.bool false) w)
 (rL 28 x2 w fun x45=>
 cL 252 [x45,x10] w fun x47 w=>
 rD (Op.unary .not x47) w fun x48=>
 BR x48
 (R (Value.bool false) w)
 (rL 28 x2 w fun x50=>
 cL 255 [x50] w fun x51 w=>
 LOOPI [8] [(iV 0)] w fun u9 w next9=>
 rF 28 x2 2 w fun x53=>
 rL 24 x53 w fun x54=>
 rN 24 3 x54 w fun x55=>
 rC (u9 8) x55 w fun x56=>
 BR x56
 (rX 135 x51 (u9 8) w fun x61=>
 rL 4 x61 w fun x62=>
 BR x62
 (rL 28 x2 w fun x64=>
 cL 289 [x64,(u9 8),(iV 4)] w fun x66 w=>
 cL 303 [x66,x10] w fun x68 w=>
 BR x68
 (R (Value.bool false) w)
 (rA (u9 8) (iV 1) w fun x58=>
 next9 [x58] w))
 (rA (u9 8) (iV 1) w fun x58=>
 next9 [x58] w))
 (R (Value.bool true) w)))) w)) w)) (World.drew1 w))
def cfg252:Cfg:=⟨extL,[],[(9,1180587117117783933200,[8])],[(5,[0,1,2,3,4,5,6,7,9,8,10,11,12,13,14,15,16,18,19,20,17,21,22,23,24,25,26,27,28,29],131328)],[],[],[]⟩
theorem F252_call {a0 a1:Value} {w:World} {R:VW} (h:F252 a0 a1 w R):cL 252 [a0,a1] w R:=co (g:=cfg252) Tryz.func252 (by kernel_rfl) (by kernel_rfl) (by kernel_rfl) h
def F197 (a0:Value) (w:World) (R:VW):Prop:=
 NIL a0 <|
 rF 180 a0 5 w fun x8=>
 rL 3 x8 w fun x9=>
 cL 97 [x9] w fun x10 w=>
 rN 25 3 x10 w fun x11=>
 LOOPI [3,12] [(iV 0),(iV 0)] w fun u3 w next3=>
 rC (u3 12) x11 w fun x13=>
 BR x13
 (rX 25 x10 (u3 12) w fun x14=>
 rL 3 x14 w fun x15=>
 cL 257 [a0,x15] w fun x18 w=>
 BR x18
 (rD (convert 3 97 x15) w fun x21=>
 rB .shl 3 U0 T0 (iV 1) x21 w fun x22=>
 rB .or 3 T0 T0 (u3 3) x22 w fun x23=>
 rA (u3 12) (iV 1) w fun x24=>
 next3 [x23,x24] w)
 (rA (u3 12) (iV 1) w fun x24=>
 next3 [(u3 3),x24] w))
 (R (u3 3) w)
def cfg197:Cfg:=⟨extL,[],[(3,33550376,[3,12])],[],[],[],[]⟩
theorem F197_call {a0:Value} {w:World} {R:VW} (h:F197 a0 w R):cL 197 [a0] w R:=co (g:=cfg197) Tryz.func197 (by kernel_rfl) (by kernel_rfl) (by kernel_rfl) h
def F196 (a0 a1:Value) (w:World) (R:VW):Prop:=
 NIL a0 <|
 rF 180 a0 0 w fun x10=>
 rL 28 x10 w fun x11=>
 cL 105 [x11,a1] w fun x13 w=>
 rD (Op.unary .not x13) w fun x14=>
 BR x14
 (R (iV 0) w)
 (NIL a0 <|
 rF 180 a0 1 w fun x18=>
 rL 135 x18 w fun x19=>
 rX 135 x19 a1 w fun x21=>
 rL 4 x21 w fun x22=>
 rD (Op.unary .not x22) w fun x23=>
 BR x23
 (R (iV 0) w)
 (NIL a0 <|
 rF 180 a0 5 w fun x27=>
 rL 3 x27 w fun x28=>
 cL 97 [x28] w fun x29 w=>
 rN 25 3 x29 w fun x30=>
 LOOPI [5,31] [(iV 0),(iV 0)] w fun u5 w next5=>
 rC (u5 31) x30 w fun x32=>
 BR x32
 (rX 25 x29 (u5 31) w fun x33=>
 rL 3 x33 w fun x34=>
 (fun w=>NIL a0 <|
 rF 180 a0 4 w fun x37=>
 rL 25 x37 w fun x38=>
 rX 25 x38 x34 w fun x40=>
 rL 3 x40 w fun x41=>
 NIL a0 <|
 rF 180 a0 0 w fun x44=>
 rL 28 x44 w fun x45=>
 (fun w_=>cL 208 [x45,a1] w_ fun x47 w=>
 Ext w_ w ∧
 cL 117 [x41,x47] w fun x48 w=>
 BR x48
 (rD (convert 3 97 x34) w fun x51=>
 rB .shl 3 U0 T0 (iV 1) x51 w fun x52=>
 rB .or 3 T0 T0 (u5 5) x52 w fun x53=>
 rA (u5 31) (iV 1) w fun x54=>
 next5 [x53,x54] w)
 (rA (u5 31) (iV 1) w fun x54=>
 next5 [(u5 5),x54] w)) w) (World.drew1 w))
 (R (u5 5) w)))
def cfg196:Cfg:=⟨extL,[],[(5,36028794871480480,[5,31])],[(7,[0,1,2,3,4,5,6,7,8,9,10,11,12,13],4096)],[],[],[]⟩
theorem F196_call {a0 a1:Value} {w:World} {R:VW} (h:F196 a0 a1 w R):cL 196 [a0,a1] w R:=co (g:=cfg196) Tryz.func196 (by kernel_rfl) (by kernel_rfl) (by kernel_rfl) h
open Rep (rep)
theorem zha {w W0:World} {v0:Value} {c:DCode} (h0:Is W0 v0 c) (e0:Ext W0 w) (hc:CodeR c) :
   CALL Tryz.prog 252 [v0,.int .i64 (zb4 c:Nat)] w fun v w'=>Ext w w'∧v=.bool (decide (zdO c (zb4 c))):=by
 refine F252_call ?_
 unfold F252
 have hml:=zdM hc
 refine zaV h0 e0 fun w1 hx1 hA=>?_
 refine zab zbm hA (Ext.refl _) fun v9 h9=>?_
 refine (zfZ h9 (Ext.refl _)).mono ?_
 rintro _ w2 ⟨hx2,rfl⟩
 rw [hml.1]
 refine zab zbm hA hx2 fun v11 h11=>?_
 refine (zh7 (r:=zb4 c) h11 hx2 hc).mono ?_
 rintro v13 w3 ⟨hx3,ho3⟩
 refine zai ?_
 refine br (fun _=>?_) (fun h=>absurd rfl h)
 refine zag u25 ho3.is ?_
 refine zai ?_
 rw [zae]
 exact ⟨hx1.trans (hx2.trans hx3),by congr 1;rw [decide_eq_decide,zeW,zmC]⟩
theorem zmE {w W0:World} {v0:Value} {r:Nat} {c:DCode} (h0:Is W0 v0 c) (e0:Ext W0 w) (hc:CodeR c) :
   CALL Tryz.prog 252 [v0,.int .i64 (r:Int)] w fun v w'=>Ext w w'∧v=.bool (decide (zdO c r)):=by
 by_cases hm:r=zb4 c
 · subst hm;exact zha h0 e0 hc
 refine F252_call ?_
 unfold F252
 have h8:=hc.1.procs8
 have he:=hc.2.1.1
 have hml:=zdM hc
 refine zaV h0 e0 fun w1 hx1 hA=>?_
 refine zab zbm hA (Ext.refl _) fun v9 h9=>?_
 refine (zfZ h9 (Ext.refl _)).mono ?_
 rintro _ w2 ⟨hx2,rfl⟩
 rw [hml.1]
 refine zab zbm hA hx2 fun v11 h11=>?_
 refine (zh7 (r:=r) h11 hx2 hc).mono ?_
 rintro v28 w3 ⟨hx3,ho3⟩
 refine zai ?_
 refine br (fun h=>absurd (by omega) hm) (fun _=>?_)
 have hxd:=zaj w3
 have hx14:=hx2.trans (hx3.trans hxd)
 have hS4:=ho3.is.ext hxd
 generalize World.drew1 w3=w4 at *
 have hsm:=fun a (ha:a∈zeb c r)=>zkf hc ha
 have hnot:(¬ ∃ a,zpv c r a)→Value.bool false=.bool (decide (zdO c r)):=fun h=>by rw [decide_eq_false fun h2=>h ((zis hm).1 h2)]
 refine zag u25 hS4 ?_
 refine zaN ?_
 rw [zae]
 refine br (fun hne=>?_) (fun heq=>?_)
 · exact ⟨hx1.trans hx14,hnot fun ⟨a,h⟩=>hne (by rw [h.1];rfl)⟩
 have hl1:(zeb c r).length=1:=by have:=Decidable.not_not.1 heq;omega
 obtain ⟨a,ha⟩:∃ a,zeb c r=[a]:=List.length_eq_one_iff.1 hl1
 have hal:a<c.ins.length:=hsm a (by rw [ha];simp)
 rw [ha] at hS4
 have hget:∀ {w:World} {K:Value→Prop},Ext w4 w→(K (.int .i64 (a:Int)))→RD Tryz.prog (Instr.indexAt 25 v28 (.int .i64 0)) w fun x=>RD Tryz.prog (Instr.loadAt 3 x) w K:=fun hx kk=>by
   refine zad u25 ty3 (i:=0) hS4 (by simp [zaI]) fun b3 o3 hA3=>?_
   rw [show (zaI [a])[0]'(by simp [zaI])=(a:Int) from rfl] at hA3
   exact zac ty3 hA3 hx fun _=>kk
 have hone:∀ a',zpv c r a'→a'=a:=fun a' h=>by have:=h.1;rw [ha] at this;simpa using this.symm
 refine zab zbm hA hx14 fun v24 h24=>?_
 refine hget (Ext.refl _) ?_
 refine (zeG (a:=(a:Int)) h24 hx14).mono ?_
 rintro _ w5 ⟨hx5,rfl⟩
 refine ⟨hx5,?_⟩
 have hx15:=hx14.trans hx5
 refine zaN ?_
 refine br (fun hne=>?_) (fun heq2=>?_)
 · exact ⟨hx1.trans hx15,hnot fun ⟨a',h⟩=>hne (by have:=hone a' h;subst this;exact h.2.1)⟩
 refine zab zbm hA hx15 fun v33 h33=>?_
 refine hget hx5 ?_
 refine hget hx5 ?_
 refine (znk (a:=a) h33 hx15 hc hal).mono ?_
 rintro v55 w6 ⟨hx6,ho6⟩
 refine ⟨hx6,?_⟩
 have hx16:=hx15.trans hx6
 have hmk:=zaH (n:=c.ins.length) (p:=RP (zax c) a) (i:=a)
 rw [zaO (by rw [zam];exact hal)] at hmk
 refine zad zcX ty4 (i:=a) ho6.is (by rw [zam];exact hal) fun b8 o8 hA8=>?_
 refine zaz ty4 hA8 (Ext.refl _) ?_
 refine zbw (fun hrp=>?_) (fun hrp=>?_)
 · exact ⟨hx1.trans hx16,hnot fun ⟨a',h⟩=>by have:=hone a' h;subst this;exact h.2.2.1 (hmk.1 hrp).2⟩
 have hnr:¬RP (zax c) a a:=fun h=>by rw [hmk.2 ⟨hal,h⟩] at hrp;cases hrp
 refine zab zbm hA hx16 fun v45 h45=>?_
 refine (zha h45 hx16 hc).mono ?_
 rintro _ w8 ⟨hx8,rfl⟩
 have hx18:=hx16.trans hx8
 refine zaX ?_
 refine br (fun hsm=>?_) (fun hsm=>?_)
 · exact ⟨hx1.trans hx18,hnot fun ⟨a',h⟩=>hsm (zeW.2 h.2.2.2.1)⟩
 have hsm':=Decidable.not_not.1 hsm
 refine zab zbm hA hx18 fun v50 h50=>?_
 refine (zf2 h50 hx18 hc).mono ?_
 rintro v51 w9 ⟨hx9,ho9⟩
 have hx19:=hx18.trans hx9
 refine zas c.procs.length (fun k us w'=>us=[.int .i64 (k:Int)]∧k≤c.procs.length∧Ext w9 w'∧∀ p,p<k→UsedP c p→¬zil c p 4 (zb4 c)) 0 (Nat.zero_le _) ⟨rfl,Nat.zero_le _,Ext.refl _,fun p h=>by omega⟩ ?_
 rintro p mk u w10 hkm ⟨hu,hkl,hx10,hD⟩
 simp only [List.map_cons,List.map_nil,List.cons.injEq,and_true] at hu
 rw [hu]
 have hx110:=hx19.trans hx10
 refine zaa zbb ?_
 refine zab zcj (zat hA) hx110 fun v54 h54=>?_
 refine zag u24 h54 ?_
 refine zah ?_
 refine br (fun hlt=>?_) (fun hge=>?_)
 case refine_2=>
   have:zdO c r:=(zis hm).2 ⟨a,ha,Decidable.not_not.1 heq2,hnr,zeW.1 hsm',fun ⟨p,h1,h2⟩=>hD p (by have:=zrw hc h1;omega) h1 h2⟩
   exact ⟨hx1.trans hx110,by rw [decide_eq_true this]⟩
 have hp:p<c.procs.length:=by omega
 have hnext:(UsedP c p→¬zil c p 4 (zb4 c))→∀ q,q<p+1→UsedP c q→¬zil c q 4 (zb4 c):=fun h q hq=>by
   by_cases e:q=p
   · subst e;exact h
   exact hD q (by omega)
 have hmu:=zaH (n:=c.procs.length) (p:=UsedP c) (i:=p)
 rw [zaO (by rw [zam];exact hp)] at hmu
 refine zad zcX ty4 (i:=p) ho9.is (by rw [zam];exact hp) fun b11 o11 hA11=>?_
 refine zaz ty4 hA11 hx10 ?_
 refine zbw (fun hf=>?_) (fun hf=>?_)
 case refine_2=>
   refine zaf (by omega) ?_
   exact ⟨mk-1,by omega,p+1,by omega,rfl,by omega,hx10,hnext fun h=>by rw [hmu.2 ⟨hp,h⟩] at hf;cases hf⟩
 have hU:=(hmu.1 hf).2
 refine zab zbm hA hx110 fun v64 h64=>?_
 refine (zji (p:=p) h64 hx110 hc (by rw [he];exact hp) (.inl rfl)).mono ?_
 rintro v66 w11 ⟨hx11,ho11⟩
 refine (zrt (y:=(zb4 c:Nat)) ho11.is (Ext.refl _)).mono ?_
 rintro _ w12 ⟨hx12,rfl⟩
 have hx112:=hx110.trans (hx11.trans hx12)
 have hin:((zb4 c:Nat):Int)∈zaI (zbn c.procs.length (zil c p 4))↔zil c p 4 (zb4 c):=by
   unfold zaI
   rw [List.mem_map]
   constructor
   · rintro ⟨x,hx,e⟩
     have:x=zb4 c:=by omega
     subst this;exact (zaT.1 hx).2
   intro h;exact ⟨_,zaT.2 ⟨hml.2,h⟩,rfl⟩
 refine br (fun hy=>?_) (fun hno=>?_)
 · exact ⟨hx1.trans hx112,hnot fun ⟨a',h⟩=>h.2.2.2.2 ⟨p,hU,hin.1 hy⟩⟩
 refine zaf (by omega) ?_
 exact ⟨mk-1,by omega,p+1,by omega,rfl,by omega,hx10.trans (hx11.trans hx12),hnext fun _ h=>hno (hin.2 h)⟩
noncomputable def zmF (c:DCode):Nat:=zhc (fun r=>RootP c r∧zdO c r) c.procs.length
def RtP (c:DCode) (i r:Nat):Prop:=zev c i∧RootP c r∧FromP c r (zar c i).toNat
noncomputable def rtN (c:DCode) (i:Nat):Nat:=zhc (RtP c i) c.procs.length
theorem zmG {c:DCode} (hc:CodeR c) (i:Nat):rtN c i<256:=zaY hc.1.procs8.1
theorem zoO {c:DCode} (hc:CodeR c):zmF c<256:=zaY hc.1.procs8.1
def AccB (U:List Nat) (P:Nat→Prop) (k m:Nat):Prop:=m<256∧∀ r,m.testBit r=true↔r∈U.take k∧P r
theorem AccB.yes {U:List Nat} {P:Nat→Prop} {k m:Nat} (h:AccB U P k m) (hk:k<U.length) (h8:U[k]<8) (hp:P U[k]):AccB U P (k+1) (m ||| 2^U[k]):=by
 refine ⟨Nat.or_lt_two_pow (n:=8) h.1 (Nat.pow_lt_pow_right (by omega) h8),fun r=>?_⟩
 rw [Nat.testBit_or,Bool.or_eq_true,h.2,zbe hk,Nat.testBit_two_pow,decide_eq_true_eq]
 constructor
 · rintro (⟨h1,h2⟩ | rfl)
   · exact ⟨.inl h1,h2⟩
   exact ⟨.inr rfl,hp⟩
 rintro ⟨h1 | rfl,h2⟩
 · exact .inl ⟨h1,h2⟩
 exact .inr rfl
theorem AccB.no {U:List Nat} {P:Nat→Prop} {k m:Nat} (h:AccB U P k m) (hk:k<U.length) (hp:¬P U[k]):AccB U P (k+1) m:=by
 refine ⟨h.1,fun r=>?_⟩
 rw [h.2,zbe hk]
 constructor
 · rintro ⟨h1,h2⟩;exact ⟨.inl h1,h2⟩
 rintro ⟨h1 | rfl,h2⟩
 · exact ⟨h1,h2⟩
 exact absurd h2 hp
theorem AccB.fin {n:Nat} {Q P:Nat→Prop} {k m:Nat} (h:AccB (zbn n Q) P k m) (hk:(zbn n Q).length≤k):m=zhc (fun r=>Q r∧P r) n:=by
 refine zfe fun r=>?_
 rw [h.2,List.take_of_length_le hk,zaT]
 exact ⟨fun ⟨⟨a,b⟩,d⟩=>⟨a,b,d⟩,fun ⟨a,b,d⟩=>⟨⟨a,b⟩,d⟩⟩
theorem AccB.start (U:List Nat) (P:Nat→Prop):AccB U P 0 0:=⟨by omega,fun r=>by simp⟩
theorem zkj {w W0:World} {b:Nat} {c:DCode} (hW:WAt W0 b c) (e0:Ext W0 w) (hc:CodeR c) :
   CALL Tryz.prog 197 [.pointer (some ⟨b,0,none⟩)] w fun v w'=>Ext w w'∧v=.int .i64 (zmF c:Nat):=by
 refine F197_call ?_
 unfold F197
 have h8:=hc.1.procs8
 have hr256:zci c<256:=zaY h8.1
 refine NIL.mk rfl ?_
 refine zaa zgj ?_
 refine zac ty3 hW.roots e0 fun _=>?_
 refine (zdt (m:=zci c) (by omega)).mono ?_
 rintro v10 w1 ⟨hx1,ho1⟩
 unfold zci at ho1
 rw [zdi (by omega)] at ho1
 refine zag u25 ho1.is ?_
 rw [zae]
 have hUl:=za6 (n:=c.procs.length) (p:=RootP c)
 have hUm:∀ r∈zbn c.procs.length (RootP c),r<c.procs.length∧RootP c r:=fun r hr=>zaT.1 hr
 have hfin:∀ {k m},AccB (zbn c.procs.length (RootP c)) (zdO c) k m→(zbn c.procs.length (RootP c)).length≤k→m=zmF c:=fun h hk=>h.fin hk
 generalize zbn c.procs.length (RootP c)=U at *
 refine zas U.length (fun k us w'=>∃ m:Nat,us=[.int .i64 (m:Int),.int .i64 (k:Int)]∧k≤U.length∧Ext w1 w'∧AccB U (zdO c) k m) 0 (Nat.zero_le _) ⟨0,rfl,Nat.zero_le _,Ext.refl _,AccB.start _ _⟩ ?_
 rintro k mk u w2 hkm ⟨m,hu,hkl,hx2,hB⟩
 obtain ⟨hu1,hu2⟩:=zcC hu
 rw [hu1,hu2]
 refine zah ?_
 refine br (fun hlt=>?_) (fun hge=>?_)
 case refine_2=>
   rw [hfin hB (by omega)]
   exact ⟨hx1.trans hx2,rfl⟩
 have hk:k<U.length:=by omega
 obtain ⟨hrl,hrR⟩:=hUm U[k] (List.getElem_mem _)
 refine zad u25 ty3 (i:=k) ho1.is (by rw [zae];exact hk) fun b3 o3 hA3=>?_
 rw [zaM] at hA3
 have hyes:=fun hp=>hB.yes hk (by omega) hp
 have hno:=fun hp=>hB.no hk hp
 generalize U[k]=r at *
 refine zac ty3 hA3 hx2 fun _=>?_
 have hm256:=hB.1
 refine (zrx (r:=r) hW (e0.trans (hx1.trans hx2)) hc hrR).mono ?_
 rintro _ w3 ⟨hx3,rfl⟩
 refine br (fun hs=>?_) (fun hs=>?_)
 · refine zdA (by kernel_rfl) u97 (by omega) ?_
   refine zer (by omega) ?_
   have:2^r<256:=Nat.pow_lt_pow_right (m:=r) (n:=8) (by omega) (by omega)
   refine zge (by omega) (by omega) ?_
   refine zaf (by omega) ?_
   exact ⟨mk-1,by omega,k+1,by omega,m ||| 2^r,rfl,by omega,hx2.trans hx3,hyes hs⟩
 refine zaf (by omega) ?_
 exact ⟨mk-1,by omega,k+1,by omega,m,rfl,by omega,hx2.trans hx3,hno hs⟩
theorem zhO {w W0:World} {b i:Nat} {c:DCode} (hW:WAt W0 b c) (e0:Ext W0 w) (hc:CodeR c) (hi:i<c.ins.length) :
   CALL Tryz.prog 196 [.pointer (some ⟨b,0,none⟩),.int .i64 (i:Int)] w fun v w'=>Ext w w'∧v=.int .i64 (rtN c i:Nat):=by
 refine F196_call ?_
 unfold F196
 have h8:=hc.1.procs8
 have hr256:zci c<256:=zaY h8.1
 obtain ⟨q,hq,hpq,_⟩:=zdw hc hi
 refine NIL.mk rfl ?_
 refine zaa za5 ?_
 refine zab zbm hW.wl.code e0 fun v11 h11=>?_
 refine (zpl (a:=(i:Int)) h11 e0).mono ?_
 rintro _ w1 ⟨hx1,rfl⟩
 refine zaX ?_
 refine br (fun h=>absurd ⟨by omega,by omega⟩ h) (fun _=>?_)
 refine NIL.mk rfl ?_
 refine zaa zkE ?_
 refine zab zdc hW.wl.live (e0.trans hx1) fun v19 h19=>?_
 have hmk:=zaH (n:=c.ins.length) (p:=zev c) (i:=i)
 rw [zaO (by rw [zam];exact hi)] at hmk
 refine zad zcX ty4 (i:=i) h19 (by rw [zam];exact hi) fun b2 o2 hA2=>?_
 refine zaz ty4 hA2 (e0.trans hx1) ?_
 refine zaJ ?_
 refine zbw (fun hf=>?_) (fun hf=>?_)
 · have hnl:¬zev c i:=fun h=>by rw [hmk.2 ⟨hi,h⟩] at hf;cases hf
   have:rtN c i=0:=(zfe (m:=0) fun r=>by simp;exact fun _ h=>hnl h.1).symm
   rw [this]
   exact ⟨hx1,rfl⟩
 have hL:zev c i:=(hmk.1 (by simpa using hf)).2
 refine NIL.mk rfl ?_
 refine zaa zgj ?_
 refine zac ty3 hW.roots (e0.trans hx1) fun _=>?_
 refine (zdt (m:=zci c) (by omega)).mono ?_
 rintro v29 w2 ⟨hx2,ho2⟩
 unfold zci at ho2
 rw [zdi (by omega)] at ho2
 refine zag u25 ho2.is ?_
 rw [zae]
 have hUl:=za6 (n:=c.procs.length) (p:=RootP c)
 have hUm:∀ r∈zbn c.procs.length (RootP c),r<c.procs.length∧RootP c r:=fun r hr=>zaT.1 hr
 have hfin:∀ {k m},AccB (zbn c.procs.length (RootP c)) (fun r=>FromP c r q) k m→(zbn c.procs.length (RootP c)).length≤k→m=rtN c i:=fun h hk=>by
   rw [h.fin hk]
   unfold rtN
   refine zdh fun r _=>?_
   unfold RtP
   rw [hpq]
   exact ⟨fun h=>⟨hL,h.1,h.2⟩,fun h=>h.2⟩
 generalize zbn c.procs.length (RootP c)=U at *
 have hx02:=hx1.trans hx2
 refine zas U.length (fun k us w'=>∃ m:Nat,us=[.int .i64 (m:Int),.int .i64 (k:Int)]∧k≤U.length∧Ext w2 w'∧AccB U (fun r=>FromP c r q) k m) 0 (Nat.zero_le _) ⟨0,rfl,Nat.zero_le _,Ext.refl _,AccB.start _ _⟩ ?_
 rintro k mk u w3 hkm ⟨m,hu,hkl,hx3,hB⟩
 obtain ⟨hu1,hu2⟩:=zcC hu
 rw [hu1,hu2]
 refine zah ?_
 refine br (fun hlt=>?_) (fun hge=>?_)
 case refine_2=>
   rw [hfin hB (by omega)]
   exact ⟨hx02.trans hx3,rfl⟩
 have hk:k<U.length:=by omega
 obtain ⟨hrl,hrR⟩:=hUm U[k] (List.getElem_mem _)
 refine zad u25 ty3 (i:=k) ho2.is (by rw [zae];exact hk) fun b4 o4 hA4=>?_
 rw [zaM] at hA4
 have hyes:=fun hp=>hB.yes hk (by omega) hp
 have hno:=fun hp=>hB.no hk hp
 generalize U[k]=r at *
 refine zac ty3 hA4 hx3 fun _=>?_
 have hm256:=hB.1
 have hxd:=zaj w3
 have hx23:=hx3.trans hxd
 generalize World.drew1 w3=w4 at *
 have e4:=e0.trans (hx02.trans hx23)
 refine NIL.mk rfl ?_
 refine zaa ziJ ?_
 refine zab zcN hW.frm e4 fun v38 h38=>?_
 refine zad u25 ty3 (i:=r) h38 (by rw [zae,zhM];exact hrl) fun b5 o5 hA5=>?_
 rw [zaK] at hA5
 refine zac ty3 hA5 e4 fun _=>?_
 refine NIL.mk rfl ?_
 refine zaa za5 ?_
 refine zab zbm hW.wl.code e4 fun v45 h45=>?_
 refine (zml (a:=(i:Int)) h45 e4 hc (by omega) (by omega)).mono ?_
 rintro _ w5 ⟨hx5,rfl⟩
 refine ⟨hx5,?_⟩
 rw [hpq]
 have hfb:=znF (c:=c) (r:=q) hrl
 have hf256:zaw (frs c) r<256:=by rw [zoz hrl];exact zaY h8.1
 refine (zeQ (m:=zaw (frs c) r) (i:=q) (by omega) (by omega)).mono ?_
 rintro _ w6 ⟨hx6,rfl⟩
 have hx26:=hx23.trans (hx5.trans hx6)
 refine zbw (fun hs=>?_) (fun hs=>?_)
 · refine zdA (by kernel_rfl) u97 (by omega) ?_
   refine zer (by omega) ?_
   have:2^r<256:=Nat.pow_lt_pow_right (m:=r) (n:=8) (by omega) (by omega)
   refine zge (by omega) (by omega) ?_
   refine zaf (by omega) ?_
   exact ⟨mk-1,by omega,k+1,by omega,m ||| 2^r,rfl,by omega,hx26,hyes (hfb.1 hs).2⟩
 refine zaf (by omega) ?_
 exact ⟨mk-1,by omega,k+1,by omega,m,rfl,by omega,hx26,hno fun h=>by rw [hfb.2 ⟨hq,h⟩] at hs;cases hs⟩
def F192 (a0 a1 a2:Value) (w:World) (R:VW):Prop:=
 rB .eql 3 T0 U0 a0 (iV 0) w fun x8=>
 BR x8
 (R (Value.bool false) w)
 (rB .eql 3 T0 U0 a1 (iV 0) w fun x11=>
 BR x11
 (R (Value.bool false) w)
 (rB .and 3 T0 T0 a0 a1 w fun x15=>
 rB .andNot 3 T0 T0 x15 a2 w fun x17=>
 rB .neq 3 T0 U0 x17 (iV 0) w fun x18=>
 BR x18
 (R (Value.bool true) w)
 (rB .neq 3 T0 T0 a0 a1 w fun x22=>
 BR x22
 (R (Value.bool true) w)
 (rB .sub 3 T0 U0 a0 (iV 1) w fun x27=>
 rB .and 3 T0 T0 a0 x27 w fun x28=>
 rB .neq 3 T0 U0 x28 (iV 0) w fun x29=>
 R x29 w))))
def cfg192:Cfg:=⟨extL,[],[],[],[],[],[]⟩
theorem F192_call {a0 a1 a2:Value} {w:World} {R:VW} (h:F192 a0 a1 a2 w R):cL 192 [a0,a1,a2] w R:=co (g:=cfg192) Tryz.func192 (by kernel_rfl) (by kernel_rfl) (by kernel_rfl) h
def F191 (a0:Value) (w:World) (R:VW):Prop:=
 NIL a0 <|
 rF 180 a0 0 w fun x8=>
 rF 28 x8 4 w fun x9=>
 rL 26 x9 w fun x10=>
 rN 26 3 x10 w fun x11=>
 oP (Instr.makeSlice 25 x11 x11) w fun x12 w=>
 rN 25 3 x12 w fun x14=>
 LOOPI [15] [(iV 0)] w fun u3 w next3=>
 rC (u3 15) x14 w fun x16=>
 BR x16
 (cL 196 [a0,(u3 15)] w fun x22 w=>
 rX 25 x12 (u3 15) w fun x23=>
 oS 3 x23 x22 w fun w=>
 rA (u3 15) (iV 1) w fun x24=>
 next3 [x24] w)
 (cL 197 [a0] w fun x27 w=>
 R (Value.tuple #[x12,x27]) w)
def cfg191:Cfg:=⟨extL,[],[(3,33521696,[15])],[],[],[],[]⟩
theorem F191_call {a0:Value} {w:World} {R:VW} (h:F191 a0 w R):cL 191 [a0] w R:=co (g:=cfg191) Tryz.func191 (by kernel_rfl) (by kernel_rfl) (by kernel_rfl) h
def F190 (a0:Value) (w:World) (R:VW):Prop:=
 cL 250 [a0] w fun x8 w=>
 cL 119 [a0] w fun x10 w=>
 cL 121 [x10] w fun x11 w=>
 rN 25 3 x11 w fun x12=>
 LOOPI [4,13] [(Value.slice none 0 0),(iV 0)] w fun u4 w next4=>
 rC (u4 13) x12 w fun x14=>
 BR x14
 (rX 25 x11 (u4 13) w fun x15=>
 rL 3 x15 w fun x16=>
 (fun w=>NIL a0 <|
 rF 180 a0 0 w fun x20=>
 rL 28 x20 w fun x21=>
 rX 25 x8 x16 w fun x25=>
 rL 3 x25 w fun x26=>
 (fun w_=>cL 106 [x21,x16,x26] w_ fun x27 w=>
 Ext w_ w ∧
 oP (Builtin.append_ #[62,62] 62 [(u4 4),x27].toArray) w fun x28 w=>
 rA (u4 13) (iV 1) w fun x29=>
 next4 [x28,x29] w) w) (World.drew1 w))
 (R (u4 4) w)
def cfg190:Cfg:=⟨extL,[],[(4,1073733712,[4,13])],[(6,[0,1,2,3,4,5,6,7,8,9,10,11,12],1024)],[],[],[]⟩
theorem F190_call {a0:Value} {w:World} {R:VW} (h:F190 a0 w R):cL 190 [a0] w R:=co (g:=cfg190) Tryz.func190 (by kernel_rfl) (by kernel_rfl) (by kernel_rfl) h
def F125 (a0:Value) (w:World) (R:VW):Prop:=
 oP (Instr.box 28 a0) w fun x1 w=>
 oP (Instr.buildSlice 62 0 #[]) w fun x7 w=>
 rL 28 x1 w fun x8=>
 cL 195 [x8] w fun x9 w=>
 rL 28 x1 w fun x10=>
 cL 176 [x10] w fun x11 w=>
 NIL x11 <|
 rF 188 x11 1 w fun x13=>
 rL 135 x13 w fun x14=>
 LOOPI [3,6] [x7,(iV 0)] w fun u5 w next5=>
 rF 28 x1 4 w fun x16=>
 rL 26 x16 w fun x17=>
 rN 26 3 x17 w fun x18=>
 rC (u5 6) x18 w fun x19=>
 BR x19
 (rX 135 x14 (u5 6) w fun x24=>
 rL 4 x24 w fun x25=>
 BR x25
 ((fun w=>rL 28 x1 w fun x27=>
 rX 25 x9 (u5 6) w fun x31=>
 rL 3 x31 w fun x32=>
 (fun w_=>cL 168 [x27,(u5 6),x32] w_ fun x33 w=>
 Ext w_ w ∧
 oP (Builtin.append_ #[62,62] 62 [(u5 3),x33].toArray) w fun x34 w=>
 rA (u5 6) (iV 1) w fun x21=>
 next5 [x34,x21] w) w) (World.drew1 w))
 (rA (u5 6) (iV 1) w fun x21=>
 next5 [(u5 3),x21] w))
 (R (u5 3) w)
def cfg125:Cfg:=⟨extL,[],[(5,34359705672,[3,6])],[(8,[0,1,2,3,4,5,6,7,8,9],128)],[],[],[]⟩
theorem F125_call {a0:Value} {w:World} {R:VW} (h:F125 a0 w R):cL 125 [a0] w R:=co (g:=cfg125) Tryz.func125 (by kernel_rfl) (by kernel_rfl) (by kernel_rfl) h
open Rep (rep)
def zry (a b s:Nat):Prop:=∃ r t,a.testBit r=true∧b.testBit t=true∧(r≠t∨s.testBit r=false)
theorem zsz:∀ a,a<256→a &&& (a-1)≠0→∃ r,r<8∧∃ t,t<8∧r≠t∧a.testBit r=true∧a.testBit t=true:=by decide +kernel
theorem zt0:∀ a,a<256→∀ r,r<8→∀ t,t<8→(a &&& (a-1)=0∧a.testBit r=true∧a.testBit t=true→r=t):=by decide +kernel
theorem zrz {m l:Nat} (h:m<256) (hb:m.testBit l=true):l<8:=Decidable.byContradiction fun hc=>by
 have:=Nat.testBit_lt_two_pow (Nat.lt_of_lt_of_le (show m<2^8 from h) (Nat.pow_le_pow_right (by omega) (by omega:8≤l)))
 rw [this] at hb;cases hb
theorem zlu {m:Nat} (h:m≠0):∃ i,m.testBit i=true:=Nat.exists_testBit_of_ne_zero h
theorem zrA {m:Nat} (h:m=0) (i:Nat):¬m.testBit i=true:=by rw [h];simp
theorem zoP {w:World} {a b s:Nat} (ha:a<256) (hb:b<256) (hs:s<256) :
   CALL Tryz.prog 192 [.int .i64 (a:Int),.int .i64 (b:Int),.int .i64 (s:Int)] w fun v w'=>Ext w w'∧∃ x:Bool,v=.bool x∧(x=true↔zry a b s):=by
 refine F192_call ?_
 unfold F192
 refine zai ?_
 refine br (fun h=>?_) (fun hna=>?_)
 · exact ⟨Ext.refl _,false,rfl,⟨fun e=>(by cases e),fun ⟨r,t,h1,_⟩=>absurd h1 (zrA (by omega) r)⟩⟩
 refine zai ?_
 refine br (fun h=>?_) (fun hnb=>?_)
 · exact ⟨Ext.refl _,false,rfl,⟨fun e=>(by cases e),fun ⟨r,t,_,h1,_⟩=>absurd h1 (zrA (by omega) t)⟩⟩
 have hle:=Nat.and_le_left (n:=a) (m:=b)
 refine zd7 (m:=a) (n:=b) (by omega) (by omega) ?_
 refine zjj (m:=a &&& b) (n:=s) (by omega) (by omega) ?_
 refine zaN ?_
 refine br (fun h=>?_) (fun h=>?_)
 · obtain ⟨i,hi⟩:=zlu (m:=znl (a &&& b) s) (by omega)
   rw [zff,Nat.testBit_and] at hi
   simp only [Bool.and_eq_true,Bool.not_eq_true'] at hi
   exact ⟨Ext.refl _,true,rfl,⟨fun _=>⟨i,i,hi.1.1,hi.1.2,.inr hi.2⟩,fun _=>rfl⟩⟩
 have hz:znl (a &&& b) s=0:=by have:=Decidable.not_not.1 h;omega
 refine zaN ?_
 refine br (fun hne=>?_) (fun heq=>?_)
 · refine ⟨Ext.refl _,true,rfl,⟨fun _=>?_,fun _=>rfl⟩⟩
   refine Classical.byContradiction fun hn=>?_
   have hall:∀ r t,a.testBit r=true→b.testBit t=true→r=t:=fun r t h1 h2=>Classical.byContradiction fun e=>hn ⟨r,t,h1,h2,.inl e⟩
   obtain ⟨r,hr⟩:=zlu (m:=a) (by omega)
   obtain ⟨t,ht⟩:=zlu (m:=b) (by omega)
   have hrt:=hall r t hr ht
   subst hrt
   have:a=b:=Nat.eq_of_testBit_eq fun i=>by
     cases e1:a.testBit i<;>cases e2:b.testBit i
     · rfl
     · have:=hall r i hr e2;subst this;rw [hr] at e1;cases e1
     · have:=hall i r e1 ht;subst this;rw [ht] at e2;cases e2
     rfl
   exact hne (by rw [this])
 have hab:a=b:=by have:=Decidable.not_not.1 heq;omega
 subst hab
 refine zbp (by unfold I64;omega) ?_
 rw [show (a:Int)-1=((a-1:Nat):Int) by omega]
 refine zd7 (m:=a) (n:=a-1) (by omega) (by omega) ?_
 refine zaN ?_
 refine ⟨Ext.refl _,_,rfl,?_⟩
 rw [decide_eq_true_eq]
 constructor
 · intro h
   obtain ⟨r,_,t,_,h1,h2,h3⟩:=zsz a ha (by omega)
   exact ⟨r,t,h2,h3,.inl h1⟩
 rintro ⟨r,t,h1,h2,h3⟩ hc
 have:=zt0 a ha r (zrz ha h1) t (zrz ha h2) ⟨by omega,h1,h2⟩
 subst this
 have hb:=zrA hz r
 rw [zff,Nat.testBit_and,h1] at hb
 rcases h3 with h3 | h3
 · exact h3 rfl
 rw [h3] at hb;simp at hb
theorem zpx {w W0:World} {b:Nat} {c:DCode} (hW:WAt W0 b c) (e0:Ext W0 w) (hc:CodeR c) :
   CALL Tryz.prog 191 [.pointer (some ⟨b,0,none⟩)] w fun v w'=>Ext w w'∧∃ u,v=.tuple #[u,.int .i64 (zmF c:Nat)]∧Own w.heap.size w' u (zaI ((List.range c.ins.length).map (rtN c))):=by
 refine F191_call ?_
 unfold F191
 have hil:=hc.f.ins
 have hin0:0<c.ins.length:=by
   have:=hc.1.procs8
   have:=(zen hc this.2).2.2
   omega
 refine NIL.mk rfl ?_
 refine zaa za5 ?_
 refine zaa zaG ?_
 refine zab zcO (zal hW.wl.code) e0 fun v10 h10=>?_
 refine zag u26 h10 ?_
 have hn:c.ins.length=c.ins.length:=rfl
 generalize hnn:c.ins.length=n at hn
 rw [hnn] at hil hin0
 refine zdn hin0 (by omega) fun w1 hx1 hM1=>?_
 refine zhK u25 ?_
 generalize hg:w.heap.size=g at *
 have hg1:=hM1.lt g (by simp)
 have hM0:Mine [g] w1 (.slice (some ⟨g,0,none⟩) n n) (zaI ((List.range n).map fun i=>if i<0 then rtN c i else 0)):=by
   have:(List.replicate n 0)=((List.range n).map fun i=>if i<0 then rtN c i else 0):=by
     apply List.ext_getElem
     · simp
     intro i h1 h2;simp
   rw [←this];exact hM1
 refine zas n (fun k us w'=>us=[.int .i64 (k:Int)]∧k≤n∧ChgI g (g+1) w1 w'∧Mine [g] w' (.slice (some ⟨g,0,none⟩) n n) (zaI ((List.range n).map fun i=>if i<k then rtN c i else 0))) 0 (Nat.zero_le _) ⟨rfl,Nat.zero_le _,ChgI.refl _,hM0⟩ ?_
 rintro k mk u w2 hkm ⟨hu,hkl,hc2,hM2⟩
 simp only [List.map_cons,List.map_nil,List.cons.injEq,and_true] at hu
 rw [hu]
 have hx2:Ext w w2:=hx1.chgI hc2 (by omega)
 refine zah ?_
 refine br (fun hlt=>?_) (fun hge=>?_)
 case refine_2=>
   have hke:k=n:=by omega
   refine (zkj hW (e0.trans hx2) hc).mono ?_
   rintro _ w3 ⟨hx3,rfl⟩
   refine ⟨hx2.trans hx3,_,rfl,[g],?_,fun b hb=>by simp at hb;omega⟩
   have:((List.range n).map fun i=>if i<k then rtN c i else 0)=(List.range n).map (rtN c):=List.map_congr_left fun i hi=>by
     have:=List.mem_range.1 hi
     rw [if_pos (by omega)]
   rw [this] at hM2
   exact hM2.ext hx3
 have hk:k<n:=by omega
 refine (zhO (i:=k) hW (e0.trans hx2) hc (by omega)).mono ?_
 rintro _ w3 ⟨hx3,rfl⟩
 have hrt:=zmG hc k
 refine zbv (α:=Int) (i:=k) rfl u25 ty3 hk ?_
 refine za0 (α:=Int) rfl ty3 (hM2.ext hx3) (by simp [zaI]) hk (zbt (v:=rtN c k) (by omega)) fun w4 hc4 hM4=>?_
 have hc4':ChgI g (g+1) w3 w4:=zd8 hc4
 refine zaf (by omega) ?_
 refine ⟨mk-1,by omega,k+1,by omega,rfl,by omega,(hc2.trans hx3.toI).trans hc4',?_⟩
 have:(zaI ((List.range n).map fun i=>if i<k then rtN c i else 0)).set k (rtN c k:Nat)=zaI ((List.range n).map fun i=>if i<k+1 then rtN c i else 0):=by
   unfold zaI
   apply List.ext_getElem
   · simp
   intro i h1 h2
   simp only [List.length_map,List.length_range] at h2
   rw [List.getElem_set]
   by_cases e:k=i
   · subst e;simp
   rw [if_neg e]
   simp only [List.getElem_map,List.getElem_range]
   by_cases h:i<k
   · rw [if_pos h,if_pos (by omega)]
   rw [if_neg h,if_neg (by omega)]
 rw [←this];exact hM4
noncomputable def zoQ (c:DCode) (i:Nat):List DTouch:=zc2 c (i:Int) ((zaw (zhI c) i:Nat):Int)
noncomputable def zfM (c:DCode):List DTouch:=(zbn c.ins.length (MetP c)).flatMap (zoQ c)
theorem zfm {c:DCode} (hc:CodeR c) (a h:Int):(zc2 c a h).length≤12:=by
 have h1:=znB c a h
 have h2:=hc.1.1
 simp only [Bool.and_eq_true,decide_eq_true_eq] at h2
 omega
theorem zjw {c:DCode} (hc:CodeR c) (U:List Nat) (hU:U.length≤1500):(U.flatMap (zoQ c)).length≤18000:=by
 have h1:=zf3 (l:=U) (f:=zoQ c) (B:=12) fun i _=>zfm hc _ _
 omega
theorem zpy {w W0:World} {b:Nat} {c:DCode} (hW:WAt W0 b c) (e0:Ext W0 w) (hc:CodeR c) :
   CALL Tryz.prog 190 [.pointer (some ⟨b,0,none⟩)] w fun v w'=>Ext w w'∧Own w.heap.size w' v (zfM c):=by
 refine F190_call ?_
 unfold F190
 have hil:=hc.f.ins
 refine (ztT hW e0 hc).mono ?_
 rintro v8 w1 ⟨hx1,ho1⟩
 refine (zuU hW (e0.trans hx1) hc).mono ?_
 rintro v10 w2 ⟨hx2,ho2⟩
 have hml:(zox c).length=c.ins.length:=by unfold zox;rw [zam]
 refine (zru ho2.is (Ext.refl _) (by rw [hml];omega)).mono ?_
 rintro v11 w3 ⟨hx3,ho3⟩
 have hx13:=hx1.trans (hx2.trans hx3)
 rw [hml] at ho3
 unfold zox at ho3
 rw [zfG] at ho3
 have hMu:=ho1.is.ext (hx2.trans hx3)
 have hUl:=za6 (n:=c.ins.length) (p:=MetP c)
 have hUm:∀ i∈zbn c.ins.length (MetP c),i<c.ins.length:=fun i hi=>(zaT.1 hi).1
 unfold zfM
 generalize zbn c.ins.length (MetP c)=U at *
 refine zag u25 ho3.is ?_
 rw [zae]
 have hs13:=hx13.size
 refine zas U.length (fun k us w'=>∃ out,us=[out,.int .i64 (k:Int)]∧k≤U.length∧Ext w3 w'∧RowI w3.heap.size w'.heap.size 87 w' out ((U.take k).flatMap (zoQ c))) 0 (Nat.zero_le _) ⟨_,rfl,Nat.zero_le _,Ext.refl _,zc0 _ _ _ _⟩ ?_
 rintro k mk u w4 hkm ⟨out,hu,hkl,hx4,hr4⟩
 obtain ⟨hu1,hu2⟩:=zcC hu
 rw [hu1,hu2]
 refine zah ?_
 refine br (fun hlt=>?_) (fun hge=>?_)
 case refine_2=>
   have hke:k=U.length:=by omega
   rw [hke,List.take_length] at hr4
   exact ⟨hx13.trans hx4,hr4.own.own.mono (by omega)⟩
 have hk:k<U.length:=by omega
 have hi:=hUm U[k] (List.getElem_mem _)
 have hfs:=zep (f:=zoQ c) hk
 have hlk:=zjw hc (U.take k) (by rw [List.length_take];omega)
 refine zad u25 ty3 (i:=k) ho3.is (by rw [zae];exact hk) fun b5 o5 hA5=>?_
 rw [zaM] at hA5
 generalize U[k]=i at *
 refine zac ty3 hA5 hx4 fun _=>?_
 have hxd:=zaj w4
 have hx35:=hx4.trans hxd
 have hr5:=hr4.ext hxd
 have hsd:=hxd.size
 generalize World.drew1 w4=w5 at *
 have e5:=e0.trans (hx13.trans hx35)
 refine NIL.mk rfl ?_
 refine zaa za5 ?_
 refine zab zbm hW.wl.code e5 fun v21 h21=>?_
 refine zad u25 ty3 (i:=i) hMu (by rw [zae,zg4];exact hi) fun b6 o6 hA6=>?_
 rw [zaK] at hA6
 refine zac ty3 hA6 hx35 fun _=>?_
 have hm64:=zdC (zlh c) i
 refine (zmu (a:=(i:Int)) (held:=(zaw (zhI c) i:Nat)) h21 e5 hc (by omega) (by omega) (by unfold I64;omega)).mono ?_
 rintro v27 w6 ⟨hx6,ho6⟩
 refine ⟨hx6,?_⟩
 have h12:(zoQ c i).length≤12:=zfm hc (i:Int) (zaw (zhI c) i:Nat)
 have hs34:=hx4.size
 have hs56:=hx6.size
 refine zdR (m:=zoQ c i) u62 ze3 zug (hr5.ext hx6) (by omega) ho6.is (Ext.refl _) (by rw [zap];omega) (by omega) fun v28 w7 hc7 hr7=>?_
 refine zaf (by omega) ?_
 refine ⟨mk-1,by omega,k+1,by omega,v28,rfl,by omega,(hx35.trans hx6).chgI hc7 (Nat.le_refl _),?_⟩
 rw [hfs];exact hr7
theorem zmH {w W0:World} {v0:Value} {c:DCode} (h0:Is W0 v0 c) (e0:Ext W0 w) (hc:CodeR c) :
   CALL Tryz.prog 125 [v0] w fun v w'=>Ext w w'∧Own w.heap.size w' v (zfM c):=by
 refine F125_call ?_
 unfold F125
 have hil:=hc.f.ins
 refine zaV h0 e0 fun w1 hx1 hA=>?_
 refine zaP (α:=DTouch) u62 ze3 fun a7 w2 hx2 hr2=>?_
 refine zab zbm hA hx2 fun v8 h8=>?_
 refine (zpq h8 hx2 hc).mono ?_
 rintro v9 w3 ⟨hx3,ho3⟩
 have hx13:=hx2.trans hx3
 refine zab zbm hA hx13 fun v10 h10=>?_
 refine (zrp h10 hx13 hc).mono ?_
 rintro _ w4 ⟨hx4,gw,rfl,hmet,hmay⟩
 have hx14:=hx13.trans hx4
 have hMu:=ho3.is.ext hx4
 refine NIL.mk rfl ?_
 refine zaa zhk ?_
 refine zab zdc hmet (Ext.refl _) fun v14 hMe=>?_
 have hml:(zox c).length=c.ins.length:=by unfold zox;rw [zam]
 have hs1:=hx1.size
 have hs14:=hx14.size
 refine zas c.ins.length (fun k us w'=>∃ out,us=[out,.int .i64 (k:Int)]∧k≤c.ins.length∧Ext w4 w'∧RowI w4.heap.size w'.heap.size 87 w' out ((zbn k (MetP c)).flatMap (zoQ c))) 0 (Nat.zero_le _) ⟨_,rfl,Nat.zero_le _,Ext.refl _,zcD _ _ _ _ _⟩ ?_
 rintro i mk u w5 hkm ⟨out,hu,hkl,hx5,hr5⟩
 obtain ⟨hu1,hu2⟩:=zcC hu
 rw [hu1,hu2]
 have hx15:=hx14.trans hx5
 refine zaa zaG ?_
 refine zab zcO (zal hA) hx15 fun v17 h17=>?_
 refine zag u26 h17 ?_
 refine zah ?_
 refine br (fun hlt=>?_) (fun hge=>?_)
 case refine_2=>
   have hke:i=c.ins.length:=by omega
   rw [hke] at hr5
   exact ⟨hx1.trans hx15,hr5.own.own.mono (by omega)⟩
 have hi:i<c.ins.length:=by omega
 have hmk:=zaO (ms:=zox c) (i:=i) (by rw [hml];exact hi)
 have hiff:(zox c)[i]=true↔MetP c i:=by
   rw [←hmk];unfold zox;rw [zaH];exact ⟨fun h=>h.2,fun h=>⟨hi,h⟩⟩
 refine zad zcX ty4 (i:=i) hMe (by rw [hml];exact hi) fun b6 o6 hA6=>?_
 refine zaz ty4 hA6 hx5 ?_
 refine zbw (fun ht=>?_) (fun hf=>?_)
 case refine_2=>
   have hnm:¬MetP c i:=fun h=>by rw [hiff.2 h] at hf;cases hf
   refine zaf (by omega) ?_
   exact ⟨mk-1,by omega,i+1,by omega,out,rfl,by omega,hx5,by rw [zfd hnm];exact hr5⟩
 have hM:=hiff.1 ht
 have hfs:(zbn (i+1) (MetP c)).flatMap (zoQ c)=(zbn i (MetP c)).flatMap (zoQ c)++zoQ c i:=by
   rw [zfc hM,List.flatMap_append];simp
 have hlk:=zjw hc (zbn i (MetP c)) (by have:=za6 (n:=i) (p:=MetP c);omega)
 have hxd:=zaj w5
 have hx46:=hx5.trans hxd
 have hr6:=hr5.ext hxd
 have hsd:=hxd.size
 generalize World.drew1 w5=w6 at *
 refine zab zbm hA (hx14.trans hx46) fun v27 h27=>?_
 refine zad u25 ty3 (i:=i) hMu (by rw [zae,zg4];exact hi) fun b7 o7 hA7=>?_
 rw [zaK] at hA7
 refine zac ty3 hA7 hx46 fun _=>?_
 have hm64:=zdC (zlh c) i
 refine (zsv (a:=(i:Int)) (held:=(zaw (zhI c) i:Nat)) h27 (hx14.trans hx46) hc (by omega) (by omega) (by unfold I64;omega)).mono ?_
 rintro v33 w7 ⟨hx7,ho7⟩
 refine ⟨hx7,?_⟩
 have h12:(zoQ c i).length≤12:=zfm hc (i:Int) (zaw (zhI c) i:Nat)
 have hs45:=hx5.size
 have hs67:=hx7.size
 refine zdR (m:=zoQ c i) u62 ze3 zug (hr6.ext hx7) (by omega) ho7.is (Ext.refl _) (by rw [zap];omega) (by omega) fun v34 w8 hc8 hr8=>?_
 refine zaf (by omega) ?_
 refine ⟨mk-1,by omega,i+1,by omega,v34,rfl,by omega,(hx46.trans hx7).chgI hc8 (Nat.le_refl _),?_⟩
 rw [hfs];exact hr8
def F193 (a0:Value) (w:World) (R:VW):Prop:=
 oP (Instr.box 28 a0) w fun x1 w=>
 rL 28 x1 w fun x13=>
 cL 241 [x13] w fun x14 w=>
 oP (Instr.buildSlice 203 0 #[]) w fun x15 w=>
 oP (Instr.buildSlice 135 0 #[]) w fun x16 w=>
 LOOPI [4,5,6] [x15,x16,(iV 0)] w fun u5 w next5=>
 rF 28 x1 2 w fun x18=>
 rL 24 x18 w fun x19=>
 rN 24 3 x19 w fun x20=>
 rC (u5 6) x20 w fun x21=>
 BR x21
 (rL 28 x1 w fun x25=>
 cL 251 [x25,(u5 6)] w fun x27 w=>
 oP (Instr.buildSlice 203 1 #[(0,x27)]) w fun x28 w=>
 oP (Builtin.append_ #[203,203] 203 [(u5 4),x28].toArray) w fun x29 w=>
 rX 135 x14 (u5 6) w fun x33=>
 rL 4 x33 w fun x34=>
 BR x34
 (rL 28 x1 w fun x36=>
 cL 252 [x36,(u5 6)] w fun x38 w=>
 oP (Instr.buildSlice 135 1 #[(0,x38)]) w fun x40 w=>
 oP (Builtin.append_ #[135,135] 135 [(u5 5),x40].toArray) w fun x41 w=>
 rA (u5 6) (iV 1) w fun x23=>
 next5 [x29,x41,x23] w)
 (oP (Instr.buildSlice 135 1 #[(0,(Value.bool false))]) w fun x40 w=>
 oP (Builtin.append_ #[135,135] 135 [(u5 5),x40].toArray) w fun x41 w=>
 rA (u5 6) (iV 1) w fun x23=>
 next5 [x29,x41,x23] w))
 (oP (Instr.buildSlice 203 0 #[]) w fun x42 w=>
 LOOPI [7,8] [x42,(iV 0)] w fun u11 w next11=>
 rF 28 x1 2 w fun x44=>
 rL 24 x44 w fun x45=>
 rN 24 3 x45 w fun x46=>
 rC (u11 8) x46 w fun x47=>
 BR x47
 (rF 28 x1 2 w fun x50=>
 rL 24 x50 w fun x51=>
 rN 24 3 x51 w fun x52=>
 oP (Instr.makeSlice 135 x52 x52) w fun x53 w=>
 LOOPI [10] [(iV 0)] w fun u15 w next15=>
 rF 28 x1 2 w fun x55=>
 rL 24 x55 w fun x56=>
 rN 24 3 x56 w fun x57=>
 rC (u15 10) x57 w fun x58=>
 BR x58
 (LOOPI [11] [(iV 0)] w fun u18 w next18=>
 rF 28 x1 2 w fun x62=>
 rL 24 x62 w fun x63=>
 rN 24 3 x63 w fun x64=>
 rC (u18 11) x64 w fun x65=>
 BR x65
 (LOOPI [12] [(iV 0)] w fun u21 w next21=>
 rF 28 x1 2 w fun x69=>
 rL 24 x69 w fun x70=>
 rN 24 3 x70 w fun x71=>
 rC (u21 12) x71 w fun x72=>
 BR x72
 (rX 135 x14 (u18 11) w fun x77=>
 rL 4 x77 w fun x78=>
 BR x78
 (rX 135 x14 (u21 12) w fun x82=>
 rL 4 x82 w fun x83=>
 BR x83
 (rX 203 (u5 4) (u18 11) w fun x88=>
 rL 135 x88 w fun x89=>
 rX 135 x89 (u11 8) w fun x91=>
 rL 4 x91 w fun x92=>
 BR x92
 (rX 203 (u5 4) (u21 12) w fun x97=>
 rL 135 x97 w fun x98=>
 rX 135 x98 (u15 10) w fun x100=>
 rL 4 x100 w fun x101=>
 BR x101
 (rB .neq 3 T0 T0 (u18 11) (u21 12) w fun x106=>
 GBR x106
 (rX 135 x53 (u15 10) w fun x117=>
 oS 4 x117 (Value.bool true) w fun w=>
 rA (u21 12) (iV 1) w fun x74=>
 next21 [x74] w)
 (rX 135 (u5 5) (u18 11) w fun x110=>
 rL 4 x110 w fun x111=>
 rD (Op.unary .not x111) w fun x112=>
 BR x112
 (rX 135 x53 (u15 10) w fun x117=>
 oS 4 x117 (Value.bool true) w fun w=>
 rA (u21 12) (iV 1) w fun x74=>
 next21 [x74] w)
 (rA (u21 12) (iV 1) w fun x74=>
 next21 [x74] w))
 (BR undef
 (rX 135 x53 (u15 10) w fun x117=>
 oS 4 x117 (Value.bool true) w fun w=>
 rA (u21 12) (iV 1) w fun x74=>
 next21 [x74] w)
 (BR undef
 (rX 135 x53 (u15 10) w fun x117=>
 oS 4 x117 (Value.bool true) w fun w=>
 rA (u21 12) (iV 1) w fun x74=>
 next21 [x74] w)
 (rA (u21 12) (iV 1) w fun x74=>
 next21 [x74] w))))
 (rA (u21 12) (iV 1) w fun x74=>
 next21 [x74] w))
 (rA (u21 12) (iV 1) w fun x74=>
 next21 [x74] w))
 (rA (u21 12) (iV 1) w fun x74=>
 next21 [x74] w))
 (rA (u21 12) (iV 1) w fun x74=>
 next21 [x74] w))
 (rA (u18 11) (iV 1) w fun x67=>
 next18 [x67] w))
 (rA (u15 10) (iV 1) w fun x60=>
 next15 [x60] w))
 (oP (Instr.buildSlice 203 1 #[(0,x53)]) w fun x120 w=>
 oP (Builtin.append_ #[203,203] 203 [(u11 7),x120].toArray) w fun x121 w=>
 rA (u11 8) (iV 1) w fun x49=>
 next11 [x121,x49] w))
 (R (u11 7) w))
def cfg193:Cfg:=⟨extL,[],[(5,4398046380144,[4,5,6]),(11,5316911983139663491615219445028364160,[7,8]),(15,332306998946228968207937366560611328,[10]),(18,332306998946228965920108755856398336,[11]),(21,332306998946228673078046585717264384,[12])],[],[],[],[]⟩
theorem F193_call {a0:Value} {w:World} {R:VW} (h:F193 a0 w R):cL 193 [a0] w R:=co (g:=cfg193) Tryz.func193 (by kernel_rfl) (by kernel_rfl) (by kernel_rfl) h
open Rep (rep)
theorem zrB {b:Bool} {Q kt kf ks:Prop} (hq:b=true→Q) (key:Q→kt) (rest:(Q→kt)→b=false→kf):GBR (.bool b) kt kf ks:=
 ztj (fun h=>key (hq h)) (fun h=>rest key h)
structure KQ2 (Q:List Nat→World→Prop):Prop where
 keep:∀ {F:List Nat} {w w':World},Q F w→(∀ b∈F,w'.heap[b]?=w.heap[b]?)→Q F w'
 lt:∀ {F:List Nat} {w:World},Q F w→∀ b∈F,b<w.heap.size
structure TT (Q1 Q2:List Nat→World→Prop) (wb w:World) (F1 F2:List Nat):Prop where
 ext:Ext wb w
 q1:Q1 F1 w
 q2:Q2 F2 w
 b1:∀ b∈F1,wb.heap.size≤b
 b2:∀ b∈F2,wb.heap.size≤b
 dis:∀ b∈F1,b∉F2
section
variable {Q1 Q1' Q2:List Nat→World→Prop} {wb w w1 w':World} {F1 F2 F':List Nat}
theorem TT.swap (h:TT Q1 Q2 wb w F1 F2):TT Q2 Q1 wb w F2 F1:=⟨h.ext,h.q2,h.q1,h.b2,h.b1,fun b hb hF=>h.dis b hF hb⟩
theorem TT.step (k1:KQ2 Q1) (k2:KQ2 Q2) (h:TT Q1 Q2 wb w F1 F2) (hx:Ext w w'):TT Q1 Q2 wb w' F1 F2:=
 ⟨h.ext.trans hx,k1.keep h.q1 fun b hb=>hx.heap (k1.lt h.q1 b hb),k2.keep h.q2 fun b hb=>hx.heap (k2.lt h.q2 b hb),h.b1,h.b2,h.dis⟩
theorem TT.grow (k1:KQ2 Q1) (k2:KQ2 Q2) (h:TT Q1 Q2 wb w F1 F2) {GX:List Nat} (hx:Ext w w1) (hc:Chg F1 w1 w') (hr:Q1' F' w') (hs:∀ c∈F',c∈F1∨c∈GX∨w.heap.size≤c) (hG:∀ c∈GX,wb.heap.size≤c∧c∉F2):TT Q1' Q2 wb w' F' F2:=by
 have h1:=h.step k1 k2 hx
 refine ⟨h1.ext.chgF hc h.b1,hr,k2.keep h1.q2 fun b hb=>hc.block b (k2.lt h1.q2 b hb) fun hF=>h.dis b hF hb,fun b hb=>?_,h.b2,fun b hb hF=>?_⟩
 · rcases hs b hb with h2 | h2 | h2
   · exact h.b1 b h2
   · exact (hG b h2).1
   have:=h.ext.size;omega
 rcases hs b hb with h2 | h2 | h2
 · exact h.dis b h2 hF
 · exact (hG b h2).2 hF
 have:=k2.lt h.q2 b hF;omega
end
def zsA {α:Type} [Rep α] (e:TypeId) (v:Value) (L:List α) (F:List Nat) (w:World):Prop:=RowG F e w v L∧F.Nodup
theorem zh8 {α:Type} [Rep α] (e:TypeId) (v:Value) (L:List α):KQ2 (zsA e v L):=⟨fun h hk=>⟨h.1.keep hk,h.2⟩,fun h=>h.1.lt⟩
def zhd (c:DCode) (a b r s:Nat):Prop:=RootP c r∧RootP c s∧FromP c r a∧FromP c s b∧(r≠s∨¬zdO c r)
def zf5 (c:DCode) (a b:Nat):Prop:=∃ r s,zhd c a b r s
noncomputable instance (c:DCode) (r:Nat):Decidable (RootP c r):=Classical.propDecidable _
noncomputable def zhb (c:DCode) (k:Nat):List (List Bool):=(List.range k).map fun r=>zbP c.procs.length (FromP c r)
noncomputable def zhP (c:DCode) (k:Nat):List Bool:=(List.range k).map fun r=>decide (RootP c r∧zdO c r)
noncomputable def zpK (c:DCode) (k:Nat):List (List Bool):=(List.range k).map fun a=>zbP c.procs.length (zf5 c a)
theorem zpz (c:DCode) (k:Nat):zhb c (k+1)=zhb c k++[zbP c.procs.length (FromP c k)]:=by unfold zhb;rw [List.range_succ,List.map_append];rfl
theorem zpA (c:DCode) (k:Nat):zhP c (k+1)=zhP c k++[decide (RootP c k∧zdO c k)]:=by unfold zhP;rw [List.range_succ,List.map_append];rfl
theorem zrC (c:DCode) (k:Nat):zpK c (k+1)=zpK c k++[zbP c.procs.length (zf5 c k)]:=by unfold zpK;rw [List.range_succ,List.map_append];rfl
theorem mine_bool {w:World} (b:Bool):Mine [] w (.bool b) b:=by
 exact ⟨⟨_,⟨rfl,rfl⟩,rfl⟩,List.nodup_nil,Wr.nil _⟩
theorem znH {w W0:World} {v0:Value} {c:DCode} (h0:Is W0 v0 c) (e0:Ext W0 w) (hc:CodeR c) :
   CALL Tryz.prog 193 [v0] w fun v w'=>Ext w w'∧Own w.heap.size w' v (zpK c c.procs.length):=by
 refine F193_call ?_
 unfold F193
 have h8:=hc.1.procs8
 have he:=hc.2.1.1
 refine zaV h0 e0 fun w1 hx1 hA=>?_
 refine zab zbm hA (Ext.refl _) fun v13 h13=>?_
 refine (zfk h13 (Ext.refl _) hc).mono ?_
 rintro v14 w2 ⟨hx2,ho2⟩
 refine zaP (α:=List Bool) ztr zdc fun a15 w3 hx3 _=>?_
 refine zaP (α:=Bool) zcX ty4 fun a16 wb hx4 _=>?_
 have hx24:=hx3.trans hx4
 have hx14:=hx2.trans hx24
 have hRt:=ho2.is.ext hx24
 have hs1:=hx1.size
 have hs14:=hx14.size
 have hT0:TT (zsA 135 (.slice (some a15) 0 0) (zhb c 0)) (zsA 4 (.slice (some a16) 0 0) (zhP c 0)) wb wb [] []:=
   ⟨Ext.refl _,⟨.inl ⟨_,rfl,rfl,rfl⟩,List.nodup_nil⟩,⟨.inl ⟨_,rfl,rfl,rfl⟩,List.nodup_nil⟩,by simp,by simp,by simp⟩
 refine zas c.procs.length (fun k us w'=>∃ fv sv F1 F2,us=[fv,sv,.int .i64 (k:Int)]∧k≤c.procs.length∧TT (zsA 135 fv (zhb c k)) (zsA 4 sv (zhP c k)) wb w' F1 F2) 0 (Nat.zero_le _) ⟨_,_,_,_,rfl,Nat.zero_le _,hT0⟩ ?_
 rintro k mk u w5 hkm ⟨fv,sv,F1,F2,hu,hkl,hT5⟩
 obtain ⟨hu1,hu2,hu3⟩:=zvD hu
 rw [hu1,hu2,hu3]
 have hx15:=hx14.trans hT5.ext
 refine zaa zbb ?_
 refine zab zcj (zat hA) hx15 fun v19 h19=>?_
 refine zag u24 h19 ?_
 refine zah ?_
 have hfl:(zhb c k).length=k:=by simp [zhb]
 have hsl:(zhP c k).length=k:=by simp [zhP]
 refine br (fun hlt=>?_) (fun hge=>?_)
 case refine_1=>
   have hk:k<c.procs.length:=by omega
   refine zab zbm hA hx15 fun v25 h25=>?_
   refine (zfg (a:=k) h25 hx15 hc hk).mono ?_
   rintro v27 w6 ⟨hx6,m,rfl,hm6,hM6⟩
   have hT6:=hT5.step (zh8 _ _ _) (zh8 _ _ _) hx6
   have hm2:m∉F2:=fun hF=>by have:=hT5.q2.1.lt m hF;omega
   have hm1:m∉F1:=fun hF=>by have:=hT5.q1.1.lt m hF;omega
   have hs5:=hT5.ext.size
   have hMe:(zbP c.procs.length fun i=>i=k∨RP (zjl c) k i)=zbP c.procs.length (FromP c k):=rfl
   rw [hMe] at hM6
   refine ze8 (x:=zbP c.procs.length (FromP c k)) (K:=fun _=>_) ztr zdc zvp zuw (by decide) hT6.q1.1 hT6.q1.2 hM6 (fun b hb hF=>by simp at hb;subst hb;exact hm1 hF) (by rw [zap];omega) (by omega) (fun w7 v' w8 G' hx7 hc7 hr7 hn7 hs7=>?_) fun _ _ _ h=>h
   rw [←zpz] at hr7
   have hT8:=hT6.grow (Q1':=zsA 135 v' (zhb c (k+1))) (zh8 _ _ _) (zh8 _ _ _) hx7 hc7 ⟨hr7,hn7⟩ hs7 fun b hb=>by
     simp only [List.mem_cons,List.not_mem_nil,or_false] at hb
     subst hb
     exact ⟨by omega,hm2⟩
   have hx58:Ext wb w8:=hT8.ext
   have hmk:=zaH (n:=c.procs.length) (p:=RootP c) (i:=k)
   rw [zaO (by rw [zam];exact hk)] at hmk
   have hfin:∀ {w9:World} (x:Bool),(x=decide (RootP c k∧zdO c k))→Ext w8 w9→OP Tryz.prog (Instr.buildSlice 135 1 #[(0,.bool x)]) w9 fun x40 w=>OP Tryz.prog (Builtin.append_ #[135,135] 135 [sv,x40].toArray) w fun x41 w=>RD Tryz.prog (bin .add 3 (.tmp 0) (.const undef) (.int .i64 (k:Int)) (.int .i64 1)) w fun x23=>∃ m',m'<mk∧∃ k',k'+m'=c.procs.length∧∃ fv sv F1 F2,[v',x41,x23]=[fv,sv,.int .i64 (k':Int)]∧k'≤c.procs.length∧TT (zsA 135 fv (zhb c k')) (zsA 4 sv (zhP c k')) wb w F1 F2:=fun {w9} x hx9e hx9=>by
     have hT9:=hT8.step (zh8 _ _ _) (zh8 _ _ _) hx9
     refine ze8 (x:=x) (K:=fun _=>_) zcX ty4 z4 zc4 (by decide) hT9.q2.1 hT9.q2.2 (mine_bool x) (by simp) (by rw [zap];omega) (by omega) (fun w10 v'' w11 G'' hx10 hc10 hr10 hn10 hs10=>?_) fun _ _ _ h=>h
     rw [hx9e,←zpA] at hr10
     have hT11:=(hT9.swap.grow (Q1':=zsA 4 v'' (zhP c (k+1))) (zh8 _ _ _) (zh8 _ _ _) (GX:=[]) hx10 hc10 ⟨hr10,hn10⟩ hs10 (by simp)).swap
     refine zaf (by omega) ?_
     exact ⟨mk-1,by omega,k+1,by omega,v',v'',_,_,rfl,by omega,hT11⟩
   refine zad zcX ty4 (i:=k) hRt (by rw [zam];exact hk) fun b9 o9 hA9=>?_
   refine zaz ty4 hA9 hx58 ?_
   refine zbw (fun hf=>?_) (fun hf=>?_)
   · have hR:=(hmk.1 hf).2
     refine zab zbm hA (hx14.trans hx58) fun v36 h36=>?_
     refine (zmE (r:=k) h36 (hx14.trans hx58) hc).mono ?_
     rintro _ w9 ⟨hx9,rfl⟩
     exact hfin _ (by rw [decide_eq_decide];exact ⟨fun h=>⟨hR,h⟩,fun h=>h.2⟩) hx9
   have hR:¬RootP c k:=fun h=>by rw [hmk.2 ⟨hk,h⟩] at hf;cases hf
   exact hfin false (by rw [decide_eq_false fun h=>hR h.1]) (Ext.refl _)
 have hke:k=c.procs.length:=by omega
 rw [hke] at hT5
 clear hfl hsl
 have hFr:=hT5.q1.1.own.is
 have hSi:=hT5.q2.1.own.is
 have hs5:=hT5.ext.size
 refine zaP (α:=List Bool) ztr zdc fun a42 wT hx42 _=>?_
 have hx1T:=hx15.trans hx42
 have hx5T:=hx42
 have hsT:=hx42.size
 have hRtT:Ext wb wT:=hT5.ext.trans hx42
 refine zas c.procs.length (fun k us w'=>∃ ov FO,us=[ov,.int .i64 (k:Int)]∧k≤c.procs.length∧Ext wT w'∧RowG FO 135 w' ov (zpK c k)∧FO.Nodup∧∀ b∈FO,wT.heap.size≤b) 0 (Nat.zero_le _) ⟨_,[],rfl,Nat.zero_le _,Ext.refl _,.inl ⟨_,rfl,rfl,rfl⟩,List.nodup_nil,by simp⟩ ?_
 rintro a mk2 u2 w6 hkm2 ⟨ov,FO,hu6,hal,hx6,hr6,hn6,hb6⟩
 obtain ⟨hu61,hu62⟩:=zcC hu6
 rw [hu61,hu62]
 refine zaa zbb ?_
 refine zab zcj (zat hA) (hx1T.trans hx6) fun v45 h45=>?_
 refine zag u24 h45 ?_
 refine zah ?_
 refine br (fun hlt2=>?_) (fun hge2=>?_)
 case refine_2=>
   have hke2:a=c.procs.length:=by omega
   rw [hke2] at hr6
   exact ⟨hx1.trans (hx1T.trans hx6),FO,⟨hr6.own,hn6,hr6.wr⟩,fun b hb=>by have:=hb6 b hb;have:=hx1T.size;omega⟩
 have ha:a<c.procs.length:=by omega
 refine zaa zbb ?_
 refine zab zcj (zat hA) (hx1T.trans hx6) fun v51 h51=>?_
 refine zag u24 h51 ?_
 refine zdL h8.2 (by omega) fun w7 hx7 hM7=>?_
 have hs7:=hx7.size
 generalize hg:w6.heap.size=g at *
 have hgl:g<w7.heap.size:=hM7.lt g (by simp)
 have hs6T:=hx6.size
 have hgO:g∉FO:=fun hF=>by have:=hr6.lt g hF;omega
 rw [zdm c.procs.length (p:=fun q=>q<0∧zf5 c a q) (fun i h=>by omega)] at hM7
 generalize hn:c.procs.length=n at *
 refine zas n (fun b us w'=>us=[.int .i64 (b:Int)]∧b≤n∧ChgI g (g+1) w7 w'∧Mine [g] w' (.slice (some ⟨g,0,none⟩) n n) (zbP n fun q=>q<b∧zf5 c a q)) 0 (Nat.zero_le _) ⟨rfl,Nat.zero_le _,ChgI.refl _,hM7⟩ ?_
 rintro b mk3 u3 w8 hkm3 ⟨hu8,hbl,hc8,hM8⟩
 simp only [List.map_cons,List.map_nil,List.cons.injEq,and_true] at hu8
 rw [hu8]
 have hTx:∀ {w:World},ChgI g (g+1) w7 w→Ext wT w:=fun h=>(hx6.trans hx7).chgI h (by omega)
 refine zaa zbb ?_
 refine zab zcj (zat hA) (hx1T.trans (hTx hc8)) fun v56 h56=>?_
 refine zag u24 h56 ?_
 rw [hn]
 refine zah ?_
 refine br (fun hlt3=>?_) (fun hge3=>?_)
 case refine_2=>
   have hbe:b=n:=by omega
   have:(zbP n fun q=>q<b∧zf5 c a q)=zbP n (zf5 c a):=zbD fun q hq=>⟨fun h=>h.2,fun h=>⟨by omega,h⟩⟩
   rw [this] at hM8
   have hr8:RowG FO 135 w8 ov (zpK c a):=hr6.keep fun q hq=>by
     have h1:=hr6.lt q hq
     rw [hc8.block q (by omega) (by have:q≠g:=fun e=>hgO (e▸hq);omega),hx7.heap (by omega)]
   have htl:(zpK c a).length=a:=by simp [zpK]
   refine ze8 (x:=zbP n (zf5 c a)) (K:=fun _=>_) ztr zdc zvp zuw (by decide) hr8 hn6 hM8 (fun q hq hF=>by simp at hq;subst hq;exact hgO hF) (by rw [zap];omega) (by omega) (fun w9 v' w10 G' hx9 hc9 hr9 hn9 hs9=>?_) fun _ _ _ h=>h
   have hs8:=hc8.size
   refine zaf (by omega) ?_
   refine ⟨mk2-1,by omega,a+1,by omega,v',G',rfl,by omega,((hTx hc8).trans hx9).chgF hc9 hb6,?_,hn9,fun q hq=>?_⟩
   · rw [zrC,hn];exact hr9
   rcases hs9 q hq with h | h | h
   · exact hb6 q h
   · simp at h;omega
   have:=(hTx hc8).size;omega
 have hb:b<n:=by omega
 have hM8':Mine [g] w8 (.slice (some ⟨g,0,none⟩) n n) (zbP n fun q=>(q<b∧zf5 c a q)∨(q=b∧∃ r,r<0∧∃ s,zhd c a b r s)):=by
   have:(zbP n fun q=>(q<b∧zf5 c a q)∨(q=b∧∃ r,r<0∧∃ s,zhd c a b r s))=zbP n fun q=>q<b∧zf5 c a q:=zbD fun q _=>⟨fun h=>h.resolve_right fun ⟨_,r,h,_⟩=>by omega,.inl⟩
   rw [this];exact hM8
 refine zas n (fun r us w'=>us=[.int .i64 (r:Int)]∧r≤n∧ChgI g (g+1) w7 w'∧Mine [g] w' (.slice (some ⟨g,0,none⟩) n n) (zbP n fun q=>(q<b∧zf5 c a q)∨(q=b∧∃ r',r'<r∧∃ s,zhd c a b r' s))) 0 (Nat.zero_le _) ⟨rfl,Nat.zero_le _,hc8,hM8'⟩ ?_
 rintro r mk4 u4 w9 hkm4 ⟨hu9,hrl,hc9,hM9⟩
 simp only [List.map_cons,List.map_nil,List.cons.injEq,and_true] at hu9
 rw [hu9]
 refine zaa zbb ?_
 refine zab zcj (zat hA) (hx1T.trans (hTx hc9)) fun v63 h63=>?_
 refine zag u24 h63 ?_
 rw [hn]
 refine zah ?_
 have hlts:∀ {r s},zhd c a b r s→r<n∧s<n:=fun h=>⟨hn▸h.1.lt hc,hn▸h.2.1.lt hc⟩
 refine br (fun hlt4=>?_) (fun hge4=>?_)
 case refine_2=>
   have:(zbP n fun q=>(q<b∧zf5 c a q)∨(q=b∧∃ r',r'<r∧∃ s,zhd c a b r' s))=zbP n fun q=>q<b+1∧zf5 c a q:=zbD fun q _=>by
     constructor
     · rintro (h | ⟨rfl,r',_,s,h⟩)
       · exact ⟨by omega,h.2⟩
       exact ⟨by omega,r',s,h⟩
     rintro ⟨h1,h2⟩
     by_cases e:q=b
     · subst e
       obtain ⟨r',s,h⟩:=h2
       exact .inr ⟨rfl,r',by have:=(hlts h).1;omega,s,h⟩
     exact .inl ⟨by omega,h2⟩
   rw [this] at hM9
   refine zaf (by omega) ?_
   exact ⟨mk3-1,by omega,b+1,by omega,rfl,by omega,hc9,hM9⟩
 have hr:r<n:=by omega
 have hM9':Mine [g] w9 (.slice (some ⟨g,0,none⟩) n n) (zbP n fun q=>(q<b∧zf5 c a q)∨(q=b∧((∃ r',r'<r∧∃ s,zhd c a b r' s)∨∃ s,s<0∧zhd c a b r s))):=by
   have:(zbP n fun q=>(q<b∧zf5 c a q)∨(q=b∧((∃ r',r'<r∧∃ s,zhd c a b r' s)∨∃ s,s<0∧zhd c a b r s)))=zbP n fun q=>(q<b∧zf5 c a q)∨(q=b∧∃ r',r'<r∧∃ s,zhd c a b r' s):=zbD fun q _=>or_congr Iff.rfl (and_congr Iff.rfl ⟨fun h=>h.resolve_right fun ⟨s,h,_⟩=>by omega,.inl⟩)
   rw [this];exact hM9
 refine zas n (fun s us w'=>us=[.int .i64 (s:Int)]∧s≤n∧ChgI g (g+1) w7 w'∧Mine [g] w' (.slice (some ⟨g,0,none⟩) n n) (zbP n fun q=>(q<b∧zf5 c a q)∨(q=b∧((∃ r',r'<r∧∃ s,zhd c a b r' s)∨∃ s',s'<s∧zhd c a b r s')))) 0 (Nat.zero_le _) ⟨rfl,Nat.zero_le _,hc9,hM9'⟩ ?_
 rintro s mk5 u5 w10 hkm5 ⟨hu10,hsl,hc10,hM10⟩
 simp only [List.map_cons,List.map_nil,List.cons.injEq,and_true] at hu10
 rw [hu10]
 have hx10:=hTx hc10
 refine zaa zbb ?_
 refine zab zcj (zat hA) (hx1T.trans hx10) fun v70 h70=>?_
 refine zag u24 h70 ?_
 rw [hn]
 refine zah ?_
 refine br (fun hlt5=>?_) (fun hge5=>?_)
 case refine_2=>
   have:(zbP n fun q=>(q<b∧zf5 c a q)∨(q=b∧((∃ r',r'<r∧∃ s,zhd c a b r' s)∨∃ s',s'<s∧zhd c a b r s')))=zbP n fun q=>(q<b∧zf5 c a q)∨(q=b∧∃ r',r'<r+1∧∃ s,zhd c a b r' s):=zbD fun q _=>or_congr Iff.rfl (and_congr Iff.rfl (by
     constructor
     · rintro (⟨r',h,s',h2⟩ | ⟨s',_,h2⟩)
       · exact ⟨r',by omega,s',h2⟩
       exact ⟨r,by omega,s',h2⟩
     rintro ⟨r',h,s',h2⟩
     by_cases e:r'=r
     · subst e;exact .inr ⟨s',by have:=(hlts h2).2;omega,h2⟩
     exact .inl ⟨r',by omega,s',h2⟩))
   rw [this] at hM10
   refine zaf (by omega) ?_
   exact ⟨mk4-1,by omega,r+1,by omega,rfl,by omega,hc10,hM10⟩
 have hs:s<n:=by omega
 have hskip:¬zhd c a b r s→RD Tryz.prog (bin .add 3 (.tmp 0) (.const undef) (.int .i64 (s:Int)) (.int .i64 1)) w10 fun x74=>∃ m',m'<mk5∧∃ k',k'+m'=n∧[x74]=[.int .i64 (k':Int)]∧k'≤n∧ChgI g (g+1) w7 w10∧Mine [g] w10 (.slice (some ⟨g,0,none⟩) n n) (zbP n fun q=>(q<b∧zf5 c a q)∨(q=b∧((∃ r',r'<r∧∃ s,zhd c a b r' s)∨∃ s',s'<k'∧zhd c a b r s'))):=fun hno=>by
   refine zaf (by omega) ?_
   refine ⟨mk5-1,by omega,s+1,by omega,rfl,by omega,hc10,?_⟩
   have:(zbP n fun q=>(q<b∧zf5 c a q)∨(q=b∧((∃ r',r'<r∧∃ s,zhd c a b r' s)∨∃ s',s'<s+1∧zhd c a b r s')))=zbP n fun q=>(q<b∧zf5 c a q)∨(q=b∧((∃ r',r'<r∧∃ s,zhd c a b r' s)∨∃ s',s'<s∧zhd c a b r s')):=zbD fun q _=>or_congr Iff.rfl (and_congr Iff.rfl (or_congr Iff.rfl (by
     constructor
     · rintro ⟨s',h,h2⟩
       by_cases e:s'=s
       · subst e;exact absurd h2 hno
       exact ⟨s',by omega,h2⟩
     rintro ⟨s',h,h2⟩;exact ⟨s',by omega,h2⟩)))
   rw [this];exact hM10
 have hmr:=zaH (n:=n) (p:=RootP c) (i:=r)
 have hms:=zaH (n:=n) (p:=RootP c) (i:=s)
 rw [zaO (by rw [zam];exact hr)] at hmr
 rw [zaO (by rw [zam];exact hs)] at hms
 have eRt:Ext wb w10:=hRtT.trans hx10
 refine zad zcX ty4 (i:=r) hRt (by rw [zam];exact hr) fun b1 o1 hA1=>?_
 refine zaz ty4 hA1 eRt ?_
 refine zbw (fun hf=>?_) (fun hf=>hskip fun h=>by rw [hmr.2 ⟨hr,h.1⟩] at hf;cases hf)
 have hR:=(hmr.1 hf).2
 refine zad zcX ty4 (i:=s) hRt (by rw [zam];exact hs) fun b2 o2 hA2=>?_
 refine zaz ty4 hA2 eRt ?_
 refine zbw (fun hf2=>?_) (fun hf2=>hskip fun h=>by rw [hms.2 ⟨hs,h.2.1⟩] at hf2;cases hf2)
 have hSr:=(hms.1 hf2).2
 have eF:Ext w5 w10:=hx5T.trans hx10
 have hfl2:(zhb c n).length=n:=by simp [zhb]
 have hfget:∀ (i:Nat) (hi:i<(zhb c n).length),(zhb c n)[i]=zbP n (FromP c i):=fun i hi=>by simp [zhb,hn]
 have hma:=zaH (n:=n) (p:=FromP c r) (i:=a)
 have hmb:=zaH (n:=n) (p:=FromP c s) (i:=b)
 rw [zaO (by rw [zam];exact ha)] at hma
 rw [zaO (by rw [zam];exact hb)] at hmb
 refine zad ztr zdc (i:=r) hFr (by rw [hfl2];exact hr) fun b3 o3 hA3=>?_
 rw [hfget] at hA3
 refine zab zdc hA3 eF fun v89 h89=>?_
 refine zad zcX ty4 (i:=a) h89 (by rw [zam];exact ha) fun b4 o4 hA4=>?_
 refine zaz ty4 hA4 eF ?_
 refine zbw (fun hf3=>?_) (fun hf3=>hskip fun h=>by rw [hma.2 ⟨ha,h.2.2.1⟩] at hf3;cases hf3)
 have hFa:=(hma.1 hf3).2
 refine zad ztr zdc (i:=s) hFr (by rw [hfl2];exact hs) fun b5 o5 hA5=>?_
 rw [hfget] at hA5
 refine zab zdc hA5 eF fun v98 h98=>?_
 refine zad zcX ty4 (i:=b) h98 (by rw [zam];exact hb) fun b6 o6 hA6=>?_
 refine zaz ty4 hA6 eF ?_
 refine zbw (fun hf4=>?_) (fun hf4=>hskip fun h=>by rw [hmb.2 ⟨hb,h.2.2.2.1⟩] at hf4;cases hf4)
 have hFb:=(hmb.1 hf4).2
 refine zaN ?_
 refine zrB (Q:=zhd c a b r s) (fun h=>⟨hR,hSr,hFa,hFb,.inl (by have:=of_decide_eq_true h;omega)⟩) (fun hB=>?_) (fun key h=>?_)
 · refine zbv (α:=Bool) (i:=b) rfl zcX ty4 hb ?_
   refine za0 (α:=Bool) rfl ty4 hM10 zam hb zbl fun w11 hc11 hM11=>?_
   refine zaf (by omega) ?_
   refine ⟨mk5-1,by omega,s+1,by omega,rfl,by omega,hc10.trans (zd8 hc11),?_⟩
   have hset:=zoq (n:=n) (q:=b) (p:=fun q=>(q<b∧zf5 c a q)∨(q=b∧((∃ r',r'<r∧∃ s,zhd c a b r' s)∨∃ s',s'<s∧zhd c a b r s'))) (p':=fun q=>(q<b∧zf5 c a q)∨(q=b∧((∃ r',r'<r∧∃ s,zhd c a b r' s)∨∃ s',s'<s+1∧zhd c a b r s'))) hb fun q=>by
     constructor
     · rintro (h | ⟨e,_⟩)
       · exact .inl (.inl h)
       exact .inr e
     rintro ((h | ⟨e,h | ⟨s',h1,h2⟩⟩) | e)
     · exact .inl h
     · exact .inr ⟨e,.inl h⟩
     · exact .inr ⟨e,.inr ⟨s',by omega,h2⟩⟩
     exact .inr ⟨e,.inr ⟨s,by omega,hB⟩⟩
   rw [←hset];exact hM11
 have hrs:r=s:=by have:=of_decide_eq_false h;omega
 have hsl2:(zhP c n).length=n:=by simp [zhP]
 refine zad zcX ty4 (i:=r) hSi (by rw [hsl2];exact hr) fun b7 o7 hA7=>?_
 rw [show (zhP c n)[r]'(by rw [hsl2];exact hr)=decide (RootP c r∧zdO c r) by simp only [zhP,List.getElem_map,List.getElem_range]] at hA7
 refine zaz ty4 hA7 eF ?_
 refine zaJ ?_
 refine zbw (fun hf5=>key ⟨hR,hSr,hFa,hFb,.inr fun hS=>?_⟩) (fun hf5=>hskip fun hB=>?_)
 · rw [decide_eq_true (⟨hR,hS⟩:RootP c r∧zdO c r)] at hf5;cases hf5
 rcases hB.2.2.2.2 with h2 | h2
 · exact h2 hrs
 rw [decide_eq_false (fun h3:RootP c r∧zdO c r=>h2 h3.2)] at hf5;cases hf5
instance flatRawM:Flat Raw:=⟨fun h=>h.1⟩
section
variable {w0 w w':World} {lo hi g n:Nat} {out:Value} {L:List DRace} {vs:List Raw} {T:Nat→List DTouch}
end
def zuZ (c:DCode) (s:DState):Prop:=(CodeR c∧zon c s)∧zvm c s=[]∧znm c s s.stacks.length=0
instance (c:DCode) (s:DState):Decidable (zuZ c s):=by unfold zuZ;infer_instance
theorem znI {w w0:World} {v:Value} {l:List DRace} (h:Is w0 v l) (hx:Ext w0 w) (hn:l.length≤1000000000) :
   CALL Tryz.prog 165 [v] w fun r w'=>Ext w w'∧Own w.heap.size w' r (zfq l):=by
 refine F165_call ?_
 unfold F165
 refine (zqJ h hx (by omega)).mono ?_
 rintro v1 w1 ⟨hx1,ho1⟩
 refine (zsx ho1.toI (by omega)).mono ?_
 rintro _ w2 ⟨hc2,ho2⟩
 refine (zpf ho2 (by rw [zrk];omega)).mono ?_
 rintro v3 w3 ⟨hc3,ho3⟩
 refine (zsf ho3).mono ?_
 rintro v4 w4 ⟨hx4,ho4⟩
 rw [ztY] at ho4
 exact ⟨((hx1.chgI hc2 (Nat.le_refl _)).chgI hc3 (Nat.le_refl _)).trans hx4,ho4.own⟩
theorem zpB {w W1:World} {F:List Nat} {v v1:Value} {l:List DRace} {x:DRace} (h:Mine F w v l) (h1:Is W1 v1 x) (e1:Ext W1 w) (hn:l.length≤1000000000) :
   CALL Tryz.prog 169 [v,v1] w fun r w'=>Ext w w'∧∃ F',Mine F' w' r (zj8 x l)∧∀ b∈F',b∈F∨w.heap.size≤b:=by
 refine F169_call ?_
 unfold F169
 have hI:=h.is
 refine zaV h1 e1 fun w1 hx1 hA=>?_
 refine JOIN.mk (fun us w'=>∃ k:Nat,us=[.int .i64 (k:Int)]∧Ext w1 w'∧k≤l.length∧ahd x l=k) ?_ ?_
 · refine zas l.length (fun k us w'=>us=[.int .i64 (k:Int)]∧Ext w1 w'∧k≤l.length∧∀ j (h:j<k) (h2:j<l.length),ltR l[j] x) 0 (Nat.zero_le _) ⟨rfl,Ext.refl w1,Nat.zero_le _,fun j h=>by omega⟩ ?_
   rintro k mk u w2 hkm ⟨hu,hx2,hkl,hlt⟩
   simp only [List.map_cons,List.map_nil,List.cons.injEq,and_true] at hu
   rw [hu]
   have hx3:=zaj w2
   have hx23:=hx2.trans hx3
   generalize World.drew1 w2=w3 at *
   refine zag u57 hI ?_
   refine zah ?_
   refine br (fun hk=>?_) (fun hk=>?_)
   · have hk':k<l.length:=by omega
     refine zad u57 zcG hI hk' fun b1 o1 hA1=>?_
     refine zab zcG hA1 (hx1.trans hx23) fun v15 h15=>?_
     refine zab zcG hA hx23 fun v16 h16=>?_
     refine (znC h15 (hx1.trans hx23) h16 hx23).mono ?_
     rintro _ w4 ⟨hx4,rfl⟩
     refine zbw (fun hc=>?_) (fun hc=>?_)
     · refine zaf (by omega) ?_
       refine ⟨mk-1,by omega,k+1,by omega,rfl,hx23.trans hx4,by omega,fun j hj hj2=>?_⟩
       by_cases hjk:j<k
       · exact hlt j hjk hj2
       have:j=k:=by omega
       subst this
       simpa using hc
     exact ⟨k,rfl,hx23.trans hx4,hkl,zrj hkl (fun j hj=>hlt j hj (by omega)) fun h=>by simpa using hc⟩
   exact ⟨k,rfl,hx23,hkl,zrj hkl (fun j hj=>hlt j hj (by omega)) fun h=>by omega⟩
 rintro u w2 ⟨k,hu,hx2,hkl,hak⟩
 simp only [List.map_cons,List.map_nil,List.cons.injEq,and_true] at hu
 rw [hu]
 have hput:=zoH x l
 rw [hak] at hput
 refine JOIN.mk (fun us w'=>Ext w1 w'∧zj8 x l=l.take k++(x :: l.drop k)) ?_ ?_
 · have hx3:=zaj w2
   have hx23:=hx2.trans hx3
   generalize World.drew1 w2=w3 at *
   refine zag u57 hI ?_
   refine zah ?_
   refine br (fun hk=>?_) (fun hk=>?_)
   · have hk':k<l.length:=by omega
     rw [dif_pos hk'] at hput
     refine zad u57 zcG hI hk' fun b1 o1 hA1=>?_
     refine zab zcG hA1 (hx1.trans hx23) fun v15 h15=>?_
     refine zab zcG hA hx23 fun v16 h16=>?_
     refine zjc h15 h16 ?_
     refine br (fun hc=>?_) (fun hc=>?_)
     · rw [if_pos hc] at hput
       have hx:=hx1.trans hx23
       exact ⟨hx,F,by rw [hput];exact h.ext hx,fun b hb=>.inl hb⟩
     rw [if_neg hc] at hput
     exact ⟨hx23,hput⟩
   have hk':k=l.length:=by omega
   subst hk'
   rw [dif_neg (by omega)] at hput
   exact ⟨hx23,by rw [hput];simp⟩
 rintro u6 w3 ⟨hx3,hpe⟩
 rw [hpe]
 have hx03:=hx1.trans hx3
 have hs03:=hx03.size
 refine zaP (α:=DRace) u57 zcG fun a w4 hx4 hr4=>?_
 have hs4:=hx4.size
 refine ziM (i:=(k:Int)) u57 zcG hI (by omega) (by omega) fun v37 h37=>?_
 refine zdR u57 zcG zue hr4 (Nat.le_refl _) h37 (hx03.trans hx4) (by simp [maxLen];omega) (by simp;omega) fun v38 w5 hc5 hr5=>?_
 have hs5:=hc5.size
 have hx5:=(Ext.refl w4).chgI hc5 (Nat.le_refl _)
 refine zab zcG hA (hx3.trans (hx4.trans hx5)) fun v40 h40=>?_
 refine zbV (lo2:=w5.heap.size) (hi2:=w5.heap.size) u57 zcG z60 zue (by decide) hr5 (by omega) (zir (h40.ext (hx3.trans (hx4.trans hx5)))) (Nat.le_refl _) (by omega) (by simp [maxLen];omega) (by simp;omega) fun v42 w6 hc6 hr6=>?_
 have hs6:=hc6.size
 refine ze2 (i:=(k:Int)) u57 zcG hI (by omega) (by omega) fun v46 h46=>?_
 have hx6:Ext w w6:=(hx03.trans (hx4.trans hx5)).chgI hc6 (by omega)
 refine zdR u57 zcG zue hr6 (by omega) h46 hx6 (by simp [maxLen];omega) (by simp;omega) fun v47 w7 hc7 hr7=>?_
 have hs7:=hc7.size
 refine ⟨hx6.chgI hc7 (by omega),?_⟩
 obtain ⟨F',hM,hF⟩:=hr7.own
 refine ⟨F',?_,fun b hb=>.inr (by have:=hF b hb;omega)⟩
 simpa using hM
open Classical in
noncomputable def rc1 (c:DCode) (a b:DTouch):List DRace:=if zda a b∧zf5 c (zar c a.at_).toNat (zar c b.at_).toNat then [zd9 a b] else []
theorem zt1 (c:DCode) (a b:DTouch):(rc1 c a b).length≤1:=by unfold rc1;split<;>simp
noncomputable def znJ (c:DCode) (T:List DTouch) (i:Nat):List DRace:=match T.drop i with
 | []=>[]
 | a :: r=>(a :: r).flatMap (rc1 c a)
noncomputable def zf6 (c:DCode) (T:List DTouch) (n:Nat):List DRace:=(List.range n).flatMap (znJ c T)
theorem zit {c:DCode} {T:List DTouch} {i:Nat} (hi:i<T.length):znJ c T i=(T.drop i).flatMap (rc1 c T[i]):=by
 unfold znJ
 rw [List.drop_eq_getElem_cons hi]
theorem znK (c:DCode) (a:DTouch) (L:List DTouch):(L.flatMap (rc1 c a)).length≤L.length:=by
 have:=zf3 (l:=L) (f:=rc1 c a) (B:=1) fun b _=>zt1 c a b
 omega
theorem zrD (c:DCode) (T:List DTouch) (i:Nat):(znJ c T i).length≤T.length:=by
 rcases Nat.lt_or_ge i T.length with h | h
 · rw [zit h]
   have:=znK c T[i] (T.drop i)
   rw [List.length_drop] at this
   omega
 unfold znJ
 rw [List.drop_eq_nil_of_le h];simp
theorem zjx {c:DCode} {T:List DTouch} (hT:T.length≤18000) {n:Nat} (hn:n≤18000):(zf6 c T n).length≤324000000:=by
 have h1:=zf3 (l:=List.range n) (f:=znJ c T) (B:=18000) fun i _=>Nat.le_trans (zrD c T i) hT
 rw [List.length_range] at h1
 have:n*18000≤18000*18000:=Nat.mul_le_mul_right _ hn
 unfold zf6;omega
theorem zkk (c:DCode) (T:List DTouch) (n:Nat):zf6 c T (n+1)=zf6 c T n++znJ c T n:=by
 unfold zf6;rw [List.range_succ,List.flatMap_append];simp
theorem zf4 {c:DCode} (hc:CodeR c):(zfM c).length≤18000:=zjw hc _ (Nat.le_trans za6 hc.f.ins)
structure TouR (c:DCode) (x:DTouch) (p:Nat):Prop where
 at_:x.at_=(p:Int)
 lt:p<c.ins.length
 met:MetP c p
 h0:0≤x.held
 h1:x.held≤63
theorem zlv {c:DCode} (hc:CodeR c) {x:DTouch} (h:x∈zfM c):∃ p,TouR c x p:=by
 unfold zfM at h
 obtain ⟨i,hi,hx⟩:=List.mem_flatMap.1 h
 obtain ⟨h1,h2⟩:=zeU hx
 have hm:=zdC (zlh c) i
 obtain ⟨h3,h4⟩:=zaT.1 hi
 exact ⟨i,h1,h3,h4,by omega,by omega⟩
theorem zrE (c:DCode):(zfM c).Pairwise fun a b=>a.at_≤b.at_:=by
 unfold zfM
 refine List.pairwise_flatMap.2 ⟨fun i _=>?_,?_⟩
 · refine List.pairwise_iff_forall_sublist.2 fun {a b} h=>?_
   have h1:=zeU (h.subset (by simp:a∈[a,b]))
   have h2:=zeU (h.subset (by simp:b∈[a,b]))
   rw [h1.1,h2.1];omega
 have hr:(zbn c.ins.length (MetP c)).Pairwise (fun a b=>a<b):=by
   unfold zbn
   exact List.pairwise_lt_range.filter _
 refine hr.imp fun {i j} hij x hx y hy=>?_
 have h1:=zeU hx
 have h2:=zeU hy
 rw [h1.1,h2.1];omega
theorem zkl {c:DCode} {p i j:Nat} (h:zaB c p i) (hj:j∈zax c i):zaB c p j:=by
 rcases h with rfl | h
 · exact .inr (.one hj)
 exact .inr (h.trans (.one hj))
theorem zoR {c:DCode} (hc:CodeR c) {i:Nat} (h:MetP c i):zev c i:=by
 induction h with
 | root h=>exact ⟨_,h.lt hc,.inl rfl⟩
 | call h ho _=>exact ⟨_,(zbN hc (h.lt hc) (.inl ho)).2,.inl rfl⟩
 | next _ _ hj ih=>obtain ⟨p,hp,hl⟩:=ih;exact ⟨p,hp,zkl hl hj⟩
 | back _ _ _ hj ih _=>obtain ⟨p,hp,hl⟩:=ih;exact ⟨p,hp,zkl hl hj⟩
theorem zmI {c:DCode} (hc:CodeR c) {i j:Nat} (hi:MetP c i) (hj:MetP c j):zry (rtN c i) (rtN c j) (zmF c)↔zf5 c (zar c i).toNat (zar c j).toNat:=by
 have h1:=zoR hc hi
 have h2:=zoR hc hj
 have hb:∀ k r,(rtN c k).testBit r=true↔r<c.procs.length∧RtP c k r:=fun k r=>zch
 have hs:∀ r,r<c.procs.length→RootP c r→((zmF c).testBit r=false↔¬zdO c r):=fun r hr hR=>by
   have:=zch (n:=c.procs.length) (p:=fun r=>RootP c r∧zdO c r) (i:=r)
   unfold zmF
   constructor
   · intro h hS;rw [this.2 ⟨hr,hR,hS⟩] at h;cases h
   intro h
   cases e:(zhc (fun r=>RootP c r∧zdO c r) c.procs.length).testBit r
   · rfl
   exact absurd (this.1 e).2.2 h
 constructor
 · rintro ⟨r,t,hr,ht,h⟩
   obtain ⟨hr1,_,hr2,hr3⟩:=(hb _ _).1 hr
   obtain ⟨ht1,_,ht2,ht3⟩:=(hb _ _).1 ht
   exact ⟨r,t,hr2,ht2,hr3,ht3,h.imp id (hs r hr1 hr2).1⟩
 rintro ⟨r,t,hr2,ht2,hr3,ht3,h⟩
 exact ⟨r,t,(hb _ _).2 ⟨hr2.lt hc,h1,hr2,hr3⟩,(hb _ _).2 ⟨ht2.lt hc,h2,ht2,ht3⟩,h.imp id (hs r (hr2.lt hc) hr2).2⟩
def F122 (a0:Value) (w:World) (R:VW):Prop:=
 cL 190 [a0] w fun x12 w=>
 cL 191 [a0] w fun x15 w=>
 rE x15 0 w fun x16=>
 rE x15 1 w fun x17=>
 rN 62 3 x12 w fun x19=>
 LOOPI [6,20] [(Value.slice none 0 0),(iV 0)] w fun u5 w next5=>
 rC (u5 20) x19 w fun x21=>
 BR x21
 (rX 62 x12 (u5 20) w fun x23=>
 rL 87 x23 w fun x24=>
 oP (Instr.alloc 87 true (.tuple #[])) w fun x8 w=>
 oS 87 x8 x24 w fun w=>
 rD (Instr.sliceAt 62 x12 (some (u5 20)) none none) w fun x27=>
 rN 62 3 x27 w fun x28=>
 LOOPI [6,29] [(u5 6),(iV 0)] w fun u8 w next8=>
 rC (u8 29) x28 w fun x30=>
 BR x30
 (rX 62 x27 (u8 29) w fun x31=>
 rL 87 x31 w fun x32=>
 oP (Instr.alloc 87 true (.tuple #[])) w fun x10 w=>
 oS 87 x10 x32 w fun w=>
 (fun w=>rL 87 x8 w fun x33=>
 rL 87 x10 w fun x34=>
 cL 126 [x33,x34] w fun x35 w=>
 BR x35
 (rF 87 x8 0 w fun x38=>
 rL 3 x38 w fun x39=>
 rX 25 x16 x39 w fun x40=>
 rL 3 x40 w fun x41=>
 rF 87 x10 0 w fun x43=>
 rL 3 x43 w fun x44=>
 rX 25 x16 x44 w fun x45=>
 rL 3 x45 w fun x46=>
 cL 192 [x41,x46,x17] w fun x48 w=>
 BR x48
 (rL 87 x8 w fun x51=>
 rL 87 x10 w fun x52=>
 cL 164 [x51,x52] w fun x53 w=>
 oP (Instr.buildSlice 57 1 #[(0,x53)]) w fun x54 w=>
 oP (Builtin.append_ #[57,57] 57 [(u8 6),x54].toArray) w fun x55 w=>
 rA (u8 29) (iV 1) w fun x56=>
 next8 [x55,x56] w)
 (rA (u8 29) (iV 1) w fun x56=>
 next8 [(u8 6),x56] w))
 (rA (u8 29) (iV 1) w fun x56=>
 next8 [(u8 6),x56] w)) (World.drew1 w))
 (rA (u5 20) (iV 1) w fun x57=>
 next5 [(u8 6),x57] w))
 (cL 165 [(u5 6)] w fun x59 w=>
 R x59 w)
def cfg122:Cfg:=⟨extL,[],[(5,288230376150664640,[6,20]),(8,144115187538986048,[6,29])],[(10,[0,1,2,3,4,5,6,7,8,9,10,11,12,13,14,15,16],0)],[],[],[]⟩
theorem F122_call {a0:Value} {w:World} {R:VW} (h:F122 a0 w R):cL 122 [a0] w R:=co (g:=cfg122) Tryz.func122 (by kernel_rfl) (by kernel_rfl) (by kernel_rfl) h
def F123 (a0:Value) (w:World) (R:VW):Prop:=
 oP (Instr.box 28 a0) w fun x1 w=>
 oP (Instr.buildSlice 57 0 #[]) w fun x10 w=>
 rL 28 x1 w fun x11=>
 cL 125 [x11] w fun x12 w=>
 rL 28 x1 w fun x13=>
 cL 193 [x13] w fun x14 w=>
 LOOPI [3,6] [x10,(iV 0)] w fun u5 w next5=>
 rN 62 3 x12 w fun x17=>
 rC (u5 6) x17 w fun x18=>
 BR x18
 (LOOPI [3,7] [(u5 3),(u5 6)] w fun u8 w next8=>
 rN 62 3 x12 w fun x24=>
 rC (u8 7) x24 w fun x25=>
 BR x25
 (rX 62 x12 (u5 6) w fun x30=>
 rL 87 x30 w fun x31=>
 oP (Instr.alloc 87 true (.tuple #[])) w fun x8 w=>
 oS 87 x8 x31 w fun w=>
 rX 62 x12 (u8 7) w fun x34=>
 rL 87 x34 w fun x35=>
 oP (Instr.alloc 87 true (.tuple #[])) w fun x9 w=>
 oS 87 x9 x35 w fun w=>
 (fun w=>rF 87 x8 1 w fun x36=>
 rL 3 x36 w fun x37=>
 rF 87 x9 1 w fun x38=>
 rL 3 x38 w fun x39=>
 rB .eql 3 T0 T0 x37 x39 w fun x40=>
 BR x40
 (rF 87 x8 2 w fun x42=>
 rL 4 x42 w fun x43=>
 GBR x43
 (rF 87 x8 3 w fun x50=>
 rL 3 x50 w fun x51=>
 rF 87 x9 3 w fun x52=>
 rL 3 x52 w fun x53=>
 rB .and 3 T0 T0 x51 x53 w fun x54=>
 rB .eql 3 T0 U0 x54 (iV 0) w fun x55=>
 BR x55
 (rL 28 x1 w fun x59=>
 rF 87 x8 0 w fun x60=>
 rL 3 x60 w fun x61=>
 rL 28 x1 w fun x65=>
 rF 87 x9 0 w fun x66=>
 rL 3 x66 w fun x67=>
 (fun w_=>cL 194 [x59,x61] w_ fun x62 w=>
 Ext w_ w ∧
 rX 203 x14 x62 w fun x63=>
 rL 135 x63 w fun x64=>
 (fun w_=>cL 194 [x65,x67] w_ fun x68 w=>
 Ext w_ w ∧
 rX 135 x64 x68 w fun x69=>
 rL 4 x69 w fun x70=>
 BR x70
 (rF 87 x8 1 w fun x73=>
 rL 3 x73 w fun x74=>
 rF 87 x8 0 w fun x75=>
 rL 3 x75 w fun x76=>
 rF 87 x9 0 w fun x77=>
 rL 3 x77 w fun x78=>
 rD (Instr.build 60 #[(0,x74),(1,x76),(2,x78)]) w fun x79=>
 cL 169 [(u8 3),x79] w fun x80 w=>
 rA (u8 7) (iV 1) w fun x27=>
 next8 [x80,x27] w)
 (rA (u8 7) (iV 1) w fun x27=>
 next8 [(u8 3),x27] w)) w) w)
 (rA (u8 7) (iV 1) w fun x27=>
 next8 [(u8 3),x27] w))
 (rF 87 x9 2 w fun x45=>
 rL 4 x45 w fun x46=>
 BR x46
 (rF 87 x8 3 w fun x50=>
 rL 3 x50 w fun x51=>
 rF 87 x9 3 w fun x52=>
 rL 3 x52 w fun x53=>
 rB .and 3 T0 T0 x51 x53 w fun x54=>
 rB .eql 3 T0 U0 x54 (iV 0) w fun x55=>
 BR x55
 (rL 28 x1 w fun x59=>
 rF 87 x8 0 w fun x60=>
 rL 3 x60 w fun x61=>
 rL 28 x1 w fun x65=>
 rF 87 x9 0 w fun x66=>
 rL 3 x66 w fun x67=>
 (fun w_=>cL 194 [x59,x61] w_ fun x62 w=>
 Ext w_ w ∧
 rX 203 x14 x62 w fun x63=>
 rL 135 x63 w fun x64=>
 (fun w_=>cL 194 [x65,x67] w_ fun x68 w=>
 Ext w_ w ∧
 rX 135 x64 x68 w fun x69=>
 rL 4 x69 w fun x70=>
 BR x70
 (rF 87 x8 1 w fun x73=>
 rL 3 x73 w fun x74=>
 rF 87 x8 0 w fun x75=>
 rL 3 x75 w fun x76=>
 rF 87 x9 0 w fun x77=>
 rL 3 x77 w fun x78=>
 rD (Instr.build 60 #[(0,x74),(1,x76),(2,x78)]) w fun x79=>
 cL 169 [(u8 3),x79] w fun x80 w=>
 rA (u8 7) (iV 1) w fun x27=>
 next8 [x80,x27] w)
 (rA (u8 7) (iV 1) w fun x27=>
 next8 [(u8 3),x27] w)) w) w)
 (rA (u8 7) (iV 1) w fun x27=>
 next8 [(u8 3),x27] w))
 (rA (u8 7) (iV 1) w fun x27=>
 next8 [(u8 3),x27] w))
 (BR undef
 (rF 87 x8 3 w fun x50=>
 rL 3 x50 w fun x51=>
 rF 87 x9 3 w fun x52=>
 rL 3 x52 w fun x53=>
 rB .and 3 T0 T0 x51 x53 w fun x54=>
 rB .eql 3 T0 U0 x54 (iV 0) w fun x55=>
 BR x55
 (rL 28 x1 w fun x59=>
 rF 87 x8 0 w fun x60=>
 rL 3 x60 w fun x61=>
 rL 28 x1 w fun x65=>
 rF 87 x9 0 w fun x66=>
 rL 3 x66 w fun x67=>
 (fun w_=>cL 194 [x59,x61] w_ fun x62 w=>
 Ext w_ w ∧
 rX 203 x14 x62 w fun x63=>
 rL 135 x63 w fun x64=>
 (fun w_=>cL 194 [x65,x67] w_ fun x68 w=>
 Ext w_ w ∧
 rX 135 x64 x68 w fun x69=>
 rL 4 x69 w fun x70=>
 BR x70
 (rF 87 x8 1 w fun x73=>
 rL 3 x73 w fun x74=>
 rF 87 x8 0 w fun x75=>
 rL 3 x75 w fun x76=>
 rF 87 x9 0 w fun x77=>
 rL 3 x77 w fun x78=>
 rD (Instr.build 60 #[(0,x74),(1,x76),(2,x78)]) w fun x79=>
 cL 169 [(u8 3),x79] w fun x80 w=>
 rA (u8 7) (iV 1) w fun x27=>
 next8 [x80,x27] w)
 (rA (u8 7) (iV 1) w fun x27=>
 next8 [(u8 3),x27] w)) w) w)
 (rA (u8 7) (iV 1) w fun x27=>
 next8 [(u8 3),x27] w))
 (BR undef
 (rF 87 x8 3 w fun x50=>
 rL 3 x50 w fun x51=>
 rF 87 x9 3 w fun x52=>
 rL 3 x52 w fun x53=>
 rB .and 3 T0 T0 x51 x53 w fun x54=>
 rB .eql 3 T0 U0 x54 (iV 0) w fun x55=>
 BR x55
 (rL 28 x1 w fun x59=>
 rF 87 x8 0 w fun x60=>
 rL 3 x60 w fun x61=>
 rL 28 x1 w fun x65=>
 rF 87 x9 0 w fun x66=>
 rL 3 x66 w fun x67=>
 (fun w_=>cL 194 [x59,x61] w_ fun x62 w=>
 Ext w_ w ∧
 rX 203 x14 x62 w fun x63=>
 rL 135 x63 w fun x64=>
 (fun w_=>cL 194 [x65,x67] w_ fun x68 w=>
 Ext w_ w ∧
 rX 135 x64 x68 w fun x69=>
 rL 4 x69 w fun x70=>
 BR x70
 (rF 87 x8 1 w fun x73=>
 rL 3 x73 w fun x74=>
 rF 87 x8 0 w fun x75=>
 rL 3 x75 w fun x76=>
 rF 87 x9 0 w fun x77=>
 rL 3 x77 w fun x78=>
 rD (Instr.build 60 #[(0,x74),(1,x76),(2,x78)]) w fun x79=>
 cL 169 [(u8 3),x79] w fun x80 w=>
 rA (u8 7) (iV 1) w fun x27=>
 next8 [x80,x27] w)
 (rA (u8 7) (iV 1) w fun x27=>
 next8 [(u8 3),x27] w)) w) w)
 (rA (u8 7) (iV 1) w fun x27=>
 next8 [(u8 3),x27] w))
 (rA (u8 7) (iV 1) w fun x27=>
 next8 [(u8 3),x27] w))))
 (rA (u8 7) (iV 1) w fun x27=>
 next8 [(u8 3),x27] w)) (World.drew1 w))
 (rA (u5 6) (iV 1) w fun x20=>
 next5 [(u8 3),x20] w))
 (R (u5 3) w)
def cfg123:Cfg:=⟨extL,[],[(5,2417851639229258349380552,[3,6]),(8,2417851639229258345218952,[3,7])],[(12,[0,1,2,3,4,5,6,7,8,9,10,11,12,13,14,15,16,17,18,19,20,21,22,23,24,25,29,30,31,26,27,28,32,33,34,35],4362076160)],[],[],[]⟩
theorem F123_call {a0:Value} {w:World} {R:VW} (h:F123 a0 w R):cL 123 [a0] w R:=co (g:=cfg123) Tryz.func123 (by kernel_rfl) (by kernel_rfl) (by kernel_rfl) h
open Rep (rep)
theorem zsB {w W0:World} {b:Nat} {c:DCode} (hW:WAt W0 b c) (e0:Ext W0 w) (hc:CodeR c) :
   CALL Tryz.prog 122 [.pointer (some ⟨b,0,none⟩)] w fun r w'=>Ext w w'∧Own w.heap.size w' r (zfq (zf6 c (zfM c) (zfM c).length)):=by
 refine F122_call ?_
 unfold F122
 refine (zpy hW e0 hc).mono ?_
 rintro v12 w1 ⟨hx1,ho1⟩
 refine (zpx hW (e0.trans hx1) hc).mono ?_
 rintro _ wb ⟨hx2,v16,rfl,ho2⟩
 refine zb6 rfl ?_
 refine zb6 rfl ?_
 have hx1b:=hx1.trans hx2
 have hTb:=ho1.is.ext hx2
 have hRb:=ho2.is
 have hTl:=zf4 hc
 have hTm:=fun x (hx:x∈zfM c)=>zlv hc hx
 generalize zfM c=T at *
 have hs1b:=hx1b.size
 have hsg:=zoO hc
 refine zag u62 hTb ?_
 refine zas T.length (fun k us w'=>∃ out lo hi,us=[out,.int .i64 (k:Int)]∧k≤T.length∧Ext wb w'∧wb.heap.size≤lo∧hi≤w'.heap.size∧RowI lo hi 60 w' out (zf6 c T k)) 0 (Nat.zero_le _) ⟨_,wb.heap.size,wb.heap.size,rfl,Nat.zero_le _,Ext.refl _,Nat.le_refl _,Nat.le_refl _,zc0 _ _ _ _⟩ ?_
 rintro i mk u w3 hkm ⟨out,lo0,hi0,hu,hkl,hx3,hlo0,hhi0,hr3⟩
 obtain ⟨hu1,hu2⟩:=zcC hu
 rw [hu1,hu2]
 refine zah ?_
 have hall:=zjx (c:=c) hTl (n:=i) (by omega)
 refine br (fun hlt=>?_) (fun hge=>?_)
 case refine_2=>
   have hke:i=T.length:=by omega
   rw [hke] at hr3 hall
   refine (znI hr3.is (Ext.refl _) (by omega)).mono ?_
   rintro r w4 ⟨hx4,ho4⟩
   exact ⟨hx1b.trans (hx3.trans hx4),ho4.mono (by have:=hx3.size;omega)⟩
 have hi:i<T.length:=by omega
 have hrow:=zit (c:=c) hi
 have hsuc:=zkk c T i
 obtain ⟨pa,hpa⟩:=hTm T[i] (List.getElem_mem _)
 refine zad u62 ze3 (i:=i) hTb hi fun b4 o4 hA4=>?_
 generalize hae:T[i]=a at *
 refine zab ze3 hA4 hx3 fun v24 h24=>?_
 refine zce zu5 rfl ze3 rfl h24 hx3 fun w4 hx4 hAa hVa=>?_
 have hAB4:=zgl h24 hVa rfl
 have hgl:w3.heap.size<w4.heap.size:=hVa.lt
 have hs4:=hx4.size
 refine ze2 (i:=(i:Int)) u62 ze3 hTb (by omega) (by simp;omega) fun v27 h27=>?_
 rw [Int.toNat_natCast] at h27
 have hDl:(T.drop i).length=T.length-i:=List.length_drop
 have hDm:∀ x∈T.drop i,∃ p,TouR c x p:=fun x hx=>hTm x (List.mem_of_mem_drop hx)
 generalize T.drop i=D at *
 refine zag u62 h27 ?_
 refine zas D.length (fun j us w'=>∃ out lo hi,us=[out,.int .i64 (j:Int)]∧j≤D.length∧Ext wb w'∧w4.heap.size≤w'.heap.size∧AtB wb w' w3.heap.size 0 a∧wb.heap.size≤lo∧hi≤w'.heap.size∧(w3.heap.size<lo∨hi≤w3.heap.size)∧RowI lo hi 60 w' out (zf6 c T i++(D.take j).flatMap (rc1 c a))) 0 (Nat.zero_le _) ⟨out,lo0,hi0,rfl,Nat.zero_le _,hx3.trans hx4,Nat.le_refl _,hAB4,hlo0,by omega,.inr hhi0,by simpa using hr3.ext hx4⟩ ?_
 rintro j mj u5 w5 hjm ⟨out5,lo,hi5,hu5,hjl,hx5,hs5,hAB5,hlo,hhi,hd,hr5⟩
 obtain ⟨hu51,hu52⟩:=zcC hu5
 rw [hu51,hu52]
 refine zah ?_
 refine br (fun hlt5=>?_) (fun hge5=>?_)
 case refine_2=>
   refine zaf (by omega) ?_
   refine ⟨mk-1,by omega,i+1,by omega,out5,lo,hi5,rfl,by omega,hx5,hlo,hhi,?_⟩
   rw [List.take_of_length_le (by omega)] at hr5
   rw [hsuc,hrow];exact hr5
 have hj:j<D.length:=by omega
 have hfs:=zep (f:=rc1 c a) hj
 have hrl:=znK c a (D.take j)
 have htl:=List.length_take_le' j D
 obtain ⟨pb,hpb⟩:=hDm D[j] (List.getElem_mem _)
 refine zad u62 ze3 (i:=j) h27 hj fun b6 o6 hA6=>?_
 generalize hbe:D[j]=bb at *
 refine zab ze3 hA6 hx5 fun v32 h32=>?_
 refine zce zu5 rfl ze3 rfl h32 hx5 fun w6 hx6 hAb hVb=>?_
 have hxd:=zaj w6
 have hx56:=hx6.trans hxd
 have hAbd:=hAb.ext hxd
 generalize World.drew1 w6=w7 at *
 have hAB7:=hAB5.ext hx56
 have hx7:=hx5.trans hx56
 have hAa7:=hAB7.at hx7
 have hr7:=hr5.ext hx56
 have hs57:=hx56.size
 refine zab ze3 hAa7 (Ext.refl _) fun v33 h33=>?_
 refine zab ze3 hAbd (Ext.refl _) fun v34 h34=>?_
 refine (zoG h33 (Ext.refl _) h34 (Ext.refl _)).mono ?_
 rintro _ w8 ⟨hx8,rfl⟩
 have hs78:=hx8.size
 have hno:∀ {w9:World},Ext w7 w9→¬(zda a bb∧zf5 c (zar c a.at_).toNat (zar c bb.at_).toNat)→RD Tryz.prog (bin .add 3 (.tmp 0) (.const undef) (.int .i64 (j:Int)) (.int .i64 1)) w9 fun x56=>∃ m',m'<mj∧∃ k',k'+m'=D.length∧∃ out lo hi,[out5,x56]=[out,.int .i64 (k':Int)]∧k'≤D.length∧Ext wb w9∧w4.heap.size≤w9.heap.size∧AtB wb w9 w3.heap.size 0 a∧wb.heap.size≤lo∧hi≤w9.heap.size∧(w3.heap.size<lo∨hi≤w3.heap.size)∧RowI lo hi 60 w9 out (zf6 c T i++(D.take k').flatMap (rc1 c a)):=fun hx9 hn=>by
   have:=hx9.size
   refine zaf (by omega) ?_
   refine ⟨mj-1,by omega,j+1,by omega,out5,lo,hi5,rfl,by omega,hx7.trans hx9,by omega,hAB7.ext hx9,hlo,by omega,hd,?_⟩
   rw [hfs]
   have:rc1 c a bb=[]:=by unfold rc1;rw [if_neg hn]
   rw [this,List.append_nil]
   exact hr7.ext hx9
 refine br (fun hcl=>?_) (fun hcl=>?_)
 case refine_2=>exact hno hx8 fun h=>hcl h.1
 have hRl:∀ i,i<c.ins.length→i<(zaI ((List.range c.ins.length).map (rtN c))).length:=fun i hi=>by simp [zaI];exact hi
 have hRg:∀ i (hi:i<(zaI ((List.range c.ins.length).map (rtN c))).length),(zaI ((List.range c.ins.length).map (rtN c)))[i]=((rtN c i:Nat):Int):=fun i hi=>by simp [zaI]
 have hx8b:=hx7.trans hx8
 have hAa8:=hAa7
 refine zaa zdZ ?_
 refine zac ty3 (za7 hAa7) hx8 fun _=>?_
 rw [hpa.at_]
 refine zad u25 ty3 (i:=pa) hRb (hRl pa hpa.lt) fun b9 o9 hA9=>?_
 rw [hRg] at hA9
 refine zac ty3 hA9 hx8b fun _=>?_
 refine zaa zdZ ?_
 refine zac ty3 (za7 hAbd) hx8 fun _=>?_
 rw [hpb.at_]
 refine zad u25 ty3 (i:=pb) hRb (hRl pb hpb.lt) fun b10 o10 hA10=>?_
 rw [hRg] at hA10
 refine zac ty3 hA10 hx8b fun _=>?_
 refine (zoP (zmG hc pa) (zmG hc pb) hsg).mono ?_
 rintro _ w9 ⟨hx9,x,rfl,hx⟩
 rw [zmI hc hpa.met hpb.met] at hx
 have hpa':zar c a.at_=zar c pa:=by rw [hpa.at_]
 have hpb':zar c bb.at_=zar c pb:=by rw [hpb.at_]
 have hx79:=hx8.trans hx9
 refine zbw (fun hxt=>?_) (fun hxf=>?_)
 case refine_2=>
   refine hno hx79 fun h=>?_
   have:=hx.2 (by rw [←hpa',←hpb'];exact h.2)
   rw [this] at hxf;cases hxf
 have hB:zf5 c (zar c a.at_).toNat (zar c bb.at_).toNat:=by rw [hpa',hpb'];exact hx.1 hxt
 refine zab ze3 hAa7 hx79 fun v51 h51=>?_
 refine zab ze3 hAbd hx79 fun v52 h52=>?_
 refine (zri h51 hx79 h52 hx79).mono ?_
 rintro v53 w10 ⟨hx10,ho10⟩
 have hx710:=hx79.trans hx10
 have hs710:=hx710.size
 refine zd6 (x:=zd9 a bb) u57 zcG z60 zue (by decide) (hr7.ext hx710) (ho10 0 0) (by rw [zap,List.length_append];omega) (by rw [List.length_append];omega) fun v55 w11 lo' hi' hc11 hr11 hd11=>?_
 have hs11:=hc11.size
 have hsb:=hx7.size
 refine zaf (by omega) ?_
 refine ⟨mj-1,by omega,j+1,by omega,v55,lo',hi',rfl,by omega,(hx7.trans hx710).chgI hc11 hlo,by omega,(hAB7.ext hx710).keep (hc11.block _ (by omega) hd),by omega,by omega,by omega,?_⟩
 rw [hfs]
 have:rc1 c a bb=[zd9 a bb]:=by unfold rc1;rw [if_pos ⟨hcl,hB⟩]
 rw [this,←List.append_assoc]
 exact hr11
theorem zrF {w W0:World} {v0:Value} {c:DCode} (h0:Is W0 v0 c) (e0:Ext W0 w) (hc:CodeR c) :
   CALL Tryz.prog 123 [v0] w fun r w'=>Ext w w'∧Own w.heap.size w' r (zfq (zf6 c (zfM c) (zfM c).length)):=by
 refine F123_call ?_
 unfold F123
 have h8:=hc.1.procs8
 refine zaV h0 e0 fun w1 hx1 hA=>?_
 refine zaP (α:=DRace) u57 zcG fun a10 w2 hx2 _=>?_
 refine zab zbm hA hx2 fun v11 h11=>?_
 refine (zmH h11 hx2 hc).mono ?_
 rintro v12 w3 ⟨hx3,ho3⟩
 refine zab zbm hA (hx2.trans hx3) fun v13 h13=>?_
 refine (znH h13 (hx2.trans hx3) hc).mono ?_
 rintro v14 wb ⟨hx4,ho4⟩
 have hx1b:=hx2.trans (hx3.trans hx4)
 have hTb:=ho3.is.ext hx4
 have hGb:=ho4.is
 have hTl:=zf4 hc
 have hTm:=fun x (hx:x∈zfM c)=>zlv hc hx
 have hTp:=zrE c
 generalize zfM c=T at *
 have hs1:=hx1.size
 have hs1b:=hx1b.size
 have hM0:∀ w:World,Mine [] w (.slice (some a10) 0 0) (zfq (zf6 c T 0)):=fun w=>by
   have h:RowG (α:=DRace) [] 60 w (.slice (some a10) 0 0) []:=.inl ⟨some a10,rfl,rfl,rfl⟩
   exact ⟨h.own,List.nodup_nil,h.wr⟩
 refine zas T.length (fun k us w'=>∃ out F,us=[out,.int .i64 (k:Int)]∧k≤T.length∧Ext wb w'∧Mine F w' out (zfq (zf6 c T k))∧∀ b∈F,wb.heap.size≤b) 0 (Nat.zero_le _) ⟨_,[],rfl,Nat.zero_le _,Ext.refl _,hM0 wb,by simp⟩ ?_
 rintro i mk u w5 hkm ⟨out,F5,hu,hkl,hx5,hM5,hF5⟩
 obtain ⟨hu1,hu2⟩:=zcC hu
 rw [hu1,hu2]
 refine zag u62 hTb ?_
 refine zah ?_
 have hall:=zjx (c:=c) hTl (n:=i) (by omega)
 refine br (fun hlt=>?_) (fun hge=>?_)
 case refine_2=>
   have hke:i=T.length:=by omega
   rw [hke] at hM5
   exact ⟨hx1.trans (hx1b.trans hx5),F5,hM5,fun b hb=>by have:=hF5 b hb;omega⟩
 have hi:i<T.length:=by omega
 have hrow:=zit (c:=c) hi
 have hsuc:=zkk c T i
 obtain ⟨pa,hpa⟩:=hTm T[i] (List.getElem_mem _)
 have hle:∀ j (hj:j<T.length),i≤j→T[i].at_≤T[j].at_:=fun j hj hij=>by
   by_cases e:i=j
   · subst e;omega
   exact List.pairwise_iff_getElem.1 hTp i j hi hj (by omega)
 have hDl:(T.drop i).length=T.length-i:=List.length_drop
 generalize hae:T[i]=a at *
 refine zas T.length (fun j us w'=>∃ out F,us=[out,.int .i64 (j:Int)]∧i≤j∧j≤T.length∧Ext wb w'∧Mine F w' out (zfq (zf6 c T i++((T.drop i).take (j-i)).flatMap (rc1 c a)))∧∀ b∈F,wb.heap.size≤b) i (by omega) ⟨out,F5,rfl,Nat.le_refl _,by omega,hx5,by simpa using hM5,hF5⟩ ?_
 rintro j mj u6 w6 hjm ⟨out6,F6,hu6,hij,hjl,hx6,hM6,hF6⟩
 obtain ⟨hu61,hu62⟩:=zcC hu6
 rw [hu61,hu62]
 refine zag u62 hTb ?_
 refine zah ?_
 refine br (fun hlt6=>?_) (fun hge6=>?_)
 case refine_2=>
   have hje:j=T.length:=by omega
   refine zaf (by omega) ?_
   refine ⟨mk-1,by omega,i+1,by omega,out6,F6,rfl,by omega,hx6,?_,hF6⟩
   rw [List.take_of_length_le (by omega)] at hM6
   rw [hsuc,hrow];exact hM6
 have hj:j<T.length:=by omega
 have hjD:j-i<(T.drop i).length:=by omega
 have hDj:(T.drop i)[j-i]=T[j]:=by rw [List.getElem_drop];congr 1;omega
 have hfs:=zep (f:=rc1 c a) hjD
 rw [hDj,show j-i+1=j+1-i by omega] at hfs
 have hrl:=znK c a ((T.drop i).take (j-i))
 have htl:=List.length_take_le' (j-i) (T.drop i)
 obtain ⟨pb,hpb⟩:=hTm T[j] (List.getElem_mem _)
 have hlej:=hle j hj hij
 refine zad u62 ze3 (i:=i) hTb hi fun b7 o7 hA7=>?_
 rw [hae] at hA7
 refine zab ze3 hA7 hx6 fun v31 h31=>?_
 refine zce zu5 rfl ze3 rfl h31 hx6 fun w7 hx7 hAa hVa=>?_
 refine zad u62 ze3 (i:=j) hTb hj fun b8 o8 hA8=>?_
 generalize hbe:T[j]=bb at *
 refine zab ze3 hA8 (hx6.trans hx7) fun v35 h35=>?_
 refine zce zu5 rfl ze3 rfl h35 (hx6.trans hx7) fun w8 hx8 hAb hVb=>?_
 have hxd:=zaj w8
 have hAa9:=hAa.ext (hx8.trans hxd)
 have hAb9:=hAb.ext hxd
 have hx69:=hx7.trans (hx8.trans hxd)
 generalize World.drew1 w8=w9 at *
 have hx9:=hx6.trans hx69
 have hM9:=hM6.ext hx69
 have hno:∀ {w10:World},Ext w9 w10→¬(zda a bb∧zf5 c (zar c a.at_).toNat (zar c bb.at_).toNat)→RD Tryz.prog (bin .add 3 (.tmp 0) (.const undef) (.int .i64 (j:Int)) (.int .i64 1)) w10 fun x27=>∃ m',m'<mj∧∃ k',k'+m'=T.length∧∃ out F,[out6,x27]=[out,.int .i64 (k':Int)]∧i≤k'∧k'≤T.length∧Ext wb w10∧Mine F w10 out (zfq (zf6 c T i++((T.drop i).take (k'-i)).flatMap (rc1 c a)))∧∀ b∈F,wb.heap.size≤b:=fun hx10 hn=>by
   refine zaf (by omega) ?_
   refine ⟨mj-1,by omega,j+1,by omega,out6,F6,rfl,by omega,by omega,hx9.trans hx10,?_,hF6⟩
   rw [hfs]
   have:rc1 c a bb=[]:=by unfold rc1;rw [if_neg hn]
   rw [this,List.append_nil]
   exact hM9.ext hx10
 refine zaa zhW ?_
 refine zac ty3 (zcp hAa9) (Ext.refl _) fun hg1=>?_
 refine zaa zhW ?_
 refine zac ty3 (zcp hAb9) (Ext.refl _) fun _=>?_
 refine zai ?_
 refine br (fun hgl=>?_) (fun hgl=>hno (Ext.refl _) fun h=>hgl h.1.1)
 refine zaa zlS ?_
 refine zaz ty4 (zdX hAa9) (Ext.refl _) ?_
 refine zrB (Q:=a.write=true∨bb.write=true) .inl (fun hwr=>?_) (fun key hf=>?_)
 case refine_2=>
   refine zaa zlS ?_
   refine zaz ty4 (zdX hAb9) (Ext.refl _) ?_
   refine zbw (fun h=>key (.inr h)) (fun h=>hno (Ext.refl _) fun h2=>?_)
   rcases h2.1.2.1 with h3 | h3
   · rw [h3] at hf;cases hf
   rw [h3] at h;cases h
 obtain ⟨ma,hma⟩:=Int.eq_ofNat_of_zero_le hpa.h0
 obtain ⟨mb,hmb⟩:=Int.eq_ofNat_of_zero_le hpb.h0
 have h1a:=hpa.h1
 have h1b:=hpb.h1
 refine zaa zjQ ?_
 refine zac ty3 (zdb hAa9) (Ext.refl _) fun _=>?_
 refine zaa zjQ ?_
 refine zac ty3 (zdb hAb9) (Ext.refl _) fun _=>?_
 rw [hma,hmb]
 refine zd7 (m:=ma) (n:=mb) (by omega) (by omega) ?_
 refine zai ?_
 have hcl:zda a bb↔(a.global=bb.global∧(a.write=true∨bb.write=true)∧ma &&& mb=0):=by
   unfold zda
   rw [hma,hmb]
   simp only [Int.toNat_natCast]
   constructor
   · rintro ⟨h1,h2,_,_,h5⟩;exact ⟨h1,h2,h5⟩
   rintro ⟨h1,h2,h5⟩;exact ⟨h1,h2,⟨by omega,by omega⟩,⟨by omega,by omega⟩,h5⟩
 refine br (fun hz=>?_) (fun hz=>hno (Ext.refl _) fun h=>hz (by rw [(hcl.1 h.1).2.2];rfl))
 have hC:zda a bb:=hcl.2 ⟨hgl,hwr,by omega⟩
 refine zab zbm hA (hx1b.trans hx9) fun v59 h59=>?_
 refine zaa zdZ ?_
 refine zac ty3 (za7 hAa9) (Ext.refl _) fun hIa=>?_
 refine zab zbm hA (hx1b.trans hx9) fun v65 h65=>?_
 refine zaa zdZ ?_
 refine zac ty3 (za7 hAb9) (Ext.refl _) fun hIb=>?_
 refine (zeG (a:=a.at_) h59 (hx1b.trans hx9)).mono ?_
 rintro _ w10 ⟨hx10,rfl⟩
 refine ⟨hx10,?_⟩
 obtain ⟨qa,hqa,hpqa,_⟩:=zdw hc hpa.lt
 obtain ⟨qb,hqb,hpqb,_⟩:=zdw hc hpb.lt
 have hpa':zar c a.at_=(qa:Int):=by rw [hpa.at_,hpqa]
 have hpb':zar c bb.at_=(qb:Int):=by rw [hpb.at_,hpqb]
 rw [hpa',hpb'] at hno
 simp only [Int.toNat_natCast] at hno
 rw [hpa']
 have hGl:(zpK c c.procs.length).length=c.procs.length:=by simp [zpK]
 have hx10b:=hx9.trans hx10
 refine zad ztr zdc (i:=qa) hGb (by rw [hGl];exact hqa) fun b11 o11 hA11=>?_
 rw [show (zpK c c.procs.length)[qa]'(by rw [hGl];exact hqa)=zbP c.procs.length (zf5 c qa) by simp only [zpK,List.getElem_map,List.getElem_range]] at hA11
 refine zab zdc hA11 hx10b fun v64 h64=>?_
 refine (zeG (a:=bb.at_) h65 (hx1b.trans hx10b)).mono ?_
 rintro _ w11 ⟨hx11,rfl⟩
 refine ⟨hx11,?_⟩
 rw [hpb']
 have hx11b:=hx10b.trans hx11
 have hx911:=hx10.trans hx11
 have hmk:=zaH (n:=c.procs.length) (p:=zf5 c qa) (i:=qb)
 rw [zaO (by rw [zam];exact hqb)] at hmk
 refine zad zcX ty4 (i:=qb) h64 (by rw [zam];exact hqb) fun b12 o12 hA12=>?_
 refine zaz ty4 hA12 hx11b ?_
 refine zbw (fun ht=>?_) (fun hf=>hno hx911 fun h=>by rw [hmk.2 ⟨hqb,h.2⟩] at hf;cases hf)
 have hB:=(hmk.1 ht).2
 refine zaa zhW ?_
 refine zac ty3 (zcp hAa9) hx911 fun _=>?_
 refine zaa zdZ ?_
 refine zac ty3 (za7 hAa9) hx911 fun _=>?_
 refine zaa zdZ ?_
 refine zac ty3 (za7 hAb9) hx911 fun _=>?_
 refine zaS (cells:=#[.int .i64 a.global,.int .i64 a.at_,.int .i64 bb.at_]) (by kernel_rfl) ?_
 have hro:zd9 a bb=⟨a.global,a.at_,bb.at_⟩:=by
   unfold zd9
   rw [show min a.at_ bb.at_=a.at_ by omega,show max a.at_ bb.at_=bb.at_ by omega]
 have hIr:Is w11 (.agg #[.int .i64 a.global,.int .i64 a.at_,.int .i64 bb.at_]) (zd9 a bb):=by
   rw [hro]
   exact ziD.2 ⟨rfl,hg1,hIa,hIb⟩
 have hcn:=zmx (zf6 c T i++((T.drop i).take (j-i)).flatMap (rc1 c a))
 rw [List.length_append] at hcn
 refine (zpB (hM9.ext hx911) hIr (Ext.refl _) (by omega)).mono ?_
 rintro v80 w12 ⟨hx12,F12,hM12,hF12⟩
 refine zaf (by omega) ?_
 refine ⟨mj-1,by omega,j+1,by omega,v80,F12,rfl,by omega,by omega,hx11b.trans hx12,?_,fun b hb=>?_⟩
 · rw [hfs]
   have:rc1 c a bb=[zd9 a bb]:=by
     unfold rc1;rw [if_pos ⟨hC,by rw [hpa',hpb'];simpa using hB⟩]
   rw [this,←List.append_assoc,zpt]
   exact hM12
 rcases hF12 b hb with h | h
 · exact hF6 b h
 have:=hx11b.size;omega
def F61 (a0:Value) (w:World) (R:VW):Prop:=
 oP (Instr.box 28 a0) w fun x1 w=>
 rL 28 x1 w fun x6=>
 cL 109 [x6] w fun x7 w=>
 rE x7 0 w fun x8=>
 rE x7 1 w fun x9=>
 rD (Op.unary .not x9) w fun x11=>
 BR x11
 (R (Value.slice none 0 0) w)
 (cL 122 [x8] w fun x13 w=>
 R x13 w)
def cfg61:Cfg:=⟨extL,[],[],[],[],[],[]⟩
theorem F61_call {a0:Value} {w:World} {R:VW} (h:F61 a0 w R):cL 61 [a0] w R:=co (g:=cfg61) Tryz.func61 (by kernel_rfl) (by kernel_rfl) (by kernel_rfl) h
def F62 (a0:Value) (w:World) (R:VW):Prop:=
 oP (Instr.box 28 a0) w fun x1 w=>
 rL 28 x1 w fun x3=>
 cL 81 [x3] w fun x4 w=>
 rD (Op.unary .not x4) w fun x5=>
 BR x5
 (oP (Instr.buildSlice 57 0 #[]) w fun x6 w=>
 R x6 w)
 (rL 28 x1 w fun x7=>
 cL 123 [x7] w fun x8 w=>
 R x8 w)
def cfg62:Cfg:=⟨extL,[],[],[],[],[],[]⟩
theorem F62_call {a0:Value} {w:World} {R:VW} (h:F62 a0 w R):cL 62 [a0] w R:=co (g:=cfg62) Tryz.func62 (by kernel_rfl) (by kernel_rfl) (by kernel_rfl) h
def F63 (a0 a1:Value) (w:World) (R:VW):Prop:=
 oP (Instr.box 28 a0) w fun x2 w=>
 rL 28 x2 w fun x8=>
 cL 61 [x8] w fun x9 w=>
 rN 57 3 x9 w fun x10=>
 LOOPI [5,11] [(Value.slice none 0 0),(iV 0)] w fun u3 w next3=>
 rC (u3 11) x10 w fun x12=>
 BR x12
 (rX 57 x9 (u3 11) w fun x13=>
 rL 60 x13 w fun x14=>
 oP (Instr.alloc 60 true (.tuple #[])) w fun x7 w=>
 oS 60 x7 x14 w fun w=>
 rF 60 x7 0 w fun x15=>
 rL 3 x15 w fun x16=>
 rB .eql 3 T0 T0 x16 a1 w fun x18=>
 BR x18
 (rL 60 x7 w fun x20=>
 oP (Instr.buildSlice 57 1 #[(0,x20)]) w fun x21 w=>
 oP (Builtin.append_ #[57,57] 57 [(u3 5),x21].toArray) w fun x22 w=>
 rA (u3 11) (iV 1) w fun x23=>
 next3 [x22,x23] w)
 (rA (u3 11) (iV 1) w fun x23=>
 next3 [(u3 5),x23] w))
 (R (u3 5) w)
def cfg63:Cfg:=⟨extL,[],[(3,16775328,[5,11])],[],[],[],[]⟩
theorem F63_call {a0 a1:Value} {w:World} {R:VW} (h:F63 a0 a1 w R):cL 63 [a0,a1] w R:=co (g:=cfg63) Tryz.func63 (by kernel_rfl) (by kernel_rfl) (by kernel_rfl) h
open Rep (rep)
open Classical in
noncomputable def zdx (c:DCode):List DRace:=if CodeR c then zfq (zf6 c (zfM c) (zfM c).length) else []
theorem zkm (c:DCode):(zdx c).length≤324000000:=by
 unfold zdx;split
 · rename_i h;exact Nat.le_trans (zmx _) (zjx (zf4 h) (zf4 h))
 simp
theorem zgc {w W0:World} {v0:Value} {c:DCode} (h0:Is W0 v0 c) (e0:Ext W0 w) :
   CALL Tryz.prog 61 [v0] w fun r w'=>Ext w w'∧Own w.heap.size w' r (zdx c):=by
 refine F61_call ?_
 unfold F61
 refine zaV h0 e0 fun w1 hx1 hA=>?_
 refine zab zbm hA (Ext.refl _) fun v6 h6=>?_
 refine (zke h6 (Ext.refl _)).mono ?_
 rintro r7 w2 ⟨hx2,hr⟩
 have hs1:=hx1.size
 have hs2:=hx2.size
 rcases hr with ⟨hn,rfl⟩ | ⟨hc,b,rfl,hW⟩
 · refine zb6 rfl ?_
   refine zb6 rfl ?_
   refine zaJ ?_
   refine zbw (fun _=>?_) (fun h=>by cases h)
   refine ⟨hx1.trans hx2,?_⟩
   unfold zdx;rw [if_neg hn]
   exact zkv rfl
 refine zb6 rfl ?_
 refine zb6 rfl ?_
 refine zaJ ?_
 refine zbw (fun h=>by cases h) (fun _=>?_)
 refine (zsB hW (Ext.refl _) hc).mono ?_
 rintro v13 w3 ⟨hx3,ho3⟩
 refine ⟨hx1.trans (hx2.trans hx3),?_⟩
 unfold zdx;rw [if_pos hc]
 exact ho3.mono (by omega)
theorem zjG {w W0:World} {v0:Value} {c:DCode} (h0:Is W0 v0 c) (e0:Ext W0 w) :
   CALL Tryz.prog 62 [v0] w fun r w'=>Ext w w'∧Own w.heap.size w' r (zdx c):=by
 refine F62_call ?_
 unfold F62
 refine zaV h0 e0 fun w1 hx1 hA=>?_
 refine zab zbm hA (Ext.refl _) fun v3 h3=>?_
 refine (ze7 h3 (Ext.refl _)).mono ?_
 rintro _ w2 ⟨hx2,rfl⟩
 have hs1:=hx1.size
 have hs2:=hx2.size
 refine zaX ?_
 refine br (fun hn=>?_) (fun hy=>?_)
 · refine zaP (α:=DRace) u57 zcG fun a8 w3 hx3 hr3=>?_
   refine ⟨hx1.trans (hx2.trans hx3),?_⟩
   unfold zdx;rw [if_neg hn]
   exact hr3.own.own.mono (by have:=hx3.size;omega)
 have hc:=Decidable.not_not.1 hy
 refine zab zbm hA hx2 fun v7 h7=>?_
 refine (zrF h7 hx2 hc).mono ?_
 rintro v8 w3 ⟨hx3,ho3⟩
 refine ⟨hx1.trans (hx2.trans hx3),?_⟩
 unfold zdx;rw [if_pos hc]
 exact ho3.mono (by omega)
noncomputable def zlw (c:DCode) (g:Int):List DRace:=(zdx c).filter fun r=>decide (r.g=g)
theorem zsC {L:List DRace} {g:Int} {k:Nat} (hk:k<L.length) (h:L[k].g=g):(L.take (k+1)).filter (fun r=>decide (r.g=g))=(L.take k).filter (fun r=>decide (r.g=g))++[L[k]]:=by
 rw [List.take_succ_eq_append_getElem hk,List.filter_append];simp [h]
theorem zt2 {L:List DRace} {g:Int} {k:Nat} (hk:k<L.length) (h:¬L[k].g=g):(L.take (k+1)).filter (fun r=>decide (r.g=g))=(L.take k).filter (fun r=>decide (r.g=g)):=by
 rw [List.take_succ_eq_append_getElem hk,List.filter_append];simp [h]
theorem zjH {w W0:World} {v0:Value} {c:DCode} {g:Int} (h0:Is W0 v0 c) (e0:Ext W0 w) :
   CALL Tryz.prog 63 [v0,.int .i64 g] w fun r w'=>Ext w w'∧Own w.heap.size w' r (zlw c g):=by
 refine F63_call ?_
 unfold F63
 refine zaV h0 e0 fun w1 hx1 hA=>?_
 refine zab zbm hA (Ext.refl _) fun v8 h8=>?_
 refine (zgc h8 (Ext.refl _)).mono ?_
 rintro v9 w2 ⟨hx2,ho2⟩
 have hl:=zkm c
 have hs1:=hx1.size
 have hs2:=hx2.size
 unfold zlw
 generalize zdx c=L at *
 refine zag u57 ho2.is ?_
 refine zas L.length (fun k us w'=>∃ out,us=[out,.int .i64 (k:Int)]∧k≤L.length∧Ext w2 w'∧RowI w2.heap.size w'.heap.size 60 w' out ((L.take k).filter fun r=>decide (r.g=g))) 0 (Nat.zero_le _) ⟨_,rfl,Nat.zero_le _,Ext.refl _,zc0 _ _ _ _⟩ ?_
 rintro k mk u w3 hkm ⟨out,hu,hkl,hx3,hr3⟩
 obtain ⟨hu1,hu2⟩:=zcC hu
 rw [hu1,hu2]
 refine zah ?_
 refine br (fun hlt=>?_) (fun hge=>?_)
 case refine_2=>
   rw [List.take_of_length_le (by omega)] at hr3
   exact ⟨hx1.trans (hx2.trans hx3),hr3.own.own.mono (by omega)⟩
 have hk:k<L.length:=by omega
 have hfl:=List.length_filter_le (fun r:DRace=>decide (r.g=g)) (L.take k)
 have htl:=List.length_take_le' k L
 have hs3:=hx3.size
 refine zad u57 zcG (i:=k) ho2.is hk fun b4 o4 hA4=>?_
 refine zab zcG hA4 hx3 fun v14 h14=>?_
 refine zce zvc rfl zcG rfl h14 hx3 fun w4 hx4 hAr hVr=>?_
 have hs4:=hx4.size
 refine zaa zhU ?_
 refine zac ty3 (zdQ hAr) (Ext.refl _) fun _=>?_
 refine zai ?_
 refine br (fun hg=>?_) (fun hg=>?_)
 · refine zab zcG hAr (Ext.refl _) fun v20 h20=>?_
   refine zbV (lo2:=w4.heap.size) (hi2:=w4.heap.size) (x:=L[k]) u57 zcG z60 zue (by decide) ((hr3.ext hx4).mono (Nat.le_refl _) hs4) (by omega) (zir h20) (Nat.le_refl _) (by omega) (by rw [zap];omega) (by omega) fun v22 w5 hc5 hr5=>?_
   refine zaf (by omega) ?_
   refine ⟨mk-1,by omega,k+1,by omega,v22,rfl,by omega,(hx3.trans hx4).chgI hc5 (Nat.le_refl _),?_⟩
   rw [zsC hk hg];exact hr5
 refine zaf (by omega) ?_
 refine ⟨mk-1,by omega,k+1,by omega,out,rfl,by omega,hx3.trans hx4,?_⟩
 rw [zt2 hk hg];exact (hr3.ext hx4).mono (Nat.le_refl _) hs4
def F67 (a0 a1:Value) (w:World) (R:VW):Prop:=
 oP (Instr.box 60 a0) w fun x2 w=>
 oP (Instr.box 60 a1) w fun x3 w=>
 rL 60 x2 w fun x5=>
 rL 60 x3 w fun x6=>
 cL 128 [x5,x6] w fun x7 w=>
 rB .lss 3 T0 U0 x7 (iV 0) w fun x8=>
 R x8 w
def cfg67:Cfg:=⟨extL,[],[],[],[],[],[]⟩
theorem F67_call {a0 a1:Value} {w:World} {R:VW} (h:F67 a0 a1 w R):cL 67 [a0,a1] w R:=co (g:=cfg67) Tryz.func67 (by kernel_rfl) (by kernel_rfl) (by kernel_rfl) h
def F65 (a0:Value) (w:World) (R:VW):Prop:=
 oP (Instr.box 28 a0) w fun x1 w=>
 rL 28 x1 w fun x3=>
 cL 81 [x3] w fun x4 w=>
 rD (Op.unary .not x4) w fun x5=>
 BR x5
 (oP (Instr.buildSlice 62 0 #[]) w fun x6 w=>
 R x6 w)
 (rL 28 x1 w fun x7=>
 cL 125 [x7] w fun x8 w=>
 R x8 w)
def cfg65:Cfg:=⟨extL,[],[],[],[],[],[]⟩
theorem F65_call {a0:Value} {w:World} {R:VW} (h:F65 a0 w R):cL 65 [a0] w R:=co (g:=cfg65) Tryz.func65 (by kernel_rfl) (by kernel_rfl) (by kernel_rfl) h
def F124 (a0 a1:Value) (w:World) (R:VW):Prop:=
 oP (Instr.box 28 a0) w fun x2 w=>
 oP (Instr.buildSlice 25 0 #[]) w fun x8 w=>
 rL 28 x2 w fun x9=>
 cL 65 [x9] w fun x10 w=>
 LOOPI [5,7] [x8,(iV 0)] w fun u4 w next4=>
 rN 62 3 x10 w fun x13=>
 rC (u4 7) x13 w fun x14=>
 BR x14
 (rX 62 x10 (u4 7) w fun x19=>
 rF 87 x19 2 w fun x20=>
 rL 4 x20 w fun x21=>
 BR x21
 (rX 62 x10 (u4 7) w fun x25=>
 rF 87 x25 1 w fun x26=>
 rL 3 x26 w fun x27=>
 rB .eql 3 T0 T0 x27 a1 w fun x29=>
 BR x29
 (rX 62 x10 (u4 7) w fun x34=>
 rF 87 x34 0 w fun x35=>
 rL 3 x35 w fun x36=>
 oP (Instr.buildSlice 25 1 #[(0,x36)]) w fun x37 w=>
 oP (Builtin.append_ #[25,25] 25 [(u4 5),x37].toArray) w fun x38 w=>
 rA (u4 7) (iV 1) w fun x16=>
 next4 [x38,x16] w)
 (rA (u4 7) (iV 1) w fun x16=>
 next4 [(u4 5),x16] w))
 (rA (u4 7) (iV 1) w fun x16=>
 next4 [(u4 5),x16] w))
 (R (u4 5) w)
def cfg124:Cfg:=⟨extL,[],[(4,549755812000,[5,7])],[],[],[],[]⟩
theorem F124_call {a0 a1:Value} {w:World} {R:VW} (h:F124 a0 a1 w R):cL 124 [a0,a1] w R:=co (g:=cfg124) Tryz.func124 (by kernel_rfl) (by kernel_rfl) (by kernel_rfl) h
def F64 (a0:Value) (w:World) (R:VW):Prop:=
 oP (Instr.box 28 a0) w fun x1 w=>
 oP (Instr.buildSlice 25 0 #[]) w fun x5 w=>
 LOOPI [3,4] [x5,(iV 0)] w fun u3 w next3=>
 rL 28 x1 w fun x6=>
 cL 81 [x6] w fun x7 w=>
 BR x7
 (rF 28 x1 0 w fun x10=>
 rL 24 x10 w fun x11=>
 rN 24 3 x11 w fun x12=>
 rC (u3 4) x12 w fun x13=>
 BR x13
 (rL 28 x1 w fun x17=>
 cL 124 [x17,(u3 4)] w fun x19 w=>
 rN 25 3 x19 w fun x20=>
 rB .eql 3 T0 U0 x20 (iV 0) w fun x21=>
 BR x21
 (oP (Instr.buildSlice 25 1 #[(0,(u3 4))]) w fun x24 w=>
 oP (Builtin.append_ #[25,25] 25 [(u3 3),x24].toArray) w fun x25 w=>
 rA (u3 4) (iV 1) w fun x16=>
 next3 [x25,x16] w)
 (rA (u3 4) (iV 1) w fun x16=>
 next3 [(u3 3),x16] w))
 (R (u3 3) w))
 (R (u3 3) w)
def cfg64:Cfg:=⟨extL,[],[(3,67108824,[3,4])],[],[],[],[]⟩
theorem F64_call {a0:Value} {w:World} {R:VW} (h:F64 a0 w R):cL 64 [a0] w R:=co (g:=cfg64) Tryz.func64 (by kernel_rfl) (by kernel_rfl) (by kernel_rfl) h
def F127 (a0 a1 a2:Value) (w:World) (R:VW):Prop:=
 oP (Instr.box 28 a0) w fun x3 w=>
 rL 28 x3 w fun x10=>
 cL 109 [x10] w fun x11 w=>
 rE x11 0 w fun x12=>
 rE x11 1 w fun x13=>
 BR x13
 (cL 196 [x12,a1] w fun x18 w=>
 cL 196 [x12,a2] w fun x21 w=>
 cL 197 [x12] w fun x23 w=>
 cL 192 [x18,x21,x23] w fun x24 w=>
 R x24 w)
 (R (Value.bool false) w)
def cfg127:Cfg:=⟨extL,[],[],[],[],[],[]⟩
theorem F127_call {a0 a1 a2:Value} {w:World} {R:VW} (h:F127 a0 a1 a2 w R):cL 127 [a0,a1,a2] w R:=co (g:=cfg127) Tryz.func127 (by kernel_rfl) (by kernel_rfl) (by kernel_rfl) h
def F66 (a0 a1 a2:Value) (w:World) (R:VW):Prop:=
 oP (Instr.box 28 a0) w fun x3 w=>
 oP (Instr.box 87 a1) w fun x4 w=>
 oP (Instr.box 87 a2) w fun x5 w=>
 rL 87 x4 w fun x7=>
 rL 87 x5 w fun x8=>
 cL 126 [x7,x8] w fun x9 w=>
 BR x9
 (rL 28 x3 w fun x11=>
 rF 87 x4 0 w fun x12=>
 rL 3 x12 w fun x13=>
 rF 87 x5 0 w fun x14=>
 rL 3 x14 w fun x15=>
 cL 127 [x11,x13,x15] w fun x16 w=>
 R x16 w)
 (R (Value.bool false) w)
def cfg66:Cfg:=⟨extL,[],[],[],[],[],[]⟩
theorem F66_call {a0 a1 a2:Value} {w:World} {R:VW} (h:F66 a0 a1 a2 w R):cL 66 [a0,a1,a2] w R:=co (g:=cfg66) Tryz.func66 (by kernel_rfl) (by kernel_rfl) (by kernel_rfl) h
open Rep (rep)
theorem zrG {w w':World} (h:zlo w w'):Ext w w':=by
 obtain ⟨q,os,rfl⟩:=h
 exact ⟨rfl,rfl,rfl,by simp [Go.Sort.grow,World.drewN],fun i hi=>by rw [Go.Sort.heap_grow_old _ _ (by simpa [World.drewN] using hi)];rfl⟩
theorem zec {w W0 W1:World} {v0 v1:Value} {x y:DRace} (h0:Is W0 v0 x) (e0:Ext W0 w) (h1:Is W1 v1 y) (e1:Ext W1 w) :
   CALL Tryz.prog 67 [v0,v1] w fun r w'=>Ext w w'∧r=.bool (decide (ltR x y)):=by
 refine F67_call ?_
 unfold F67
 refine zaV h0 e0 fun w1 hx1 hA=>?_
 refine zaV h1 (e1.trans hx1) fun w2 hx2 hB=>?_
 refine zab zcG hA hx2 fun v5 h5=>?_
 refine zab zcG hB (Ext.refl _) fun v6 h6=>?_
 obtain ⟨rfl,-⟩:=znV h5
 obtain ⟨rfl,-⟩:=znV h6
 refine (zfL (x:=x) (y:=y)).mono ?_
 rintro _ w3 ⟨rfl,hg⟩
 refine zah ?_
 refine ⟨hx1.trans (hx2.trans (zrG hg)),?_⟩
 congr 1
 rw [decide_eq_decide]
 exact zrh
theorem zfo {w W0:World} {v0:Value} {c:DCode} (h0:Is W0 v0 c) (e0:Ext W0 w) (hc:CodeR c) :
   CALL Tryz.prog 65 [v0] w fun r w'=>Ext w w'∧Own w.heap.size w' r (zfM c):=by
 refine F65_call ?_
 unfold F65
 refine zaV h0 e0 fun w1 hx1 hA=>?_
 refine zab zbm hA (Ext.refl _) fun v3 h3=>?_
 refine (ze7 h3 (Ext.refl _)).mono ?_
 rintro _ w2 ⟨hx2,rfl⟩
 have hs1:=hx1.size
 have hs2:=hx2.size
 refine zaX ?_
 refine br (fun hn=>absurd hc hn) (fun hy=>?_)
 refine zab zbm hA hx2 fun v7 h7=>?_
 refine (zmH h7 hx2 hc).mono ?_
 rintro v8 w3 ⟨hx3,ho3⟩
 exact ⟨hx1.trans (hx2.trans hx3),ho3.mono (by omega)⟩
def wrP (g:Int) (x:DTouch):Bool:=x.write&&decide (x.global=g)
noncomputable def ziu (c:DCode) (g:Int):List Int:=((zfM c).filter (wrP g)).map DTouch.at_
theorem zu0 {T:List DTouch} {g:Int} {k:Nat} (hk:k<T.length) (h:T[k].write=true) (h2:T[k].global=g):((T.take (k+1)).filter (wrP g)).map DTouch.at_=((T.take k).filter (wrP g)).map DTouch.at_++[T[k].at_]:=by
 rw [List.take_succ_eq_append_getElem hk,List.filter_append,List.map_append];simp [wrP,h,h2]
theorem zu1 {T:List DTouch} {g:Int} {k:Nat} (hk:k<T.length) (h:¬(T[k].write=true∧T[k].global=g)):((T.take (k+1)).filter (wrP g)).map DTouch.at_=((T.take k).filter (wrP g)).map DTouch.at_:=by
 have:wrP g T[k]=false:=by
   unfold wrP
   cases e:T[k].write
   · rfl
   simp only [Bool.true_and,decide_eq_false_iff_not];exact fun h2=>h ⟨e,h2⟩
 rw [List.take_succ_eq_append_getElem hk,List.filter_append,List.map_append];simp [this]
theorem zic {w W0:World} {v0:Value} {c:DCode} {g:Int} (h0:Is W0 v0 c) (e0:Ext W0 w) (hc:CodeR c) :
   CALL Tryz.prog 124 [v0,.int .i64 g] w fun r w'=>Ext w w'∧Own w.heap.size w' r (ziu c g):=by
 refine F124_call ?_
 unfold F124
 refine zaV h0 e0 fun w1 hx1 hA=>?_
 refine zaP (α:=Int) u25 ty3 fun a8 w2 hx2 hr2=>?_
 refine zab zbm hA hx2 fun v9 h9=>?_
 refine (zfo h9 hx2 hc).mono ?_
 rintro v10 w3 ⟨hx3,ho3⟩
 have hTl:=zf4 hc
 unfold ziu
 generalize zfM c=T at *
 have hs1:=hx1.size
 have hs2:=hx2.size
 have hs3:=hx3.size
 refine zas T.length (fun k us w'=>∃ out,us=[out,.int .i64 (k:Int)]∧k≤T.length∧Ext w3 w'∧RowI w3.heap.size w'.heap.size 3 w' out (((T.take k).filter (wrP g)).map DTouch.at_)) 0 (Nat.zero_le _) ⟨_,rfl,Nat.zero_le _,Ext.refl _,zcD _ _ _ _ _⟩ ?_
 rintro k mk u w4 hkm ⟨out,hu,hkl,hx4,hr4⟩
 obtain ⟨hu1,hu2⟩:=zcC hu
 rw [hu1,hu2]
 have hs4:=hx4.size
 refine zag u62 ho3.is ?_
 refine zah ?_
 refine br (fun hlt=>?_) (fun hge=>?_)
 case refine_2=>
   rw [List.take_of_length_le (by omega)] at hr4
   exact ⟨hx1.trans (hx2.trans (hx3.trans hx4)),hr4.own.own.mono (by omega)⟩
 have hk:k<T.length:=by omega
 have hfl:=List.length_filter_le (wrP g) (T.take k)
 have htl:=List.length_take_le' k T
 have hml:(((T.take k).filter (wrP g)).map DTouch.at_).length≤18000:=by rw [List.length_map];omega
 refine zad u62 ze3 (i:=k) ho3.is hk fun b5 o5 hA5=>?_
 refine zaa zlS ?_
 refine zaz ty4 (zdX hA5) hx4 ?_
 refine zbw (fun hwr=>?_) (fun hwr=>?_)
 · refine zad u62 ze3 (i:=k) ho3.is hk fun b6 o6 hA6=>?_
   refine zaa zhW ?_
   refine zac ty3 (zcp hA6) hx4 fun _=>?_
   refine zai ?_
   refine br (fun hg=>?_) (fun hg=>?_)
   · refine zad u62 ze3 (i:=k) ho3.is hk fun b7 o7 hA7=>?_
     refine zaa zdZ ?_
     refine zac ty3 (za7 hA7) hx4 fun hI=>?_
     refine zbV (lo2:=w4.heap.size) (hi2:=w4.heap.size) (x:=T[k].at_) u25 ty3 z3 zc3 (by decide) hr4 (by omega) (zir (zpT.2 ⟨rfl,hI⟩)) (Nat.le_refl _) (by omega) (by rw [zap];omega) (by omega) fun v8 w5 hc5 hr5=>?_
     refine zaf (by omega) ?_
     refine ⟨mk-1,by omega,k+1,by omega,v8,rfl,by omega,hx4.chgI hc5 (Nat.le_refl _),?_⟩
     rw [zu0 hk hwr hg];exact hr5
   refine zaf (by omega) ?_
   refine ⟨mk-1,by omega,k+1,by omega,out,rfl,by omega,hx4,?_⟩
   rw [zu1 hk fun h=>hg h.2];exact hr4
 refine zaf (by omega) ?_
 refine ⟨mk-1,by omega,k+1,by omega,out,rfl,by omega,hx4,?_⟩
 rw [zu1 hk fun h=>by rw [h.1] at hwr;cases hwr];exact hr4
noncomputable def qtP (c:DCode) (g:Nat):Bool:=(ziu c (g:Int)).isEmpty
noncomputable def ztb (c:DCode):List Int:=zaI ((List.range c.globals.length).filter (qtP c))
theorem zu2 {c:DCode} {k:Nat} (h:qtP c k=true):zaI ((List.range (k+1)).filter (qtP c))=zaI ((List.range k).filter (qtP c))++[(k:Int)]:=by
 rw [List.range_succ,List.filter_append,zb3];simp [h,zaI]
theorem zvn {c:DCode} {k:Nat} (h:¬qtP c k=true):zaI ((List.range (k+1)).filter (qtP c))=zaI ((List.range k).filter (qtP c)):=by
 rw [List.range_succ,List.filter_append,zb3];simp [h,zaI]
theorem zjI {w W0:World} {v0:Value} {c:DCode} (h0:Is W0 v0 c) (e0:Ext W0 w) (hc:CodeR c) :
   CALL Tryz.prog 64 [v0] w fun r w'=>Ext w w'∧Own w.heap.size w' r (ztb c):=by
 refine F64_call ?_
 unfold F64
 refine zaV h0 e0 fun w1 hx1 hA=>?_
 refine zaP (α:=Int) u25 ty3 fun a5 w2 hx2 hr2=>?_
 have h6:=hc.1.globals6
 have hs1:=hx1.size
 have hs2:=hx2.size
 refine zas c.globals.length (fun k us w'=>∃ out,us=[out,.int .i64 (k:Int)]∧k≤c.globals.length∧Ext w2 w'∧RowI w2.heap.size w'.heap.size 3 w' out (zaI ((List.range k).filter (qtP c)))) 0 (Nat.zero_le _) ⟨_,rfl,Nat.zero_le _,Ext.refl _,zcD _ _ _ _ _⟩ ?_
 rintro k mk u w3 hkm ⟨out,hu,hkl,hx3,hr3⟩
 obtain ⟨hu1,hu2⟩:=zcC hu
 rw [hu1,hu2]
 have hs3:=hx3.size
 have hx13:=hx2.trans hx3
 refine zab zbm hA hx13 fun v6 h6'=>?_
 refine (ze7 h6' hx13).mono ?_
 rintro _ w4 ⟨hx4,rfl⟩
 refine br (fun _=>?_) (fun h=>absurd hc h)
 have hx14:=hx13.trans hx4
 have hs4:=hx4.size
 refine zaa zdY ?_
 refine zab zcj (zbj hA) hx14 fun v11 h11=>?_
 refine zag u24 h11 ?_
 refine zah ?_
 refine br (fun hlt=>?_) (fun hge=>?_)
 case refine_2=>
   have hke:k=c.globals.length:=by omega
   rw [hke] at hr3
   exact ⟨hx1.trans hx14,(hr3.ext hx4).own.own.mono (by omega)⟩
 have hk:k<c.globals.length:=by omega
 have hfl:=List.length_filter_le (qtP c) (List.range k)
 rw [List.length_range] at hfl
 have hml:(zaI ((List.range k).filter (qtP c))).length≤1000:=by rw [zae];omega
 refine zab zbm hA hx14 fun v17 h17=>?_
 refine (zic (g:=(k:Int)) h17 hx14 hc).mono ?_
 rintro v19 w5 ⟨hx5,ho5⟩
 have hs5:=hx5.size
 refine zag u25 ho5.is ?_
 refine zai ?_
 have hr5:=(hr3.ext (hx4.trans hx5)).mono (Nat.le_refl _) (show w3.heap.size≤w5.heap.size by omega)
 refine br (fun hz=>?_) (fun hz=>?_)
 · have hq:qtP c k=true:=by unfold qtP;rw [List.isEmpty_iff];exact List.eq_nil_of_length_eq_zero (by omega)
   refine zbV (lo2:=w5.heap.size) (hi2:=w5.heap.size) (x:=(k:Int)) u25 ty3 z3 zc3 (by decide) hr5 (by omega) (zir (zpT.2 ⟨rfl,by unfold I64;omega⟩)) (Nat.le_refl _) (by omega) (by rw [zap];omega) (by omega) fun v8 w6 hc6 hr6=>?_
   refine zaf (by omega) ?_
   refine ⟨mk-1,by omega,k+1,by omega,v8,rfl,by omega,(hx3.trans (hx4.trans hx5)).chgI hc6 (Nat.le_refl _),?_⟩
   rw [zu2 hq];exact hr6
 have hq:¬qtP c k=true:=fun h=>by
   unfold qtP at h;rw [List.isEmpty_iff] at h
   rw [h] at hz;exact hz rfl
 refine zaf (by omega) ?_
 refine ⟨mk-1,by omega,k+1,by omega,out,rfl,by omega,hx3.trans (hx4.trans hx5),?_⟩
 rw [zvn hq];exact hr5
theorem zlx {w W0:World} {v0:Value} {c:DCode} {i j:Nat} (h0:Is W0 v0 c) (e0:Ext W0 w) (hc:CodeR c) (hi:i<c.ins.length) (hj:j<c.ins.length) :
   CALL Tryz.prog 127 [v0,.int .i64 (i:Int),.int .i64 (j:Int)] w fun r w'=>Ext w w'∧∃ x:Bool,r=.bool x∧(x=true↔zry (rtN c i) (rtN c j) (zmF c)):=by
 refine F127_call ?_
 unfold F127
 refine zaV h0 e0 fun w1 hx1 hA=>?_
 refine zab zbm hA (Ext.refl _) fun v10 h10=>?_
 refine (zke h10 (Ext.refl _)).mono ?_
 rintro _ w2 ⟨hx2,⟨hn,-⟩ | ⟨-,b,rfl,hW⟩⟩
 · exact absurd hc hn
 refine zb6 rfl ?_
 refine zb6 rfl ?_
 refine zbw (fun _=>?_) (fun h=>by cases h)
 refine (zhO (i:=i) hW (Ext.refl _) hc hi).mono ?_
 rintro _ w3 ⟨hx3,rfl⟩
 refine (zhO (i:=j) hW hx3 hc hj).mono ?_
 rintro _ w4 ⟨hx4,rfl⟩
 refine (zkj hW (hx3.trans hx4) hc).mono ?_
 rintro _ w5 ⟨hx5,rfl⟩
 refine (zoP (zmG hc i) (zmG hc j) (zoO hc)).mono ?_
 rintro _ w6 ⟨hx6,x,rfl,hx⟩
 exact ⟨hx1.trans (hx2.trans (hx3.trans (hx4.trans (hx5.trans hx6)))),x,rfl,hx⟩
theorem zjJ {w W0 W1 W2:World} {v0 v1 v2:Value} {c:DCode} {a b:DTouch} {i j:Nat} (h0:Is W0 v0 c) (e0:Ext W0 w) (h1:Is W1 v1 a) (e1:Ext W1 w) (h2:Is W2 v2 b) (e2:Ext W2 w) (hc:CodeR c) (ta:TouR c a i) (tb:TouR c b j) :
   CALL Tryz.prog 66 [v0,v1,v2] w fun r w'=>Ext w w'∧∃ x:Bool,r=.bool x∧(zda a b→zf5 c (zar c a.at_).toNat (zar c b.at_).toNat→x=true):=by
 refine F66_call ?_
 unfold F66
 refine zaV h0 e0 fun w1 hx1 hA=>?_
 refine zaV h1 (e1.trans hx1) fun w2 hx2 hB=>?_
 refine zaV h2 (e2.trans (hx1.trans hx2)) fun w3 hx3 hC=>?_
 refine zab ze3 hB hx3 fun v7 h7=>?_
 refine zab ze3 hC (Ext.refl _) fun v8 h8=>?_
 refine (zoG h7 hx3 h8 (Ext.refl _)).mono ?_
 rintro _ w4 ⟨hx4,rfl⟩
 have hx14:=hx1.trans (hx2.trans (hx3.trans hx4))
 refine br (fun hcl=>?_) (fun hcl=>⟨hx14,false,rfl,fun h=>absurd h hcl⟩)
 refine zab zbm hA (hx2.trans (hx3.trans hx4)) fun v11 h11=>?_
 refine zaa zdZ ?_
 refine zac ty3 (za7 hB) (hx3.trans hx4) fun _=>?_
 refine zaa zdZ ?_
 refine zac ty3 (za7 hC) hx4 fun _=>?_
 rw [ta.at_,tb.at_]
 refine (zlx h11 (hx2.trans (hx3.trans hx4)) hc ta.lt tb.lt).mono ?_
 rintro _ w5 ⟨hx5,x,rfl,hx⟩
 exact ⟨hx14.trans hx5,x,rfl,fun _ hb=>hx.2 ((zmI hc ta.met tb.met).2 hb)⟩
def F8 (a0:Value) (w:World) (R:VW):Prop:=
 cL 9 [a0] w fun x15 w=>
 BR x15
 (R (Value.bool true) w)
 (cL 10 [a0] w fun x17 w=>
 oP (Instr.alloc 28 true (.tuple #[])) w fun x3 w=>
 oS 28 x3 x17 w fun w=>
 cL 10 [a0] w fun x19 w=>
 oP (Instr.alloc 28 true (.tuple #[])) w fun x4 w=>
 oS 28 x4 x19 w fun w=>
 rL 28 x3 w fun x20=>
 cL 61 [x20] w fun x21 w=>
 rL 28 x4 w fun x23=>
 cL 62 [x23] w fun x24 w=>
 cL 46 [x21,x24] w fun x25 w=>
 rD (Op.unary .not x25) w fun x26=>
 BR x26
 (R (Value.bool false) w)
 (LOOPI [6,7] [(iV 0),(iV 0)] w fun u10 w next10=>
 rF 28 x4 0 w fun x28=>
 rL 24 x28 w fun x29=>
 rN 24 3 x29 w fun x30=>
 rC (u10 7) x30 w fun x31=>
 BR x31
 (rL 28 x3 w fun x34=>
 cL 63 [x34,(u10 7)] w fun x36 w=>
 rN 57 3 x36 w fun x39=>
 rB .add 3 T0 T0 (u10 6) x39 w fun x40=>
 rN 57 3 x36 w fun x42=>
 rB .gtr 3 T0 U0 x42 (iV 0) w fun x43=>
 BR x43
 (rL 28 x4 w fun x45=>
 cL 64 [x45] w fun x46 w=>
 cL 41 [x46,(u10 7)] w fun x48 w=>
 BR x48
 (R (Value.bool false) w)
 (rA (u10 7) (iV 1) w fun x33=>
 next10 [x40,x33] w))
 (rA (u10 7) (iV 1) w fun x33=>
 next10 [x40,x33] w))
 (rL 28 x4 w fun x50=>
 cL 65 [x50] w fun x51 w=>
 LOOPI [10] [(iV 0)] w fun u18 w next18=>
 rN 57 3 x21 w fun x54=>
 rC (u18 10) x54 w fun x55=>
 BR x55
 (rB .lss 3 T0 U0 (u18 10) (iV 12) w fun x58=>
 BR x58
 (LOOPI [11,12] [(Value.bool false),(iV 0)] w fun u22 w next22=>
 rN 62 3 x51 w fun x64=>
 rC (u22 12) x64 w fun x65=>
 BR x65
 (LOOPI [11,13] [(u22 11),(iV 0)] w fun u25 w next25=>
 rN 62 3 x51 w fun x70=>
 rC (u25 13) x70 w fun x71=>
 BR x71
 (rD (Op.unary .not (u25 11)) w fun x74=>
 BR x74
 ((fun w=>rX 62 x51 (u22 12) w fun x80=>
 rF 87 x80 0 w fun x81=>
 rL 3 x81 w fun x82=>
 rX 57 x21 (u18 10) w fun x85=>
 rF 60 x85 1 w fun x86=>
 rL 3 x86 w fun x87=>
 rB .eql 3 T0 T0 x82 x87 w fun x88=>
 BR x88
 (rX 62 x51 (u25 13) w fun x92=>
 rF 87 x92 0 w fun x93=>
 rL 3 x93 w fun x94=>
 rX 57 x21 (u18 10) w fun x97=>
 rF 60 x97 2 w fun x98=>
 rL 3 x98 w fun x99=>
 rB .eql 3 T0 T0 x94 x99 w fun x100=>
 BR x100
 (rX 62 x51 (u22 12) w fun x105=>
 rF 87 x105 1 w fun x106=>
 rL 3 x106 w fun x107=>
 rX 57 x21 (u18 10) w fun x110=>
 rF 60 x110 0 w fun x111=>
 rL 3 x111 w fun x112=>
 rB .eql 3 T0 T0 x107 x112 w fun x113=>
 BR x113
 (rL 28 x3 w fun x116=>
 rX 62 x51 (u22 12) w fun x119=>
 rL 87 x119 w fun x120=>
 rX 62 x51 (u25 13) w fun x123=>
 rL 87 x123 w fun x124=>
 cL 66 [x116,x120,x124] w fun x125 w=>
 rA (u25 13) (iV 1) w fun x77=>
 next25 [x125,x77] w)
 (rA (u25 13) (iV 1) w fun x77=>
 next25 [(Value.bool false),x77] w))
 (rA (u25 13) (iV 1) w fun x77=>
 next25 [(Value.bool false),x77] w))
 (rA (u25 13) (iV 1) w fun x77=>
 next25 [(Value.bool false),x77] w)) (World.drew1 w))
 (rA (u22 12) (iV 1) w fun x67=>
 next22 [(u25 11),x67] w))
 (rA (u22 12) (iV 1) w fun x67=>
 next22 [(u25 11),x67] w))
 ((fun w=>rD (Op.unary .not (u22 11)) w fun x128=>
 BR x128
 (R (Value.bool false) w)
 (rB .gtr 3 T0 U0 (u18 10) (iV 0) w fun x131=>
 GBR x131
 (rB .sub 3 T0 U0 (u18 10) (iV 1) w fun x135=>
 rX 57 x21 x135 w fun x136=>
 rL 60 x136 w fun x137=>
 rX 57 x21 (u18 10) w fun x140=>
 rL 60 x140 w fun x141=>
 cL 67 [x137,x141] w fun x142 w=>
 rD (Op.unary .not x142) w fun x143=>
 BR x143
 (R (Value.bool false) w)
 (rX 57 x21 (u18 10) w fun x149=>
 rL 60 x149 w fun x150=>
 rX 57 x21 (u18 10) w fun x153=>
 rL 60 x153 w fun x154=>
 cL 67 [x150,x154] w fun x155 w=>
 BR x155
 (R (Value.bool false) w)
 (rA (u18 10) (iV 1) w fun x61=>
 next18 [x61] w)))
 (rX 57 x21 (u18 10) w fun x149=>
 rL 60 x149 w fun x150=>
 rX 57 x21 (u18 10) w fun x153=>
 rL 60 x153 w fun x154=>
 cL 67 [x150,x154] w fun x155 w=>
 BR x155
 (R (Value.bool false) w)
 (rA (u18 10) (iV 1) w fun x61=>
 next18 [x61] w))
 (BR undef
 (BR undef
 (R (Value.bool false) w)
 (rX 57 x21 (u18 10) w fun x149=>
 rL 60 x149 w fun x150=>
 rX 57 x21 (u18 10) w fun x153=>
 rL 60 x153 w fun x154=>
 cL 67 [x150,x154] w fun x155 w=>
 BR x155
 (R (Value.bool false) w)
 (rA (u18 10) (iV 1) w fun x61=>
 next18 [x61] w)))
 (rX 57 x21 (u18 10) w fun x149=>
 rL 60 x149 w fun x150=>
 rX 57 x21 (u18 10) w fun x153=>
 rL 60 x153 w fun x154=>
 cL 67 [x150,x154] w fun x155 w=>
 BR x155
 (R (Value.bool false) w)
 (rA (u18 10) (iV 1) w fun x61=>
 next18 [x61] w))))) (World.drew1 w)))
 (rN 57 3 x21 w fun x159=>
 rB .eql 3 T0 T0 (u10 6) x159 w fun x160=>
 R x160 w))
 (rN 57 3 x21 w fun x159=>
 rB .eql 3 T0 T0 (u10 6) x159 w fun x160=>
 R x160 w))))
def cfg8:Cfg:=⟨extL,[],[(10,1125899772625348,[6,7]),(18,182687704666362864775460604089530873857364212740,[10]),(22,170141183460469231727075617697456732160,[11,12]),(25,170141183460469231436539398536531290112,[11,13])],[(27,[0,1,2,3,4,5,6,7,8,9,10,11,12,13,14,15,16,17,18,19,20,21,22,23,24,25,26,27,28,29,30,31,32,33,34,35,36,37,38,39,40,41,42,43,44,45,46,47,48,49],0),(28,[0,1,2,3,4,5,6,7,8,9,10,11,12,13,14,15,16,17,18,19,20,21,22,23,24,25,26,27,28,29],0)],[],[],[]⟩
theorem F8_call {a0:Value} {w:World} {R:VW} (h:F8 a0 w R):cL 8 [a0] w R:=co (g:=cfg8) Tryz.func8 (by kernel_rfl) (by kernel_rfl) (by kernel_rfl) h
theorem zh9 {c:DCode} {a held:Int} {i:DIns} {x:DTouch}:∀ {k:Nat},x∈zbO c a held i k→0≤x.global∧x.global<k
 | 0,h=>by simp [zbO] at h
 | k+1,h=>by
   rw [zbO] at h
   rcases List.mem_append.1 h with h | h
   · rcases List.mem_append.1 h with h | h
     · have:=zh9 h;omega
     split at h
     · simp only [List.mem_cons,List.not_mem_nil,or_false] at h
       rw [h];simp only;omega
     cases h
   split at h
   · simp only [List.mem_cons,List.not_mem_nil,or_false] at h
     rw [h];simp only;omega
   cases h
theorem zrH {c:DCode} {x:DTouch} (h:x∈zfM c):0≤x.global∧x.global<c.globals.length:=by
 unfold zfM at h
 obtain ⟨i,_,hx⟩:=List.mem_flatMap.1 h
 unfold zoQ zc2 at hx
 split at hx
 · exact zh9 hx
 cases hx
theorem zjy {c:DCode} (hc:CodeR c) {r:DRace} (h:r∈zdx c) :
   ∃ i j,∃ (hi:i<(zfM c).length) (hj:j<(zfM c).length),(zfM c)[i].at_=r.a∧(zfM c)[j].at_=r.b∧(zfM c)[i].global=r.g∧zda (zfM c)[i] (zfM c)[j]∧zf5 c (zar c (zfM c)[i].at_).toNat (zar c (zfM c)[j].at_).toNat:=by
 have hp:=List.pairwise_iff_getElem.1 (zrE c)
 unfold zdx at h
 rw [if_pos hc,zmv] at h
 generalize zfM c=T at *
 obtain ⟨i,hi,h⟩:=List.mem_flatMap.1 h
 have hi:=List.mem_range.1 hi
 rw [zit hi] at h
 obtain ⟨b,hb,h⟩:=List.mem_flatMap.1 h
 obtain ⟨j,hj,rfl⟩:=List.getElem_of_mem hb
 simp only [List.getElem_drop] at h
 have hj':i+j<T.length:=by rw [List.length_drop] at hj;omega
 unfold rc1 at h
 split at h
 · rename_i hcl
   simp only [List.mem_cons,List.not_mem_nil,or_false] at h
   have hle:T[i].at_≤T[i+j].at_:=by
     rcases Nat.eq_zero_or_pos j with h0 | h0
     · subst h0;exact Int.le_refl _
     exact hp i (i+j) hi hj' (by omega)
   refine ⟨i,i+j,hi,hj',?_,?_,?_,hcl.1,hcl.2⟩
   · rw [h];unfold zd9;simp only;omega
   · rw [h];unfold zd9;simp only;omega
   rw [h];rfl
 cases h
theorem zrI {c:DCode} (hc:CodeR c) {r:DRace} (h:r∈zdx c):0≤r.g∧r.g<c.globals.length:=by
 obtain ⟨i,j,hi,hj,_,_,hg,_⟩:=zjy hc h
 rw [←hg]
 exact zrH (List.getElem_mem hi)
theorem zpC {c:DCode} (hc:CodeR c) {g:Nat} (h:0<(zlw c (g:Int)).length):(g:Int)∉ztb c:=by
 intro hq
 obtain ⟨r,hr⟩:=List.exists_mem_of_length_pos h
 obtain ⟨hr,hrg⟩:=List.mem_filter.1 hr
 have hrg:r.g=g:=of_decide_eq_true hrg
 obtain ⟨i,j,hi,hj,_,_,hg,hcl,_⟩:=zjy hc hr
 obtain ⟨g',hg',hge⟩:=List.mem_map.1 hq
 have:g'=g:=by omega
 subst this
 have he:=(List.mem_filter.1 hg').2
 unfold qtP ziu at he
 rw [List.isEmpty_iff,List.map_eq_nil_iff,List.filter_eq_nil_iff] at he
 have hw:=hcl.2.1
 have hgl:=hcl.1
 rcases hw with hw | hw
 · exact he _ (List.getElem_mem hi) (by simp [wrP,hw,hg,hrg])
 exact he _ (List.getElem_mem hj) (by simp [wrP,hw,←hgl,hg,hrg])
theorem zoS (k:Nat):∀ L:List DRace,(L.filter fun r=>decide (r.g<((k+1:Nat):Int))).length=(L.filter fun r=>decide (r.g<(k:Int))).length+(L.filter fun r=>decide (r.g=(k:Int))).length
 | []=>rfl
 | r :: L=>by
   have ih:=zoS k L
   rw [List.filter_cons,List.filter_cons,List.filter_cons]
   by_cases h1:r.g<(k:Int)
   · have h2:r.g<((k+1:Nat):Int):=by omega
     have h3:¬r.g=(k:Int):=by omega
     simp only [h1,h2,h3,decide_true,decide_false,if_true,List.length_cons,Bool.false_eq_true,if_false]
     omega
   by_cases h3:r.g=(k:Int)
   · have h2:r.g<((k+1:Nat):Int):=by omega
     simp only [h1,h2,h3,decide_true,decide_false,if_true,List.length_cons,Bool.false_eq_true,if_false]
     have h4:(k:Int)<((k+1:Nat):Int):=by omega
     simp only [h4,decide_true,if_true,List.length_cons]
     have h5:¬(k:Int)<(k:Int):=by omega
     simp only [h5,decide_false,Bool.false_eq_true,if_false]
     omega
   have h2:¬r.g<((k+1:Nat):Int):=by omega
   simp only [h1,h2,h3,decide_false,Bool.false_eq_true,if_false]
   exact ih
theorem zsD {L:List DRace} (h:∀ r∈L,0≤r.g):(L.filter fun r=>decide (r.g<((0:Nat):Int)))=[]:=by
 rw [List.filter_eq_nil_iff]
 intro r hr hd
 have:=of_decide_eq_true hd
 have:=h r hr
 omega
theorem zt3 {L:List DRace} {k:Nat} (h:∀ r∈L,r.g<k):(L.filter fun r=>decide (r.g<(k:Int)))=L:=by
 rw [List.filter_eq_self]
 exact fun r hr=>decide_eq_true (h r hr)
set_option maxRecDepth 20000 in
theorem zsE {w W:World} {v0:Value} {bs:List UInt8} (h0:Is W v0 bs) (e0:Ext W w):CALL Tryz.prog 8 [v0] w fun r w'=>Ext w w'∧(r=.bool true):=by
  refine F8_call ?_
  unfold F8
  refine (zuY h0 e0).mono ?_
  rintro _ w1 ⟨hx1,rfl⟩
  refine br (fun _=>⟨hx1,rfl⟩) (fun hb=>?_)
  have hlen:bs.length≤1048576:=by omega
  have hc:=(zpr bs).1
  have hd:=fun {w2:World} (hx:Ext w w2)=>znw h0 (e0.trans hx) hlen
  generalize ziq bs=c at *
  have h6:=hc.1.globals6
  have hRl:=zkm c
  have hRp:=fun r hr=>zjy hc (r:=r) hr
  have hRg:=fun r hr=>zrI hc (r:=r) hr
  have hRo:∀ g:Nat,zlw c (g:Int)=(zdx c).filter fun r=>decide (r.g=(g:Int)):=fun _=>rfl
  have hRs:(zdx c).Pairwise ltR:=by unfold zdx;rw [if_pos hc];exact zoJ _
  have hqn:=fun g h=>zpC hc (g:=g) h
  have hTl:=zf4 hc
  have hTm:=fun x (hx:x∈zfM c)=>zlv hc hx
  have hRc:=fun {w2 W2:World} {v:Value} (h:Is W2 v c) (e:Ext W2 w2)=>zgc h e
  have hRc2:=fun {w2 W2:World} {v:Value} (h:Is W2 v c) (e:Ext W2 w2)=>zjG h e
  have hRt:=fun {w2 W2:World} {v:Value} (h:Is W2 v c) (e:Ext W2 w2)=>zfo h e hc
  generalize zdx c=R at *
  generalize zfM c=T at *
  refine (hd hx1).mono ?_
  rintro v16 w2 ⟨hx2,o16⟩
  refine zce ztq rfl zbm rfl o16.is (Ext.refl _) fun w3 hx3 hA3 hV3=>?_
  have hx13:=hx1.trans (hx2.trans hx3)
  refine (hd hx13).mono ?_
  rintro v18 w4 ⟨hx4,o18⟩
  refine zce ztq rfl zbm rfl o18.is (Ext.refl _) fun w5 hx5 hA4 hV4=>?_
  have hx35:=hx4.trans hx5
  refine zab zbm hA3 hx35 fun v20 h20=>?_
  refine (hRc h20 hx35).mono ?_
  rintro v21 w6 ⟨hx6,o21⟩
  have h21:=o21.is
  refine zab zbm hA4 hx6 fun v23 h23=>?_
  refine (hRc2 h23 hx6).mono ?_
  rintro v24 w7 ⟨hx7,o24⟩
  refine (zmA h21 hx7 o24.is (Ext.refl _)).mono ?_
  rintro _ w8 ⟨hx8,rfl⟩
  refine zaX ?_
  refine br (fun h=>absurd rfl h) (fun _=>?_)
  have hx68:=hx7.trans hx8
  have hx58:=hx6.trans hx68
  have hx38:=hx35.trans hx58
  have hx18:=hx13.trans hx38
  refine zas c.globals.length (fun k us w'=>us=[.int .i64 (((R.filter fun r=>decide (r.g<(k:Int))).length:Nat):Int),.int .i64 (k:Int)]∧k≤c.globals.length∧Ext w8 w') 0 (Nat.zero_le _) ⟨by rw [zsD fun r hr=>(hRg r hr).1];rfl,Nat.zero_le _,Ext.refl _⟩ ?_
  rintro k m u w9 hkm ⟨hu,hkl,hx9⟩
  obtain ⟨hu1,hu2⟩:=zcC hu
  rw [hu1,hu2]
  have hx59:=hx58.trans hx9
  have hx39:=hx38.trans hx9
  refine zaa zdY ?_
  refine zab zcj (zbj hA4) hx59 fun v29 h29=>?_
  refine zag u24 h29 ?_
  refine zah ?_
  refine br (fun hlt=>?_) (fun hge=>?_)
  · have hk:k<c.globals.length:=by omega
    refine zab zbm hA3 hx39 fun v34 h34=>?_
    refine (zjH (g:=(k:Int)) h34 hx39).mono ?_
    rintro v36 w10 ⟨hx10,o36⟩
    have hx910:=hx9.trans hx10
    have hl1:=List.length_filter_le (fun r:DRace=>decide (r.g<(k:Int))) R
    have hl2:=List.length_filter_le (fun r:DRace=>decide (r.g=(k:Int))) R
    have hst:=zoS k R
    have hqk:=hqn k
    rw [hRo k] at o36 hqk
    refine zag u57 o36.is ?_
    refine zdo (by unfold I64;omega) ?_
    have hsum:(((R.filter fun r=>decide (r.g<(k:Int))).length:Nat):Int)+((R.filter fun r=>decide (r.g=(k:Int))).length:Nat)=(((R.filter fun r=>decide (r.g<((k+1:Nat):Int))).length:Nat):Int):=by omega
    rw [hsum]
    refine zag u57 o36.is ?_
    refine zc8 ?_
    refine br (fun hp=>?_) (fun _=>?_)
    · refine zab zbm hA4 (hx59.trans hx10) fun v45 h45=>?_
      refine (zjI h45 (hx59.trans hx10) hc).mono ?_
      rintro v46 w11 ⟨hx11,o46⟩
      refine (zrv (y:=(k:Int)) o46.is (Ext.refl _)).mono ?_
      rintro _ w12 ⟨hx12,rfl⟩
      refine br (fun h=>absurd h (hqk (by omega))) (fun _=>?_)
      refine zaf (by omega) ?_
      exact ⟨m-1,by omega,k+1,by omega,rfl,by omega,hx910.trans (hx11.trans hx12)⟩
    refine zaf (by omega) ?_
    exact ⟨m-1,by omega,k+1,by omega,rfl,by omega,hx910⟩
  have hke:k=c.globals.length:=by omega
  have hall:(R.filter fun r=>decide (r.g<(k:Int)))=R:=zt3 fun r hr=>by rw [hke];exact (hRg r hr).2
  rw [hall] at hu1 ⊢
  refine zab zbm hA4 hx59 fun v50 h50=>?_
  refine (hRt h50 hx59).mono ?_
  rintro v51 w10 ⟨hx10,o51⟩
  have h51:=o51.is
  have hx810:=hx9.trans hx10
  have hx310:=hx38.trans hx810
  have hx610:=hx68.trans hx810
  have hx110:=hx18.trans hx810
  refine zas R.length (fun k us w'=>us=[.int .i64 (k:Int)]∧k≤R.length∧Ext w10 w') 0 (Nat.zero_le _) ⟨rfl,Nat.zero_le _,Ext.refl _⟩ ?_
  rintro n m2 u2 w11 hkm2 ⟨hu3,hnl,hx11⟩
  simp only [List.map_cons,List.map_nil,List.cons.injEq,and_true] at hu3
  rw [hu3]
  refine zag u57 h21 ?_
  refine zah ?_
  have hend:RD Tryz.prog (Builtin.len_ #[57] 3 [v21].toArray) w11 fun x159=>RD Tryz.prog (bin .eql 3 (.tmp 0) (.tmp 0) (.int .i64 ((R.length:Nat):Int)) x159) w11 fun x160=>Ext w w11∧x160=.bool true:=by
    refine zag u57 h21 ?_
    refine zai ?_
    exact ⟨hx110.trans hx11,by simp⟩
  refine br (fun hlt2=>?_) (fun _=>hend)
  refine zah ?_
  refine br (fun h12=>?_) (fun _=>hend)
  have hn:n<R.length:=by omega
  obtain ⟨i0,j0,hi0,hj0,ea,eb,eg,hcl,hbe⟩:=hRp R[n] (List.getElem_mem hn)
  have hx611:=hx610.trans hx11
  have hx311:=hx310.trans hx11
  refine zas T.length (fun a us w'=>∃ ok:Bool,us=[.bool ok,.int .i64 (a:Int)]∧a≤T.length∧Ext w11 w'∧(ok=false→a≤i0)) 0 (Nat.zero_le _) ⟨false,rfl,Nat.zero_le _,Ext.refl _,fun _=>Nat.zero_le _⟩ ?_
  rintro a m3 u4 w12 hkm3 ⟨ok,hu4,hal,hx12,hok⟩
  obtain ⟨hu5,hu6⟩:=zcC hu4
  rw [hu5,hu6]
  refine zag u62 h51 ?_
  refine zah ?_
  refine br (fun hlt3=>?_) (fun hge3=>?_)
  · have ha:a<T.length:=by omega
    obtain ⟨p,hp⟩:=hTm T[a] (List.getElem_mem ha)
    refine zas T.length (fun b us w'=>∃ ok:Bool,us=[.bool ok,.int .i64 (b:Int)]∧b≤T.length∧Ext w12 w'∧(ok=false→a≤i0∧(a=i0→b≤j0))) 0 (Nat.zero_le _) ⟨ok,rfl,Nat.zero_le _,Ext.refl _,fun h=>⟨hok h,fun _=>Nat.zero_le _⟩⟩ ?_
    rintro b m4 u7 w13 hkm4 ⟨ok2,hu8,hbl,hx13',hok2⟩
    obtain ⟨hu9,hu10⟩:=zcC hu8
    rw [hu9,hu10]
    refine zag u62 h51 ?_
    refine zah ?_
    refine br (fun hlt4=>?_) (fun hge4=>?_)
    · have hbl':b<T.length:=by omega
      refine zaJ ?_
      refine zbw (fun hnk=>?_) (fun hnk=>?_)
      · have hk2:ok2=false:=by simpa using hnk
        obtain ⟨hai,hbj⟩:=hok2 hk2
        obtain ⟨q,hq⟩:=hTm T[b] (List.getElem_mem hbl')
        have hx14:=zaj w13
        have hx1114:=hx12.trans (hx13'.trans hx14)
        have hx1014:=hx11.trans hx1114
        have hx614:=hx611.trans hx1114
        have hnext:¬(a=i0∧b=j0)→a≤i0∧(a=i0→b+1≤j0):=fun h=>⟨hai,fun e=>by
          have:=hbj e
          have:b≠j0:=fun e2=>h ⟨e,e2⟩
          omega⟩
        refine zad u62 ze3 h51 ha fun b80 o80 hA80=>?_
        refine zaa zdZ ?_
        refine zac ty3 (za7 hA80) hx1014 fun _=>?_
        refine zad u57 zcG h21 hn fun b85 o85 hA85=>?_
        refine zaa ziH ?_
        refine zac ty3 (zez hA85) hx614 fun _=>?_
        refine zai ?_
        refine br (fun hea=>?_) (fun hea=>?_)
        · refine zad u62 ze3 h51 hbl' fun b92 o92 hA92=>?_
          refine zaa zdZ ?_
          refine zac ty3 (za7 hA92) hx1014 fun _=>?_
          refine zad u57 zcG h21 hn fun b97 o97 hA97=>?_
          refine zaa zlR ?_
          refine zac ty3 (zhh hA97) hx614 fun _=>?_
          refine zai ?_
          refine br (fun heb=>?_) (fun heb=>?_)
          · refine zad u62 ze3 h51 ha fun b105 o105 hA105=>?_
            refine zaa zhW ?_
            refine zac ty3 (zcp hA105) hx1014 fun _=>?_
            refine zad u57 zcG h21 hn fun b110 o110 hA110=>?_
            refine zaa zhU ?_
            refine zac ty3 (zdQ hA110) hx614 fun _=>?_
            refine zai ?_
            refine br (fun heg=>?_) (fun heg=>?_)
            · refine zab zbm hA3 (hx311.trans hx1114) fun v116 h116=>?_
              refine zad u62 ze3 h51 ha fun b119 o119 hA119=>?_
              refine zab ze3 hA119 hx1014 fun v120 h120=>?_
              refine zad u62 ze3 h51 hbl' fun b123 o123 hA123=>?_
              refine zab ze3 hA123 hx1014 fun v124 h124=>?_
              refine (zjJ h116 (hx311.trans hx1114) h120 hx1014 h124 hx1014 hc hp hq).mono ?_
              rintro _ w15 ⟨hx15,x,rfl,hx⟩
              refine zaf (by omega) ?_
              refine ⟨m4-1,by omega,b+1,by omega,x,rfl,by omega,hx13'.trans (hx14.trans hx15),fun hf=>hnext fun he=>?_⟩
              obtain ⟨rfl,rfl⟩:=he
              rw [hx hcl hbe] at hf;cases hf
            refine zaf (by omega) ?_
            refine ⟨m4-1,by omega,b+1,by omega,false,rfl,by omega,hx13'.trans hx14,fun hf=>hnext fun he=>?_⟩
            obtain ⟨rfl,rfl⟩:=he
            exact heg eg
          refine zaf (by omega) ?_
          refine ⟨m4-1,by omega,b+1,by omega,false,rfl,by omega,hx13'.trans hx14,fun hf=>hnext fun he=>?_⟩
          obtain ⟨rfl,rfl⟩:=he
          exact heb eb
        refine zaf (by omega) ?_
        refine ⟨m4-1,by omega,b+1,by omega,false,rfl,by omega,hx13'.trans hx14,fun hf=>hnext fun he=>?_⟩
        obtain ⟨rfl,rfl⟩:=he
        exact hea ea
      have hk2:ok2=true:=by simpa using hnk
      refine zaf (by omega) ?_
      exact ⟨m3-1,by omega,a+1,by omega,ok2,rfl,by omega,hx12.trans hx13',fun h=>by rw [hk2] at h;cases h⟩
    refine zaf (by omega) ?_
    refine ⟨m3-1,by omega,a+1,by omega,ok2,rfl,by omega,hx12.trans hx13',fun h=>?_⟩
    obtain ⟨h1,h2⟩:=hok2 h
    have:a≠i0:=fun e=>by have:=h2 e;omega
    omega
  have hokt:ok=true:=by
    cases e:ok
    · have:=hok e;omega
    rfl
  subst hokt
  have hx13':=zaj w12
  have hx1113:=hx12.trans hx13'
  have hx1013:=hx11.trans hx1113
  have hx613:=hx610.trans hx1013
  refine zaJ ?_
  refine zbw (fun h=>by cases h) (fun _=>?_)
  refine zc8 ?_
  refine gbr (fun hpos=>?_) (fun hz=>?_)
  · obtain ⟨n',rfl⟩:∃ n',n=n'+1:=⟨n-1,by omega⟩
    have hn':n'<R.length:=by omega
    refine zbp (by unfold I64;omega) ?_
    rw [show ((n'+1:Nat):Int)-1=(n':Int) by omega]
    refine zad u57 zcG h21 hn' fun b136 o136 hA136=>?_
    refine zab zcG hA136 hx613 fun v137 h137=>?_
    refine zad u57 zcG h21 hn fun b140 o140 hA140=>?_
    refine zab zcG hA140 hx613 fun v141 h141=>?_
    refine (zec h137 hx613 h141 hx613).mono ?_
    rintro _ w14 ⟨hx14,rfl⟩
    refine zaX ?_
    refine br (fun h=>absurd (List.pairwise_iff_getElem.1 hRs n' (n'+1) hn' hn (by omega)) h) (fun _=>?_)
    refine zad u57 zcG h21 hn fun b149 o149 hA149=>?_
    refine zab zcG hA149 (hx613.trans hx14) fun v150 h150=>?_
    refine zad u57 zcG h21 hn fun b153 o153 hA153=>?_
    refine zab zcG hA153 (hx613.trans hx14) fun v154 h154=>?_
    refine (zec h150 (hx613.trans hx14) h154 (hx613.trans hx14)).mono ?_
    rintro _ w15 ⟨hx15,rfl⟩
    refine br (fun h=>absurd h (zdV _)) (fun _=>?_)
    refine zaf (by omega) ?_
    exact ⟨m2-1,by omega,n'+1+1,by omega,rfl,by omega,hx11.trans (hx1113.trans (hx14.trans hx15))⟩
  refine zad u57 zcG h21 hn fun b149 o149 hA149=>?_
  refine zab zcG hA149 hx613 fun v150 h150=>?_
  refine zad u57 zcG h21 hn fun b153 o153 hA153=>?_
  refine zab zcG hA153 hx613 fun v154 h154=>?_
  refine (zec h150 hx613 h154 hx613).mono ?_
  rintro _ w15 ⟨hx15,rfl⟩
  refine br (fun h=>absurd h (zdV _)) (fun _=>?_)
  refine zaf (by omega) ?_
  exact ⟨m2-1,by omega,n+1,by omega,rfl,by omega,hx11.trans (hx1113.trans hx15)⟩
theorem zsF {P:Program} {t:TypeId} (ht:P.underlying t=some (.int .u8)) (n:Nat):zlI P t UInt8 n:=by
 intro H enc w spare held cs y h
 obtain ⟨m,rfl,_,hw⟩:=DataW.trod_int ht h
 have hm:0≤m∧m≤255:=by simpa [Lit.wf,IntKind.min,IntKind.max,IntKind.signed,IntKind.bits] using hw
 refine ⟨[],UInt8.ofNat m.toNat,rfl,?_⟩
 have:((UInt8.ofNat m.toNat).toNat:Int)=m:=by
   have:(UInt8.ofNat m.toNat).toNat=m.toNat:=by simp;omega
   omega
 rw [this]
theorem zt4:∀ n,zlI Tryz.prog 22 (List UInt8) n:=ziE u22 (by kernel_rfl) (zsF u5)
end Go.Proofs.YtbnjpfjjmhodnaaGreat
namespace Go.Proofs.YtbnjpfjjmhodnaaGreat
open Go
theorem zbE {a b:Bool} (h:a=true) (k:b=true):(a&&b)=true:=by rw [h,k];rfl
theorem zt5:laidOutB Tryz.prog=true:=by kernel_rfl
theorem zt6:mapsRowed Tryz.prog=true:=by kernel_rfl
theorem zsG:(Rows.fnMachinesRow.plainKeys == Tryz.prog.plainKeys)=true:=by kernel_rfl
theorem zsH:Tryz.prog.stopsHeard=true:=by kernel_rfl
theorem zu3:Tryz.prog.mayEnter=true:=by kernel_rfl
theorem zt7:(Rows.fnMachinesRow.lifted == Tryz.prog.liftsFinal)=true:=by kernel_rfl
theorem zt8:(Tryz.prog.make == some Rows.fnMachinesRow.make)=true:=by kernel_rfl
end Go.Proofs.YtbnjpfjjmhodnaaGreat
namespace Go.Proofs.YtbnjpfjjmhodnaaGreat.fnRaces
open Go.ChangeShapes Go.WideShapes Go.ChangeAt Go.RowKit Go.Sh
theorem own:ownKnob Tryz.prog.godebug=none:=by kernel_rfl
theorem zt9:laidOutB Tryz.prog=true:=by kernel_rfl
set_option maxRecDepth 100000 in
theorem lifted (os:Os) (started:os.Started) (H:Type) (enc:TypeId×Value→H) :
    ReturnsInHanded {} Tryz.checked os 8 .any (Rows.fnRacesSpec.pre6 enc Tryz.prog Tryz.f8 Rows.fnRacesRow.domain false) (Rows.fnRacesSpec.post enc Tryz.prog Tryz.f8 false true false false):=by
  refine returnsInHanded_of_change (C:=Tryz.checked) own started (by kernel_rfl) Tryz.func8
    (ChangeSpec.witness6 (enc:=enc) (C:=Tryz.checked) false ⟨#[],#[.slice none 0 0],[]⟩ 8 (by kernel_rfl) (by kernel_rfl) (by kernel_rfl) (by kernel_rfl)) ?_
  intro W base args ds gs before hval0 hW hcnd _
  have hval:∀ (j:Nat) t v,Tryz.f8.params[j]?=some t→args[j]?=some v→Value.okWide Tryz.prog W .any base t v:=hval0
  have hW':=hW
  obtain ⟨p,q,hA0,hV,rfl,hfz,hnd⟩:=hW
  have hA:DataW.TrodAll enc Tryz.prog W 0 (fun _=>true) true Tryz.f8.params.toList args.toList ds p:=hA0
  rw [Tryz.params8] at hA hval
  obtain ⟨v0,vs0,d0,ds0,p0,q0,hargs,rfl,rfl,h0,r0⟩:=trodAll_cons hA
  obtain ⟨rfl,rfl,rfl⟩:=trodAll_nil r0
  obtain rfl:args=#[v0]:=by cases args;simp_all
  obtain ⟨rfl,rfl⟩:=trodVars_none hV
  have lt0:∀ x∈p0,x.block<W.heap.size:=by obtain ⟨m,hm⟩:=h0;exact DataW.trod_lt m _ _ _ hm
  obtain ⟨x0,i0⟩:=zmW (α:=UInt8) u22 zt4 (hval 0 22 v0 rfl rfl) h0
  clear hA0 hval0
  obtain ⟨hcall⟩:=zsE i0 (Ext.refl W)
  refine hcall.mono fun e W' ⟨v,he,bel,hv⟩=>?_
  subst he hv
  exact ⟨_,rfl,_,_,_,[],_,[],hW',trodAll_mk1 (shut_bool Tryz.underlying4 _),(trodAll_cons_mk (Below.trod zt9 (by kernel_rfl) (of_decide_eq_true (by kernel_rfl)) h0 bel lt0) trodAll_mk0),rfl,bel.frame _,fun h=>by cases h⟩
theorem zrJ:(Rows.fnRacesRow.inPlace == Tryz.prog.inPlace 8)=true:=by kernel_rfl
theorem zmJ:(Rows.fnRacesRow.unfollowed == Tryz.prog.unfollowed 8)=true:=by kernel_rfl
theorem zpD:(Rows.fnRacesRow.recurses == Tryz.prog.recurses 8)=true:=by kernel_rfl
theorem zua:(Rows.fnRacesRow.named == Tryz.prog.varsNamed 8)=true:=by kernel_rfl
theorem closed:joinedFacts Tryz.prog 8 Tryz.f8 Rows.fnRacesSpec Rows.fnRacesRow=true:=by
 unfold joinedFacts
 exact (zbE (zbE (zbE (zbE (zbE (zbE (zbE (zbE (zbE (zbE (zbE (zbE (zbE (zbE (zbE (zbE (zbE (zbE (zbE (zbE (zbE (zbE (zbE (zbE (zbE (zbE (zbE (zbE (zbE (zbE (zbE (by kernel_rfl) zt5) zt6) (by kernel_rfl)) (by kernel_rfl)) (by kernel_rfl)) (by kernel_rfl)) (by kernel_rfl)) (by kernel_rfl)) zrJ) zmJ) zpD) zua) (by kernel_rfl)) (by kernel_rfl)) (by kernel_rfl)) (by kernel_rfl)) (by kernel_rfl)) (by kernel_rfl)) (by kernel_rfl)) (by kernel_rfl)) (by kernel_rfl)) zsG) (by kernel_rfl)) zsH) zu3) zt7) zt8) (by kernel_rfl)) (by kernel_rfl)) (by kernel_rfl)) (by kernel_rfl))
theorem over:Rows.fnRacesRow.holds Tryz.pinned (OpenSpec.ofChange Rows.fnRacesSpec):=
 OpenClaim.holds_of_wide 8 Tryz.f8 rfl rfl rfl rfl rfl rfl rfl ⟨rfl,rfl,rfl,rfl,rfl⟩ rfl rfl rfl rfl rfl (by kernel_rfl) Tryz.func8 closed
   (of_decide_eq_true (by kernel_rfl)) (by unfold Func.isWrapper;first | (rw [if_pos (by decide +kernel)];kernel_rfl) | (rw [if_neg (by decide +kernel)];exact ⟨rfl,rfl⟩))
   (fun os started H enc _=>lifted os started H enc)
theorem proved:Rows.FnRacesSaid:=over
end Go.Proofs.YtbnjpfjjmhodnaaGreat.fnRaces
