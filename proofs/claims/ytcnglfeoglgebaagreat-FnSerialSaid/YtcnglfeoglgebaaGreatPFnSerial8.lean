/-
  The law FnSerial of the given program returns true for every input, and its arguments read afterwards as before: the given statement Rows.FnSerialSaid.
-/
import Derived.Test.YtcnglfeoglgebaaGreatPFnSerial7
set_option linter.unusedVariables false
set_option linter.unusedSimpArgs false
set_option linter.unusedSectionVars false
namespace Go.Sh
open Rep (rep)
structure DEc where
 a:Raw
 b:Raw
 c:Raw
 d:Raw
 ins:RIns
theorem DEc.ext_iff {x y:DEc}:x=y↔(x.a=y.a∧x.b=y.b∧x.c=y.c∧x.d=y.d∧x.ins=y.ins):=⟨fun h=>by rw [h];exact ⟨rfl,rfl,rfl,rfl,rfl⟩,fun h=>by obtain ⟨h0,h1,h2,h3,h4⟩:=h;cases x;cases y;simp only at h0 h1 h2 h3 h4;simp only [h0,h1,h2,h3,h4]⟩
instance:Rep DEc:=Rep.via fun x=>(x.a,x.b,x.c,x.d,x.ins)
instance:RepZ DEc:=⟨⟨(RepZ.zv:Raw),(RepZ.zv:Raw),(RepZ.zv:Raw),(RepZ.zv:Raw),(RepZ.zv:RIns)⟩,RepZ.zc (Raw×Raw×Raw×Raw×RIns),fun w=>RepZ.zr (α:=Raw×Raw×Raw×Raw×RIns) w⟩
theorem zpS {γ:Type} {H:List Nat→World→γ→Prop} {F:List Nat} {w:World} {b o:Nat} {G:List Nat} {x:DEc} {upd:DEc→γ} (h:Lens H F w b o G x upd) :
   ∃ G1,Lens H F w b (o+0) G1 x.a (fun y=>upd ⟨y,x.b,x.c,x.d,x.ins⟩):=by
 have h':Lens H F w b o G (x.a,x.b,x.c,x.d,x.ins) (fun p:Raw×Raw×Raw×Raw×RIns=>upd ⟨p.1,p.2.1,p.2.2.1,p.2.2.2.1,p.2.2.2.2⟩):=⟨h.here,h.sub,fun w' G' y' hc hO hs=>h.back w' G' _ hc hO hs⟩
 obtain ⟨G0,h'⟩:=h'.fst
 exact ⟨_,h'⟩
theorem zpT {γ:Type} {H:List Nat→World→γ→Prop} {F:List Nat} {w:World} {b o:Nat} {G:List Nat} {x:DEc} {upd:DEc→γ} (h:Lens H F w b o G x upd) :
   ∃ G1,Lens H F w b (o+1) G1 x.b (fun y=>upd ⟨x.a,y,x.c,x.d,x.ins⟩):=by
 have h':Lens H F w b o G (x.a,x.b,x.c,x.d,x.ins) (fun p:Raw×Raw×Raw×Raw×RIns=>upd ⟨p.1,p.2.1,p.2.2.1,p.2.2.2.1,p.2.2.2.2⟩):=⟨h.here,h.sub,fun w' G' y' hc hO hs=>h.back w' G' _ hc hO hs⟩
 obtain ⟨G0,h'⟩:=h'.snd
 obtain ⟨G1,h'⟩:=h'.fst
 exact ⟨_,h'⟩
theorem zpU {γ:Type} {H:List Nat→World→γ→Prop} {F:List Nat} {w:World} {b o:Nat} {G:List Nat} {x:DEc} {upd:DEc→γ} (h:Lens H F w b o G x upd) :
   ∃ G1,Lens H F w b (o+2) G1 x.c (fun y=>upd ⟨x.a,x.b,y,x.d,x.ins⟩):=by
 have h':Lens H F w b o G (x.a,x.b,x.c,x.d,x.ins) (fun p:Raw×Raw×Raw×Raw×RIns=>upd ⟨p.1,p.2.1,p.2.2.1,p.2.2.2.1,p.2.2.2.2⟩):=⟨h.here,h.sub,fun w' G' y' hc hO hs=>h.back w' G' _ hc hO hs⟩
 obtain ⟨G0,h'⟩:=h'.snd
 obtain ⟨G1,h'⟩:=h'.snd
 obtain ⟨G2,h'⟩:=h'.fst
 exact ⟨_,h'⟩
theorem zj4 {γ:Type} {H:List Nat→World→γ→Prop} {F:List Nat} {w:World} {b o:Nat} {G:List Nat} {x:DEc} {upd:DEc→γ} (h:Lens H F w b o G x upd) :
   ∃ G1,Lens H F w b (o+3) G1 x.d (fun y=>upd ⟨x.a,x.b,x.c,y,x.ins⟩):=by
 have h':Lens H F w b o G (x.a,x.b,x.c,x.d,x.ins) (fun p:Raw×Raw×Raw×Raw×RIns=>upd ⟨p.1,p.2.1,p.2.2.1,p.2.2.2.1,p.2.2.2.2⟩):=⟨h.here,h.sub,fun w' G' y' hc hO hs=>h.back w' G' _ hc hO hs⟩
 obtain ⟨G0,h'⟩:=h'.snd
 obtain ⟨G1,h'⟩:=h'.snd
 obtain ⟨G2,h'⟩:=h'.snd
 obtain ⟨G3,h'⟩:=h'.fst
 exact ⟨_,h'⟩
theorem zeL {γ:Type} {H:List Nat→World→γ→Prop} {F:List Nat} {w:World} {b o:Nat} {G:List Nat} {x:DEc} {upd:DEc→γ} (h:Lens H F w b o G x upd) :
   ∃ G1,Lens H F w b (o+4) G1 x.ins (fun y=>upd ⟨x.a,x.b,x.c,x.d,y⟩):=by
 have h':Lens H F w b o G (x.a,x.b,x.c,x.d,x.ins) (fun p:Raw×Raw×Raw×Raw×RIns=>upd ⟨p.1,p.2.1,p.2.2.1,p.2.2.2.1,p.2.2.2.2⟩):=⟨h.here,h.sub,fun w' G' y' hc hO hs=>h.back w' G' _ hc hO hs⟩
 obtain ⟨G0,h'⟩:=h'.snd
 obtain ⟨G1,h'⟩:=h'.snd
 obtain ⟨G2,h'⟩:=h'.snd
 obtain ⟨G3,h'⟩:=h'.snd
 exact ⟨_,h'⟩
theorem zuG {w:World} {F:List Nat} {cs:List Value} {x:DEc} (h:rep F w cs x):∃ F0 c0 F1 c1 F2 c2 F3 c3 F4 c4,F=(F0++(F1++(F2++(F3++F4))))∧cs=(c0++(c1++(c2++(c3++c4))))∧rep F0 w c0 x.a∧rep F1 w c1 x.b∧rep F2 w c2 x.c∧rep F3 w c3 x.d∧rep F4 w c4 x.ins:=by
 obtain ⟨F0,G0,c0,d0,rfl,rfl,h0,h⟩:=h
 obtain ⟨F1,G1,c1,d1,rfl,rfl,h1,h⟩:=h
 obtain ⟨F2,G2,c2,d2,rfl,rfl,h2,h⟩:=h
 obtain ⟨F3,G3,c3,d3,rfl,rfl,h3,h⟩:=h
 exact ⟨_,_,_,_,_,_,_,_,_,_,rfl,rfl,h0,h1,h2,h3,h⟩
end Go.Sh
namespace Go.Proofs.YtcnglfeoglgebaaGreat
open Go Go.Sh Go.Proofs
open Rep (rep)
def F101 (a0:Value) (w:World) (R:VW):Prop:=
 oP (Instr.box 53 a0) w fun x1 w=>
 oP (Instr.alloc 53 true (.tuple #[])) w fun x2 w=>
 rF 53 x1 3 w fun x6=>
 rL 51 x6 w fun x7=>
 rN 51 3 x7 w fun x8=>
 LOOPI [3,9] [(Value.slice none 0 0),(iV 0)] w fun u3 w next3=>
 rC (u3 9) x8 w fun x10=>
 BR x10
 (rX 51 x7 (u3 9) w fun x11=>
 rL 53 x11 w fun x12=>
 oP (Instr.alloc 53 true (.tuple #[])) w fun x5 w=>
 oS 53 x5 x12 w fun w=>
 rL 53 x5 w fun x14=>
 cL 101 [x14] w fun x15 w=>
 oP (Instr.buildSlice 51 1 #[(0,x15)]) w fun x16 w=>
 oP (Builtin.append_ #[51,51] 51 [(u3 3),x16].toArray) w fun x17 w=>
 rA (u3 9) (iV 1) w fun x18=>
 next3 [x17,x18] w)
 (rF 53 x1 0 w fun x19=>
 rL 3 x19 w fun x20=>
 rF 53 x1 1 w fun x21=>
 rL 3 x21 w fun x22=>
 rF 53 x1 2 w fun x23=>
 rL 9 x23 w fun x24=>
 rD (Instr.build 53 #[(0,x20),(1,x22),(2,x24),(3,(u3 3))]) w fun x26=>
 oS 53 x2 x26 w fun w=>
 rD (zax 53 x2) w fun r2=>R r2 w)
def cfg101:Cfg:=⟨extL,[],[(3,523816,[3,9])],[],[],[],[]⟩
theorem F101_call {a0:Value} {w:World} {R:VW} (h:F101 a0 w R):cL 101 [a0] w R:=co (g:=cfg101) Tryz.func101 (by kernel_rfl) (by kernel_rfl) (by kernel_rfl) h
open Rep (rep)
def zrR (t:DTerm):Prop:=∀ {w W:World} {v:Value},Is W v t→Ext W w→wT t≤1048576 →
 CALL Tryz.prog 101 [v] w fun r w'=>Ext w w'∧Own w.heap.size w' r t
theorem zk9 {t:DTerm} (ih:∀ x∈t.kids,zrR x):zrR t:=by
 intro w W v h e hw
 have hkl:t.kids.length≤1048576:=by have:=zt3 t;have:=zqr t.kids;omega
 have hkw:∀ x∈t.kids,wT x≤1048576:=fun x hx=>by have:=zt3 t;have:=zqr t.kids;have:=zva wT hx;omega
 refine F101_call ?_
 unfold F101
 refine zcz h e fun w1 hx1 hA=>?_
 have hs1:=hx1.size
 refine zbD zuU fun w2 hx2 hB2=>?_
 have hg2:=hB2.lt
 have hs2:=hx2.size
 refine zaa zbV ?_
 refine zab zhd (zaE hA) hx2 fun v7 h7=>?_
 refine zae u51 h7 ?_
 refine zaB t.kids.length (fun k us w'=>∃ v3 hi,us=[v3,.int .i64 (k:Int)]∧k≤t.kids.length∧hi≤w'.heap.size∧w2.heap.size≤hi∧Ext w2 w'∧RowI w2.heap.size hi 53 w' v3 (t.kids.take k)) 0 (Nat.zero_le _)
     ⟨.slice none 0 0,w2.heap.size,rfl,Nat.zero_le _,Nat.le_refl _,Nat.le_refl _,Ext.refl _,zbE _ _ _ _⟩ ?_
 rintro k m u w5 hkm ⟨v3,hi,hu,hkl5,hhi,hlo,hx5,r5⟩
 obtain ⟨hu0,hu1⟩:=ze4 hu
 rw [hu0,hu1]
 have hs5:=hx5.size
 refine zai ?_
 refine br (fun hlt=>?_) (fun hge=>?_)
 · have hk:k<t.kids.length:=by omega
   refine zad u51 zcd h7 hk fun b11 o11 hA11=>?_
   refine zab zcd hA11 (hx2.trans hx5) fun v12 h12=>?_
   refine zcA zuU rfl zcd rfl h12 (hx2.trans hx5) fun w6 hx6 hA6 hV6=>?_
   have hs6:=hx6.size
   refine zab zcd hA6 (Ext.refl _) fun v14 h14=>?_
   refine (ih _ (List.getElem_mem hk) h14 (Ext.refl _) (hkw _ (List.getElem_mem hk))).mono ?_
   rintro r15 w7 ⟨hx7,o15⟩
   have o15:=o15.toI
   have hs7:=hx7.size
   refine zcI (α:=DTerm) u51 zcd z53 zwC (by decide) (r5.ext (hx6.trans hx7)) (by omega) o15 (by omega) (by omega) (by rw [zam,List.length_take];omega) (by rw [List.length_take];omega) fun v17 w8 hc8 r8=>?_
   have hs8:=hc8.size
   refine zag (by omega) ?_
   refine ⟨m-1,by omega,k+1,by omega,v17,w8.heap.size,rfl,by omega,Nat.le_refl _,by omega,Ext.chgI (hx5.trans (hx6.trans hx7)) hc8 (by omega),?_⟩
   rwa [←List.take_succ_eq_append_getElem hk] at r8
 have hk:t.kids.length≤k:=by omega
 refine zaa zdE ?_
 refine zac ty3 (zbf hA) (hx2.trans hx5) fun hI6=>?_
 refine zaa zew ?_
 refine zac ty3 (zbv hA) (hx2.trans hx5) fun hI8=>?_
 refine zaa zdX ?_
 refine zas ty9 (zbj hA) (hx2.trans hx5) fun hS10=>?_
 have r5:=r5.own
 rw [List.take_of_length_le hk] at r5
 have ost:OwnI w2.heap.size hi w5 (.agg #[.int .i64 t.kind,.int .i64 t.num,.string t.name,v3]) t:=by
   have:=zfr hI6 hI8 hS10 r5
   rwa [DTerm.eta] at this
 obtain ⟨a,n,cap,q1⟩:=zdr r5
 subst q1
 refine zaT (cells:=#[.int .i64 t.kind,.int .i64 t.num,.string t.name,.slice a n cap]) (by kernel_rfl) ?_
 refine zbR zcd rfl (hB2.ext hx5) rfl ost fun w6 hc6 hB6=>?_
 refine zep hB6 zcd ?_
 exact ⟨Ext.chgI (hx1.trans (hx2.trans hx5)) hc6 (by omega),(ost.chg hc6 (by omega)).own.mono (by omega)⟩
theorem zji (t:DTerm):zrR t:=DTerm.ind (fun t ih {_ _ _}=>zk9 ih) t
def F100 (a0 a1:Value) (w:World) (R:VW):Prop:=
 cL 121 [a0,a1] w fun x7 w=>
 R x7 w
def cfg100:Cfg:=⟨extL,[],[],[],[],[],[]⟩
theorem F100_call {a0 a1:Value} {w:World} {R:VW} (h:F100 a0 a1 w R):cL 100 [a0,a1] w R:=co (g:=cfg100) Tryz.func100 (by kernel_rfl) (by kernel_rfl) (by kernel_rfl) h
theorem zf7 {w:World} {v0:Value} {W0:World} {l:(List ByteArray)} {s:ByteArray}  (h0:Is W0 v0 l) (e0:Ext W0 w)  :
   CALL Tryz.prog 100 [v0,.string s] w fun r w'=>Ext w w'∧(r=.int .i64 (plc s l)):=by
 refine F100_call ?_
 unfold F100
 refine (zd2 h0 e0).mono ?_
 rintro _ w1_ ⟨hx1_,rfl⟩
 refine ⟨hx1_,?_⟩
 rfl
structure NmK (g bs:Nat) (c0 c1 c2:Value) (G L P:List ByteArray) (w:World):Prop where
 m0:∃ F,Mine F w c0 G∧∀ b∈F,b<bs∧b≠g
 m1:∃ F,Mine F w c1 L∧∀ b∈F,b<bs∧b≠g
 m2:∃ F,Mine F w c2 P∧∀ b∈F,b<bs∧b≠g
structure CoF (W:World) (g bs:Nat) (c0 c1 c2 ve:Value) (G L P:List ByteArray) (I:List DIns) (F:List Nat) (w:World):Prop where
 oat:∃ rv,OAt F w g 0 (⟨⟨c0⟩,⟨c1⟩,⟨c2⟩,⟨ve⟩,⟨rv,I⟩⟩:DEc)
 nm:NmK g bs c0 c1 c2 G L P w
 old:Ext W w
 gW:W.heap.size≤g
 gb:g<bs
 Wb:bs≤w.heap.size
 Fb:∀ c∈F,bs≤c
section
variable {W w w':World} {g bs:Nat} {c0 c1 c2 ve:Value} {G L P:List ByteArray} {I:List DIns} {F F':List Nat}
theorem NmK.keep (h:NmK g bs c0 c1 c2 G L P w) (hk:∀ b,b<bs→b≠g→b<w.heap.size→w'.heap[b]?=w.heap[b]?):NmK g bs c0 c1 c2 G L P w':=by
 obtain ⟨⟨F0,a0,b0⟩,⟨F1,a1,b1⟩,⟨F2,a2,b2⟩⟩:=h
 exact ⟨⟨F0,a0.keep fun b hb=>hk b (b0 b hb).1 (b0 b hb).2 (a0.lt b hb),b0⟩,⟨F1,a1.keep fun b hb=>hk b (b1 b hb).1 (b1 b hb).2 (a1.lt b hb),b1⟩,⟨F2,a2.keep fun b hb=>hk b (b2 b hb).1 (b2 b hb).2 (a2.lt b hb),b2⟩⟩
theorem CoF.lt (h:CoF W g bs c0 c1 c2 ve G L P I F w):g<w.heap.size∧(∀ c∈F,c<w.heap.size)∧g∉F∧∀ c∈F,W.heap.size≤c:=by
 obtain ⟨rv,h2⟩:=h.oat
 have:=h2.lts
 have h6:=h.gb
 have h7:=h.gW
 exact ⟨this g (by simp),fun c hc=>this c (by simp [hc]),fun hm=>by have:=h.Fb g hm;omega,fun c hc=>by have:=h.Fb c hc;omega⟩
theorem CoF.ext (h:CoF W g bs c0 c1 c2 ve G L P I F w) (hx:Ext w w'):CoF W g bs c0 c1 c2 ve G L P I F w':=by
 obtain ⟨rv,h2⟩:=h.oat
 exact ⟨⟨rv,h2.ext hx⟩,h.nm.keep fun b _ _ hb=>hx.heap hb,h.old.trans hx,h.gW,h.gb,Nat.le_trans h.Wb hx.size,h.Fb⟩
theorem CoF.turn {I':List DIns} {rv:Value} (h:CoF W g bs c0 c1 c2 ve G L P I F w) (hc:Chg (g :: F) w w') (hO:OAt F' w' g 0 (⟨⟨c0⟩,⟨c1⟩,⟨c2⟩,⟨ve⟩,⟨rv,I'⟩⟩:DEc)) (hF:∀ c∈F',c∈F∨w.heap.size≤c):CoF W g bs c0 c1 c2 ve G L P I' F' w':=by
 have hb:=h.Wb
 have h1:=h.gW
 have h2:=h.gb
 refine ⟨⟨rv,hO⟩,h.nm.keep fun b hb1 hb2 hb3=>hc.block b hb3 fun hm=>?_,h.old.chgL hc fun c hcm=>?_,h1,h2,Nat.le_trans hb hc.size,fun c hcm=>(hF c hcm).elim (h.Fb c) fun h=>by omega⟩
 · rcases List.mem_cons.1 hm with e | hm
   · exact hb2 e
   have:=h.Fb b hm;omega
 rcases List.mem_cons.1 hcm with rfl | hcm
 · exact h1
 have:=h.Fb c hcm;omega
theorem zrS {j:Nat} {cj:Value} {l:List ByteArray} (h:CoF W g bs c0 c1 c2 ve G L P I F w) (hj:(j=0∧cj=c0∧l=G)∨(j=1∧cj=c1∧l=L)∨(j=2∧cj=c2∧l=P)) :
   w.rangeAt g (0+j) [cj]∧Is w cj l:=by
 obtain ⟨rv,hO⟩:=h.oat
 obtain ⟨⟨F0,a0,b0⟩,⟨F1,a1,b1⟩,⟨F2,a2,b2⟩⟩:=h.nm
 rcases hj with ⟨rfl,rfl,rfl⟩ | ⟨rfl,rfl,rfl⟩ | ⟨rfl,rfl,rfl⟩
 · obtain ⟨G1,hL⟩:=zpS (Lens.var hO)
   obtain ⟨cs,⟨_,rfl,_⟩,hr,_⟩:=hL.here
   exact ⟨hr,a0.is⟩
 · obtain ⟨G1,hL⟩:=zpT (Lens.var hO)
   obtain ⟨cs,⟨_,rfl,_⟩,hr,_⟩:=hL.here
   exact ⟨hr,a1.is⟩
 obtain ⟨G1,hL⟩:=zpU (Lens.var hO)
 obtain ⟨cs,⟨_,rfl,_⟩,hr,_⟩:=hL.here
 exact ⟨hr,a2.is⟩
theorem zg7 (h:CoF W g bs c0 c1 c2 ve G L P I F w):∃ rv,w.rangeAt g (0+4) [rv]∧Is w rv I∧OAt F w g 0 (⟨⟨c0⟩,⟨c1⟩,⟨c2⟩,⟨ve⟩,⟨rv,I⟩⟩:DEc):=by
 obtain ⟨rv,hO⟩:=h.oat
 obtain ⟨G1,hL⟩:=zeL (Lens.var hO)
 obtain ⟨cs1,⟨rfl,hrow⟩,hr1,_⟩:=hL.here
 exact ⟨rv,hr1,hrow.own.is,hO⟩
theorem znM {w2 w3:World} {rv u:Value} {x:DIns} {lo hi:Nat} {K:World→Prop} (h:CoF W g bs c0 c1 c2 ve G L P I F w2) (hO:OAt F w2 g 0 (⟨⟨c0⟩,⟨c1⟩,⟨c2⟩,⟨ve⟩,⟨rv,I⟩⟩:DEc)) (hx:Ext w2 w3) (o:OwnI lo hi w3 u x) (hlo:w2.heap.size≤lo) (hlo2:lo≤w3.heap.size)
   (hI:I.length≤1000000) (k:∀ w4 F4,Chg (g :: F) w2 w4→CoF W g bs c0 c1 c2 ve G L P (I++[x]) F4 w4→(∀ c∈F4,c∈F∨w2.heap.size≤c)→K w4) :
   OP Tryz.prog (Instr.buildSlice 34 1 #[(0,u)]) w3 fun x49 w=>ExtX (fun c=>c∈F) w3 w∧OP Tryz.prog (Builtin.append_ #[34,34] 34 [rv,x49].toArray) w fun x50 w'=>
     ExtX (fun c=>c∈F) w w'∧NIL (.pointer (some ⟨g,0,none⟩)) (RDX Tryz.prog (fun c=>c∈F) (Instr.fieldAt 36 (.pointer (some ⟨g,0,none⟩)) 4) w' fun x52=>OPU Tryz.prog (Instr.storeAt 34 x52 x50) w' fun w=>K w):=by
 obtain ⟨e1,e2,e3,e5⟩:=h.lt
 have hs3:=hx.size
 obtain ⟨GX,hMX,hGX⟩:=o
 have hO3:=hO.ext hx
 obtain ⟨G1,hL1⟩:=zeL (Lens.var hO3)
 obtain ⟨cs1,⟨rfl,hrow⟩,hr1,hnG,_,hg1,_⟩:=hL1.here
 have hGF:∀ c∈G1,c∈F:=fun c hc=>by
   rcases List.mem_cons.1 (hL1.sub c (by simp [hc])) with e | h
   · exact absurd (e▸hc) hg1
   exact h
 have hlts:=hO3.lts
 refine zdK (β:=DIns) (G:=G1) u34 zdY z84 zwo (by decide) hrow hnG hMX (fun c hc hc'=>by have:=hGX c hc;have:=e2 c (hGF c hc');omega) (by rw [zam];show I.length+1≤_;omega) (by show (I.length+1)*_≤_;omega) (fun w4 v12 w5 G' hx4 hc5 hR5 hN5 hs5=>?_) fun s' w4 hx4 h=>⟨hx4.toX,h⟩
 have hs4:=hx4.size
 refine ⟨hc5.toX (fun c hc=>hGF c hc),?_⟩
 refine NIL.mk rfl ?_
 refine zb1 zaG ?_
 have hc35:Chg G1 w3 w5:=(hx4.chg G1).trans hc5
 refine zjd zdi hL1 hlts hc35 hR5 hN5 (fun c hc=>?_) fun w6 hc6 ⟨F',hO6,hF6⟩=>?_
 · rcases hs5 c hc with h | h | h
   · exact .inl h
   · refine .inr fun hm=>?_
     have:=hGX c h
     rcases List.mem_cons.1 hm with e | hm
     · omega
     have:=e2 c hm;omega
   exact .inr fun hm=>by have:=hlts c hm;omega
 have hgF6:g∉F':=by obtain ⟨_,_,_,_,_,hn,_⟩:=hO6;exact hn
 have hc26:Chg (g :: F) w2 w6:=(hx.chg _).trans (hc6.mono fun c hc=>by
   rcases List.mem_cons.1 hc with rfl | hc
   · simp
   simp [hGF c hc])
 have hF':∀ c∈F',c∈F∨w2.heap.size≤c:=fun c hc=>by
   rcases hF6 c hc with h | h
   · rcases List.mem_cons.1 h with rfl | h
     · exact absurd hc hgF6
     exact .inl h
   rcases hs5 c h with h | h | h
   · exact .inl (hGF c h)
   · have:=hGX c h;exact .inr (by omega)
   exact .inr (by omega)
 exact k w6 F' hc26 (h.turn hc26 hO6 hF') hF'
theorem zla {w2:World} {u:Value} {x:DIns} {lo hi:Nat} {K:World→Prop} (h:CoF W g bs c0 c1 c2 ve G L P I F w2) (o:OwnI lo hi w2 u x) (hlo:w2.heap.size≤lo)
   (hI:I.length≤1000000) {rv:Value} (hO:OAt F w2 g 0 (⟨⟨c0⟩,⟨c1⟩,⟨c2⟩,⟨ve⟩,⟨rv,I⟩⟩:DEc)) (k:∀ w4 F4,Chg (g :: F) w2 w4→CoF W g bs c0 c1 c2 ve G L P (I++[x]) F4 w4→(∀ c∈F4,c∈F∨w2.heap.size≤c)→K w4) :
   OP Tryz.prog (Instr.buildSlice 34 1 #[(0,u)]) w2 fun x49 w=>OP Tryz.prog (Builtin.append_ #[34,34] 34 [rv,x49].toArray) w fun x50 w'=>
     NIL (.pointer (some ⟨g,0,none⟩)) (RD Tryz.prog (Instr.fieldAt 36 (.pointer (some ⟨g,0,none⟩)) 4) w' fun x52=>OPU Tryz.prog (Instr.storeAt 34 x52 x50) w' fun w=>K w):=by
 obtain ⟨e1,e2,e3,e5⟩:=h.lt
 obtain ⟨GX,hMX,hGX⟩:=o
 obtain ⟨G1,hL1⟩:=zeL (Lens.var hO)
 obtain ⟨cs1,⟨rfl,hrow⟩,hr1,hnG,_,hg1,_⟩:=hL1.here
 have hGF:∀ c∈G1,c∈F:=fun c hc=>by
   rcases List.mem_cons.1 (hL1.sub c (by simp [hc])) with e | h
   · exact absurd (e▸hc) hg1
   exact h
 have hlts:=hO.lts
 refine zdK (β:=DIns) (G:=G1) u34 zdY z84 zwo (by decide) hrow hnG hMX (fun c hc hc'=>by have:=hGX c hc;have:=e2 c (hGF c hc');omega) (by rw [zam];show I.length+1≤_;omega) (by show (I.length+1)*_≤_;omega) (fun w4 v12 w5 G' hx4 hc5 hR5 hN5 hs5=>?_) fun s' w4 hx4 h=>h
 have hs4:=hx4.size
 refine NIL.mk rfl ?_
 refine zaa zaG ?_
 have hc35:Chg G1 w2 w5:=(hx4.chg G1).trans hc5
 refine zjd zdi hL1 hlts hc35 hR5 hN5 (fun c hc=>?_) fun w6 hc6 ⟨F',hO6,hF6⟩=>?_
 · rcases hs5 c hc with h | h | h
   · exact .inl h
   · refine .inr fun hm=>?_
     have:=hGX c h
     rcases List.mem_cons.1 hm with e | hm
     · omega
     have:=e2 c hm;omega
   exact .inr fun hm=>by have:=hlts c hm;omega
 have hgF6:g∉F':=by obtain ⟨_,_,_,_,_,hn,_⟩:=hO6;exact hn
 have hc26:Chg (g :: F) w2 w6:=hc6.mono fun c hc=>by
   rcases List.mem_cons.1 hc with rfl | hc
   · simp
   simp [hGF c hc]
 have hF':∀ c∈F',c∈F∨w2.heap.size≤c:=fun c hc=>by
   rcases hF6 c hc with h | h
   · rcases List.mem_cons.1 h with rfl | h
     · exact absurd hc hgF6
     exact .inl h
   rcases hs5 c h with h | h | h
   · exact .inl (hGF c h)
   · have:=hGX c h;exact .inr (by omega)
   exact .inr (by omega)
 exact k w6 F' hc26 (h.turn hc26 hO6 hF') hF'
theorem zii {A R:List DIns} {y:DIns} {k:Nat} {K:World→Prop} (h:CoF W g bs c0 c1 c2 ve G L P (A++y :: R) F w) (hk:A.length=k) (hL:(A++y :: R).length≤1000000)
   (kk:∀ w' F',Chg (g :: F) w w'→CoF W g bs c0 c1 c2 ve G L P (A++(⟨y.op,y.arg,y.term,((A++y :: R).length:Int)⟩:DIns) :: R) F' w'→(∀ c∈F',c∈F)→K w') :
   NIL (.pointer (some ⟨g,0,none⟩))<|RD Tryz.prog (Instr.fieldAt 36 (.pointer (some ⟨g,0,none⟩)) 4) w fun x110=>RD Tryz.prog (Instr.loadAt 34 x110) w fun x111=>
     NIL (.pointer (some ⟨g,0,none⟩))<|RD Tryz.prog (Instr.fieldAt 36 (.pointer (some ⟨g,0,none⟩)) 4) w fun x115=>RD Tryz.prog (Instr.loadAt 34 x115) w fun x116=>
     RD Tryz.prog (Builtin.len_ #[34] 3 [x116].toArray) w fun x117=>RD Tryz.prog (Instr.indexAt 34 x111 (.int .i64 (k:Int))) w fun x118=>RD Tryz.prog (Instr.fieldAt 84 x118 3) w fun x119=>
     OPU Tryz.prog (Instr.storeAt 3 x119 x117) w fun w=>K w:=by
 obtain ⟨e1,e2,e3,e5⟩:=h.lt
 obtain ⟨rv,h2⟩:=h.oat
 have hlts:=h2.lts
 have hkl:k<(A++y :: R).length:=by simp;omega
 obtain ⟨G1,hL1⟩:=zeL (Lens.var h2)
 obtain ⟨cs1,⟨rfl,hrow⟩,hr1,_⟩:=hL1.here
 obtain ⟨b2,a2,cap2,G2,hv2,hG21,hL2⟩:=hL1.elemV (k:=k) hkl
 refine NIL.mk rfl ?_
 refine zaa zaG ?_
 refine za2 zdi hr1 ?_
 refine NIL.mk rfl ?_
 refine zaa zaG ?_
 refine za2 zdi hr1 ?_
 refine zae u34 (show Is w rv (A++y :: R) from hrow.own.is) ?_
 refine zgi u34 zdY hv2 hkl ?_
 obtain ⟨G3,hL3⟩:=zmY hL2
 refine zaa zd0 ?_
 refine zfB ty3 hL3 (zbp (by unfold I64;omega)) (by simp) fun w' hc ⟨F',hO,hF'⟩=>?_
 have hgF':g∉F':=by obtain ⟨_,_,_,_,_,hn,_⟩:=hO;exact hn
 have hF:∀ c∈F',c∈F:=fun c hcm=>by
   rcases hF' c hcm with h | h
   · rcases List.mem_cons.1 h with rfl | h
     · exact absurd hcm hgF'
     exact h
   simp at h
 refine kk w' F' hc (h.turn (rv:=rv) hc ?_ fun c hcm=>.inl (hF c hcm)) hF
 have hO:OAt F' w' g 0 (⟨⟨c0⟩,⟨c1⟩,⟨c2⟩,⟨ve⟩,⟨rv,(A++y :: R).set k ⟨((A++y :: R)[k]'hkl).op,((A++y :: R)[k]'hkl).arg,((A++y :: R)[k]'hkl).term,((A++y :: R).length:Int)⟩⟩⟩:DEc):=hO
 rw [zk4 hk,zhD hk hkl] at hO
 exact hO
end
end Go.Proofs.YtcnglfeoglgebaaGreat
namespace Go.Sh
open Rep (rep)
section
variable {P:Program} {X:Nat→Prop} {w W:World} {K:Value→Prop}
theorem znN {m:Sem Value} {v:Value} (h:∀ w',RD P m w' (fun u=>u=v)) (k:K v):RDX P X m w K:=
 ⟨v,fun w' _=>by obtain ⟨u,hu,rfl⟩:=h w';exact hu w' (Ext.refl w'),k⟩
theorem zj5 {α:Type} [Rep α] {t by_ b o:Nat} {x:α} (ht:tyI P t=some (Rep.size α,by_,true)) (ha:Rep.agg α=true) (hn:0<Rep.size α) (h:AtB W w b o x) (hX:¬X b) (k:∀ v,Is W v x→K v) :
   RDX P X (Instr.loadAt t (.pointer (some ⟨b,o,none⟩))) w K:=by
 obtain ⟨F,cs,hr,hc⟩:=h
 obtain ⟨i,d,hi,hd,hs,_,hg⟩:=zbZ ht
 have hl:=Rep.len hr
 have hb:=zfA hc (by omega)
 refine ⟨.agg cs.toArray,fun w' hx'=>?_,k _ ⟨F,cs,hr,by simp [mkv,ha]⟩⟩
 exact run_loadAt_mid w' b o t cs d (zaK hc (hx'.block b hb hX)) hd hg (by simp [hi,hs,hl])
end
end Go.Sh
namespace Go.Proofs.YtcnglfeoglgebaaGreat
open Go Go.Sh Go.Proofs
open Rep (rep)
def F45 (a0 a1:Value) (w:World) (R:VW):Prop:=
 rN 29 3 a1 w fun x9=>
 LOOPI [10] [(iV 0)] w fun u1 w next1=>
 rC (u1 10) x9 w fun x11=>
 BR x11
 (rX 29 a1 (u1 10) w fun x12=>
 rL 56 x12 w fun x13=>
 oP (Instr.alloc 56 true (.tuple #[])) w fun x5 w=>
 oS 56 x5 x13 w fun w=>
 NIL a0 <|
 rF 36 a0 4 w fun x16=>
 rL 34 x16 w fun x17=>
 rN 34 3 x17 w fun x18=>
 rF 56 x5 0 w fun x19=>
 rL 3 x19 w fun x20=>
 rB .eql 3 T0 U0 x20 (iV 1) w fun x32=>
 BR x32
 ((fun w=>XR fun X=>NIL a0 <|
 RDX tp X (Instr.fieldAt 36 a0 4) w fun x36=>
 RDX tp X (Instr.loadAt 34 x36) w fun x37=>
 NIL a0 <|
 RDX tp X (Instr.fieldAt 36 a0 0) w fun x40=>
 RDX tp X (Instr.loadAt 24 x40) w fun x41=>
 RDX tp X (Instr.fieldAt 56 x5 1) w fun x42=>
 RDX tp X (Instr.loadAt 9 x42) w fun x43=>
 RDX tp X (Instr.fieldAt 56 x5 2) w fun x45=>
 RDX tp X (Instr.loadAt 53 x45) w fun x46=>
 (fun w_=>cL 100 [x41,x43] w_ fun x44 w=>
 ExtX X w_ w ∧
 (fun w_=>cL 101 [x46] w_ fun x47 w=>
 ExtX X w_ w ∧
 RDX tp X (Instr.build 84 #[(0,(iV 1)),(1,x44),(2,x47)]) w fun x48=>
 (fun w_=>oP (Instr.buildSlice 34 1 #[(0,x48)]) w_ fun x49 w=>
 ExtX X w_ w ∧
 ((fun w_=>oP (Builtin.append_ #[34,34] 34 [x37,x49].toArray) w_ fun x50 w=>
 ExtX X w_ w ∧
 (NIL a0 <|
 RDX tp X (Instr.fieldAt 36 a0 4) w fun x52=>
 oS 34 x52 x50 w fun w=>
 rA (u1 10) (iV 1) w fun x249=>
 next1 [x249] w)) w)) w) w) w) (World.drew1 w))
 (rB .eql 3 T0 U0 x20 (iV 3) w fun x54=>
 BR x54
 ((fun w=>XR fun X=>NIL a0 <|
 RDX tp X (Instr.fieldAt 36 a0 4) w fun x58=>
 RDX tp X (Instr.loadAt 34 x58) w fun x59=>
 RDX tp X (Instr.fieldAt 56 x5 2) w fun x60=>
 RDX tp X (Instr.loadAt 53 x60) w fun x61=>
 (fun w_=>cL 101 [x61] w_ fun x62 w=>
 ExtX X w_ w ∧
 RDX tp X (Instr.build 84 #[(0,(iV 2)),(2,x62)]) w fun x63=>
 (fun w_=>oP (Instr.buildSlice 34 1 #[(0,x63)]) w_ fun x64 w=>
 ExtX X w_ w ∧
 ((fun w_=>oP (Builtin.append_ #[34,34] 34 [x59,x64].toArray) w_ fun x65 w=>
 ExtX X w_ w ∧
 (NIL a0 <|
 RDX tp X (Instr.fieldAt 36 a0 4) w fun x67=>
 oS 34 x67 x65 w fun w=>
 rF 56 x5 3 w fun x69=>
 rL 29 x69 w fun x70=>
 cL 45 [a0,x70] w fun x71 w=>
 NIL a0 <|
 rF 36 a0 4 w fun x75=>
 rL 34 x75 w fun x76=>
 rD (Instr.build 84 #[(0,(iV 3)),(3,x18)]) w fun x78=>
 oP (Instr.buildSlice 34 1 #[(0,x78)]) w fun x79 w=>
 oP (Builtin.append_ #[34,34] 34 [x76,x79].toArray) w fun x80 w=>
 NIL a0 <|
 rF 36 a0 4 w fun x82=>
 oS 34 x82 x80 w fun w=>
 (fun w=>NIL a0 <|
 rF 36 a0 4 w fun x85=>
 rL 34 x85 w fun x86=>
 NIL a0 <|
 rF 36 a0 4 w fun x90=>
 rL 34 x90 w fun x91=>
 rN 34 3 x91 w fun x92=>
 rX 34 x86 x18 w fun x93=>
 rF 84 x93 3 w fun x94=>
 oS 3 x94 x92 w fun w=>
 rA (u1 10) (iV 1) w fun x249=>
 next1 [x249] w) (World.drew1 w))) w)) w) w) (World.drew1 w))
 (rB .eql 3 T0 U0 x20 (iV 2) w fun x96=>
 BR x96
 ((fun w=>XR fun X=>NIL a0 <|
 RDX tp X (Instr.fieldAt 36 a0 4) w fun x100=>
 RDX tp X (Instr.loadAt 34 x100) w fun x101=>
 RDX tp X (Instr.fieldAt 56 x5 2) w fun x102=>
 RDX tp X (Instr.loadAt 53 x102) w fun x103=>
 (fun w_=>cL 101 [x103] w_ fun x104 w=>
 ExtX X w_ w ∧
 RDX tp X (Instr.build 84 #[(0,(iV 2)),(2,x104)]) w fun x105=>
 (fun w_=>oP (Instr.buildSlice 34 1 #[(0,x105)]) w_ fun x106 w=>
 ExtX X w_ w ∧
 ((fun w_=>oP (Builtin.append_ #[34,34] 34 [x101,x106].toArray) w_ fun x107 w=>
 ExtX X w_ w ∧
 (NIL a0 <|
 RDX tp X (Instr.fieldAt 36 a0 4) w fun x109=>
 oS 34 x109 x107 w fun w=>
 rF 56 x5 3 w fun x111=>
 rL 29 x111 w fun x112=>
 cL 45 [a0,x112] w fun x113 w=>
 rF 56 x5 4 w fun x114=>
 rL 29 x114 w fun x115=>
 rN 29 3 x115 w fun x116=>
 rB .gtr 3 T0 U0 x116 (iV 0) w fun x117=>
 BR x117
 (NIL a0 <|
 rF 36 a0 4 w fun x120=>
 rL 34 x120 w fun x121=>
 rN 34 3 x121 w fun x122=>
 NIL a0 <|
 rF 36 a0 4 w fun x126=>
 rL 34 x126 w fun x127=>
 rD (Instr.build 84 #[(0,(iV 3))]) w fun x128=>
 oP (Instr.buildSlice 34 1 #[(0,x128)]) w fun x129 w=>
 oP (Builtin.append_ #[34,34] 34 [x127,x129].toArray) w fun x130 w=>
 NIL a0 <|
 rF 36 a0 4 w fun x132=>
 oS 34 x132 x130 w fun w=>
 (fun w=>NIL a0 <|
 rF 36 a0 4 w fun x135=>
 rL 34 x135 w fun x136=>
 NIL a0 <|
 rF 36 a0 4 w fun x140=>
 rL 34 x140 w fun x141=>
 rN 34 3 x141 w fun x142=>
 rX 34 x136 x18 w fun x143=>
 rF 84 x143 3 w fun x144=>
 oS 3 x144 x142 w fun w=>
 rF 56 x5 4 w fun x146=>
 rL 29 x146 w fun x147=>
 cL 45 [a0,x147] w fun x148 w=>
 (fun w=>NIL a0 <|
 rF 36 a0 4 w fun x151=>
 rL 34 x151 w fun x152=>
 NIL a0 <|
 rF 36 a0 4 w fun x156=>
 rL 34 x156 w fun x157=>
 rN 34 3 x157 w fun x158=>
 rX 34 x152 x122 w fun x159=>
 rF 84 x159 3 w fun x160=>
 oS 3 x160 x158 w fun w=>
 rA (u1 10) (iV 1) w fun x249=>
 next1 [x249] w) (World.drew1 w)) (World.drew1 w))
 ((fun w=>NIL a0 <|
 rF 36 a0 4 w fun x163=>
 rL 34 x163 w fun x164=>
 NIL a0 <|
 rF 36 a0 4 w fun x168=>
 rL 34 x168 w fun x169=>
 rN 34 3 x169 w fun x170=>
 rX 34 x164 x18 w fun x171=>
 rF 84 x171 3 w fun x172=>
 oS 3 x172 x170 w fun w=>
 rA (u1 10) (iV 1) w fun x249=>
 next1 [x249] w) (World.drew1 w)))) w)) w) w) (World.drew1 w))
 (rB .eql 3 T0 U0 x20 (iV 4) w fun x174=>
 BR x174
 ((fun w=>XR fun X=>NIL a0 <|
 RDX tp X (Instr.fieldAt 36 a0 4) w fun x178=>
 RDX tp X (Instr.loadAt 34 x178) w fun x179=>
 NIL a0 <|
 RDX tp X (Instr.fieldAt 36 a0 2) w fun x182=>
 RDX tp X (Instr.loadAt 24 x182) w fun x183=>
 RDX tp X (Instr.fieldAt 56 x5 1) w fun x184=>
 RDX tp X (Instr.loadAt 9 x184) w fun x185=>
 (fun w_=>cL 100 [x183,x185] w_ fun x186 w=>
 ExtX X w_ w ∧
 RDX tp X (Instr.build 84 #[(0,(iV 4)),(1,x186)]) w fun x187=>
 (fun w_=>oP (Instr.buildSlice 34 1 #[(0,x187)]) w_ fun x188 w=>
 ExtX X w_ w ∧
 ((fun w_=>oP (Builtin.append_ #[34,34] 34 [x179,x188].toArray) w_ fun x189 w=>
 ExtX X w_ w ∧
 (NIL a0 <|
 RDX tp X (Instr.fieldAt 36 a0 4) w fun x191=>
 oS 34 x191 x189 w fun w=>
 rA (u1 10) (iV 1) w fun x249=>
 next1 [x249] w)) w)) w) w) (World.drew1 w))
 (rB .eql 3 T0 U0 x20 (iV 5) w fun x193=>
 BR x193
 ((fun w=>XR fun X=>NIL a0 <|
 RDX tp X (Instr.fieldAt 36 a0 4) w fun x197=>
 RDX tp X (Instr.loadAt 34 x197) w fun x198=>
 NIL a0 <|
 RDX tp X (Instr.fieldAt 36 a0 2) w fun x201=>
 RDX tp X (Instr.loadAt 24 x201) w fun x202=>
 RDX tp X (Instr.fieldAt 56 x5 1) w fun x203=>
 RDX tp X (Instr.loadAt 9 x203) w fun x204=>
 (fun w_=>cL 100 [x202,x204] w_ fun x205 w=>
 ExtX X w_ w ∧
 RDX tp X (Instr.build 84 #[(0,(iV 5)),(1,x205)]) w fun x206=>
 (fun w_=>oP (Instr.buildSlice 34 1 #[(0,x206)]) w_ fun x207 w=>
 ExtX X w_ w ∧
 ((fun w_=>oP (Builtin.append_ #[34,34] 34 [x198,x207].toArray) w_ fun x208 w=>
 ExtX X w_ w ∧
 (NIL a0 <|
 RDX tp X (Instr.fieldAt 36 a0 4) w fun x210=>
 oS 34 x210 x208 w fun w=>
 rA (u1 10) (iV 1) w fun x249=>
 next1 [x249] w)) w)) w) w) (World.drew1 w))
 (rB .eql 3 T0 U0 x20 (iV 6) w fun x212=>
 BR x212
 ((fun w=>XR fun X=>NIL a0 <|
 RDX tp X (Instr.fieldAt 36 a0 4) w fun x216=>
 RDX tp X (Instr.loadAt 34 x216) w fun x217=>
 NIL a0 <|
 RDX tp X (Instr.fieldAt 36 a0 1) w fun x220=>
 RDX tp X (Instr.loadAt 24 x220) w fun x221=>
 RDX tp X (Instr.fieldAt 56 x5 1) w fun x222=>
 RDX tp X (Instr.loadAt 9 x222) w fun x223=>
 (fun w_=>cL 100 [x221,x223] w_ fun x224 w=>
 ExtX X w_ w ∧
 RDX tp X (Instr.build 84 #[(0,(iV 6)),(1,x224)]) w fun x225=>
 (fun w_=>oP (Instr.buildSlice 34 1 #[(0,x225)]) w_ fun x226 w=>
 ExtX X w_ w ∧
 ((fun w_=>oP (Builtin.append_ #[34,34] 34 [x217,x226].toArray) w_ fun x227 w=>
 ExtX X w_ w ∧
 (NIL a0 <|
 RDX tp X (Instr.fieldAt 36 a0 4) w fun x229=>
 oS 34 x229 x227 w fun w=>
 rA (u1 10) (iV 1) w fun x249=>
 next1 [x249] w)) w)) w) w) (World.drew1 w))
 (rB .eql 3 T0 U0 x20 (iV 7) w fun x231=>
 BR x231
 ((fun w=>XR fun X=>NIL a0 <|
 RDX tp X (Instr.fieldAt 36 a0 4) w fun x235=>
 RDX tp X (Instr.loadAt 34 x235) w fun x236=>
 NIL a0 <|
 RDX tp X (Instr.fieldAt 36 a0 1) w fun x239=>
 RDX tp X (Instr.loadAt 24 x239) w fun x240=>
 RDX tp X (Instr.fieldAt 56 x5 1) w fun x241=>
 RDX tp X (Instr.loadAt 9 x241) w fun x242=>
 (fun w_=>cL 100 [x240,x242] w_ fun x243 w=>
 ExtX X w_ w ∧
 RDX tp X (Instr.build 84 #[(0,(iV 7)),(1,x243)]) w fun x244=>
 (fun w_=>oP (Instr.buildSlice 34 1 #[(0,x244)]) w_ fun x245 w=>
 ExtX X w_ w ∧
 ((fun w_=>oP (Builtin.append_ #[34,34] 34 [x236,x245].toArray) w_ fun x246 w=>
 ExtX X w_ w ∧
 (NIL a0 <|
 RDX tp X (Instr.fieldAt 36 a0 4) w fun x248=>
 oS 34 x248 x246 w fun w=>
 rA (u1 10) (iV 1) w fun x249=>
 next1 [x249] w)) w)) w) w) (World.drew1 w))
 (NIL a0 <|
 rF 36 a0 4 w fun x24=>
 rL 34 x24 w fun x25=>
 rD (Instr.build 84 #[(0,(iV 8))]) w fun x26=>
 oP (Instr.buildSlice 34 1 #[(0,x26)]) w fun x27 w=>
 oP (Builtin.append_ #[34,34] 34 [x25,x27].toArray) w fun x28 w=>
 NIL a0 <|
 rF 36 a0 4 w fun x30=>
 oS 34 x30 x28 w fun w=>
 rA (u1 10) (iV 1) w fun x249=>
 next1 [x249] w))))))))
 (R (Value.tuple #[]) w)
def cfg45:Cfg:={ ext:=extL,joins:=[],loops:=[(1,1809251394333065553493296640760748560207343510400633813116524750123642649824,[10])],draws:=[(7,[0,1,2,3,4,5,6,7,8,9,10,12,13,11,14,15,16,17,18,19,20],215040),(9,[0,1,2,3,4,5,6,7,8,9,10,11,12,13],1664),(12,[0,1,2,3,4,5,6,7,8,9,10,11,12],0),(14,[0,1,2,3,4,5,6,7,8,9,10,11,12,13],1664),(19,[0,1,2,3,4,5,6,7,8,9,10,11,12],0),(21,[0,1,2,3,4,5,6,7,8,9,10,11,12],0),(22,[0,1,2,3,4,5,6,7,8,9,10,11,12],0),(24,[0,1,2,3,4,5,6,7,8,9,10,11,12,13,14,15,16,17],26624),(26,[0,1,2,3,4,5,6,7,8,9,10,11,12,13,14,15,16,17],26624),(28,[0,1,2,3,4,5,6,7,8,9,10,11,12,13,14,15,16,17],26624),(30,[0,1,2,3,4,5,6,7,8,9,10,11,12,13,14,15,16,17],26624)],pars:=[],xs:=[7,9,14,24,26,28,30] }
theorem F45_call {a0 a1:Value} {w:World} {R:VW} (h:F45 a0 a1 w R):cL 45 [a0,a1] w R:=co (g:=cfg45) Tryz.func45 (by kernel_rfl) (by kernel_rfl) (by kernel_rfl) h
open Rep (rep)
theorem zvE {W w:World} {b:Nat} {x:DStmt} (h:AtB W w b 0 x):w.rangeAt b (0+1) [.string x.name]:=by
 obtain ⟨F,cs,hr,hc⟩:=h
 have h:AtB W w b 0 x.tup:=⟨F,cs,zdn.1 hr,hc⟩
 obtain ⟨F,cs,⟨_,rfl,_⟩,hr⟩:=h.snd.fst
 exact hr
theorem zvF {W w:World} {b:Nat} {x:DStmt} (h:AtB W w b 0 x):AtB W w b (0+2) x.term:=by
 obtain ⟨F,cs,hr,hc⟩:=h
 have h:AtB W w b 0 x.tup:=⟨F,cs,zdn.1 hr,hc⟩
 exact h.snd.snd.fst
section
variable {w:World} {lo hi:Nat} {K:Value→Prop} {X:Nat→Prop}
theorem zmu {a b:Int} {u:Value} {t:DTerm} (ha:I64 a) (hb:I64 b) (hu:OwnI lo hi w u t) (k:∀ v,OwnI lo hi w v (⟨a,b,t,0⟩:DIns)→K v):RDX Tryz.prog X (Instr.build 84 #[(0,.int .i64 a),(1,.int .i64 b),(2,u)]) w K:=by
 obtain ⟨p,q,rfl⟩:=zfS hu.is
 exact znN (fun w'=>zaT (cells:=#[.int .i64 a,.int .i64 b,.int .i64 t.kind,.int .i64 t.num,.string t.name,.slice p t.kids.length q,.int .i64 0]) (by kernel_rfl) rfl) (k _ (zg4 ha hb zja hu))
theorem znO {a:Int} {u:Value} {t:DTerm} (ha:I64 a) (hu:OwnI lo hi w u t) (k:∀ v,OwnI lo hi w v (⟨a,0,t,0⟩:DIns)→K v):RDX Tryz.prog X (Instr.build 84 #[(0,.int .i64 a),(2,u)]) w K:=by
 obtain ⟨p,q,rfl⟩:=zfS hu.is
 exact znN (fun w'=>zaT (cells:=#[.int .i64 a,.int .i64 0,.int .i64 t.kind,.int .i64 t.num,.string t.name,.slice p t.kids.length q,.int .i64 0]) (by kernel_rfl) rfl) (k _ (zg4 ha zja zja hu))
theorem znP {a b:Int} (ha:I64 a) (hb:I64 b) (k:∀ v,OwnI lo hi w v (⟨a,b,term0,0⟩:DIns)→K v):RDX Tryz.prog X (Instr.build 84 #[(0,.int .i64 a),(1,.int .i64 b)]) w K:=by
 refine znN (v:=.agg #[.int .i64 a,.int .i64 b,.int .i64 0,.int .i64 0,.string nO,.slice none 0 0,.int .i64 0]) (fun w'=>zaT (cells:=#[.int .i64 a,.int .i64 b,.int .i64 0,.int .i64 0,.string nO,.slice none 0 0,.int .i64 0]) (by kernel_rfl) rfl) ?_
 exact k _ (zg4 ha hb zja zeJ)
end
section
variable {W w:World} {g bs:Nat} {c0 c1 c2 ve:Value} {G L P:List ByteArray} {I:List DIns} {F:List Nat}
theorem zij {j g5:Nat} {cj:Value} {l:List ByteArray} {op:Int} {x:DStmt} {K:World→Prop} (h:CoF W g bs c0 c1 c2 ve G L P I F w) (hf:zdz Tryz.prog 36 j=some j) (hj:(j=0∧cj=c0∧l=G)∨(j=1∧cj=c1∧l=L)∨(j=2∧cj=c2∧l=P))
   (ho:I64 op) (hB:AtB W w g5 0 x) (h5:g5∉F) (hI:I.length≤1000000) (k:∀ w4 F4,Chg (g :: F) w w4→CoF W g bs c0 c1 c2 ve G L P (I++[⟨op,plc x.name l,term0,0⟩]) F4 w4→(∀ c∈F4,c∈F∨w.heap.size≤c)→K w4) :
   XR fun X=>NIL (.pointer (some ⟨g,0,none⟩))<|RDX Tryz.prog X (Instr.fieldAt 36 (.pointer (some ⟨g,0,none⟩)) 4) w fun x36=>RDX Tryz.prog X (Instr.loadAt 34 x36) w fun x37=>
     NIL (.pointer (some ⟨g,0,none⟩))<|RDX Tryz.prog X (Instr.fieldAt 36 (.pointer (some ⟨g,0,none⟩)) j) w fun x40=>RDX Tryz.prog X (Instr.loadAt 24 x40) w fun x41=>
     RDX Tryz.prog X (Instr.fieldAt 56 (.pointer (some ⟨g5,0,none⟩)) 1) w fun x42=>RDX Tryz.prog X (Instr.loadAt 9 x42) w fun x43=>CALL Tryz.prog 100 [x41,x43] w fun x44 w1=>
     ExtX X w w1∧RDX Tryz.prog X (Instr.build 84 #[(0,.int .i64 op),(1,x44)]) w1 fun x48=>OP Tryz.prog (Instr.buildSlice 34 1 #[(0,x48)]) w1 fun x49 w2=>ExtX X w1 w2 ∧
     OP Tryz.prog (Builtin.append_ #[34,34] 34 [x37,x49].toArray) w2 fun x50 w3=>ExtX X w2 w3∧NIL (.pointer (some ⟨g,0,none⟩)) (RDX Tryz.prog X (Instr.fieldAt 36 (.pointer (some ⟨g,0,none⟩)) 4) w3 fun x52=>
     OPU Tryz.prog (Instr.storeAt 34 x52 x50) w3 fun w=>K w):=by
 obtain ⟨e1,e2,e3,e5⟩:=h.lt
 obtain ⟨rv,hr,hi,hO⟩:=zg7 h
 obtain ⟨hn,hIs⟩:=zrS h hj
 refine XR.mk (fun c=>c∈F) ?_
 refine NIL.mk rfl ?_
 refine zb1 zaG ?_
 refine zcg zdi hr e3 ?_
 refine NIL.mk rfl ?_
 refine zb1 hf ?_
 refine zcg zcQ hn e3 ?_
 refine zb1 zef ?_
 refine zcg ty9 (zvE hB) h5 ?_
 refine (zf7 hIs (Ext.refl _)).mono ?_
 rintro _ w4 ⟨hx4,rfl⟩
 refine ⟨hx4.toX,?_⟩
 have hpl:=zoa (s:=x.name) (l:=l)
 have hpl2:=zah hIs
 refine znP (lo:=w4.heap.size) (hi:=w4.heap.size) ho (by unfold I64;omega) fun v48 o48=>?_
 exact znM h hO hx4 o48 hx4.size (Nat.le_refl _) hI k
theorem zrT {g5:Nat} {x:DStmt} {K:World→Prop} (h:CoF W g bs c0 c1 c2 ve G L P I F w) (hB:AtB W w g5 0 x) (h5:g5∉F) (hI:I.length≤1000000) (hw:wT x.term≤24)
   (k:∀ w4 F4,Chg (g :: F) w w4→CoF W g bs c0 c1 c2 ve G L P (I++[⟨2,0,x.term,0⟩]) F4 w4→(∀ c∈F4,c∈F∨w.heap.size≤c)→K w4) :
   XR fun X=>NIL (.pointer (some ⟨g,0,none⟩))<|RDX Tryz.prog X (Instr.fieldAt 36 (.pointer (some ⟨g,0,none⟩)) 4) w fun x36=>RDX Tryz.prog X (Instr.loadAt 34 x36) w fun x37=>
     RDX Tryz.prog X (Instr.fieldAt 56 (.pointer (some ⟨g5,0,none⟩)) 2) w fun x60=>RDX Tryz.prog X (Instr.loadAt 53 x60) w fun x61=>CALL Tryz.prog 101 [x61] w fun x62 w1=>
     ExtX X w w1∧RDX Tryz.prog X (Instr.build 84 #[(0,.int .i64 2),(2,x62)]) w1 fun x48=>OP Tryz.prog (Instr.buildSlice 34 1 #[(0,x48)]) w1 fun x49 w2=>ExtX X w1 w2 ∧
     OP Tryz.prog (Builtin.append_ #[34,34] 34 [x37,x49].toArray) w2 fun x50 w3=>ExtX X w2 w3∧NIL (.pointer (some ⟨g,0,none⟩)) (RDX Tryz.prog X (Instr.fieldAt 36 (.pointer (some ⟨g,0,none⟩)) 4) w3 fun x52=>
     OPU Tryz.prog (Instr.storeAt 34 x52 x50) w3 fun w=>K w):=by
 obtain ⟨e1,e2,e3,e5⟩:=h.lt
 obtain ⟨rv,hr,hi,hO⟩:=zg7 h
 refine XR.mk (fun c=>c∈F) ?_
 refine NIL.mk rfl ?_
 refine zb1 zaG ?_
 refine zcg zdi hr e3 ?_
 refine zb1 zfd ?_
 refine zj5 zcd rfl (by decide) (zvF hB) h5 fun v61 h61=>?_
 refine (zji _ h61 h.old (by omega)).mono ?_
 rintro v62 w4 ⟨hx4,o62⟩
 refine ⟨hx4.toX,?_⟩
 refine znO (by unfold I64;omega) o62.toI fun v48 o48=>?_
 exact znM h hO hx4 o48 (Nat.le_refl _) hx4.size hI k
end
def znQ (c:Scp) (n:Nat) (l:List DStmt):Prop:=∀ {W w:World} {g bs:Nat} {c0 c1 c2 ve:Value} {G L P:List ByteArray} {I:List DIns} {F:List Nat} {v:Value},CoF W g bs c0 c1 c2 ve G L P I F w→Is W v l→(∀ x∈l,StR c n x)→I.length+2*szL l≤1000000 →
 CALL Tryz.prog 45 [.pointer (some ⟨g,0,none⟩),v] w fun r w'=>Chg (g :: F) w w'∧∃ F',CoF W g bs c0 c1 c2 ve G L P (I++emL G L P l I.length) F' w'∧∀ c∈F',c∈F∨w.heap.size≤c
def AdI (W w:World) (g bs:Nat) (c0 c1 c2 ve:Value) (G L P:List ByteArray) (I:List DIns) (F:List Nat) (l:List DStmt) (k:Nat) (us:List Value) (w':World):Prop:=
 us=[.int .i64 (k:Int)]∧∃ I1 F1,k≤l.length∧I++emL G L P l I.length=I1++emL G L P (l.drop k) I1.length∧I1.length+2*szL (l.drop k)≤1000000 ∧
   Chg (g :: F) w w'∧CoF W g bs c0 c1 c2 ve G L P I1 F1 w'∧∀ c∈F1,c∈F∨w.heap.size≤c
theorem zg8 {c:Scp} {n:Nat} {l:List DStmt} (ih:∀ m l,m+1=n→znQ c m l) (inil:∀ m,znQ c m []):znQ c n l:=by
 intro W w g bs c0 c1 c2 ve G L P I F v hE h hs hlen
 have hln:=zah h
 obtain ⟨-,e2,e4,e5⟩:=hE.lt
 have e1:=hE.lt.1
 have e3:=hE.gW
 refine F45_call ?_
 unfold F45
 refine zae u29 h ?_
 refine zaB l.length (AdI W w g bs c0 c1 c2 ve G L P I F l) 0 (Nat.zero_le _) ⟨rfl,I,F,Nat.zero_le _,by simp,by simpa using hlen,Chg.refl _ _,hE,fun c hc=>.inl hc⟩ ?_
 rintro k m u w1 hkm ⟨hu,L1,F1,hkl,heq,hlen1,hc1,hE1,hF1⟩
 simp only [List.map_cons,List.map_nil,List.cons.injEq,and_true] at hu
 rw [hu]
 have hsz1:=hc1.size
 refine zai ?_
 refine br (fun hlt=>?_) (fun hge=>?_)
 rotate_left
 · have hk:k=l.length:=by omega
   subst hk
   rw [List.drop_length,emL,List.append_nil] at heq
   rw [heq]
   exact ⟨hc1,F1,hE1,hF1⟩
 have hk:k<l.length:=by omega
 obtain ⟨x,hx⟩:∃ x,x=l[k]:=⟨_,rfl⟩
 have hxs:StR c n x:=by rw [hx];exact hs _ (List.getElem_mem hk)
 have hdr:l.drop k=x :: l.drop (k+1):=by rw [hx];exact List.drop_eq_getElem_cons hk
 rw [hdr,emL] at heq
 rw [hdr,szL] at hlen1
 have hel:=zrI G L P x L1.length
 have hszx:=zk7 x
 have hfin:∀ w' F2,Chg (g :: F) w w'→CoF W g bs c0 c1 c2 ve G L P (L1++emS G L P x L1.length) F2 w'→(∀ c∈F2,c∈F∨w.heap.size≤c) →
     ∃ m',m'<m∧∃ k',k'+m'=l.length∧AdI W w g bs c0 c1 c2 ve G L P I F l k' [.int .i64 ((k+1:Nat):Int)] w':=fun w' F2 hc hE hF=>
   ⟨m-1,by omega,k+1,by omega,rfl,_,F2,by omega,by rw [heq,List.length_append,List.append_assoc],by rw [List.length_append];omega,hc,hE,hF⟩
 obtain ⟨f1,f2,f4,f5⟩:=hE1.lt
 have hW1:=hE1.old
 refine zad u29 zc2 h hk fun b12 o12 hA12=>?_
 rw [←hx] at hA12
 refine zab zc2 hA12 hW1 fun v13 h13=>?_
 refine zcA zuV rfl zc2 rfl h13 hW1 fun w2 hx2 hA5 hV5=>?_
 have hs2:=hx2.size
 have hg5:=hV5.lt
 have hE2:=hE1.ext hx2
 have hB5:=zfe h13 hV5 rfl
 have hc2:Chg (g :: F) w w2:=hc1.trans (hx2.chg _)
 have h5F:w1.heap.size∉F1:=fun hm=>by have:=f2 _ hm;omega
 have hkind:(x.kind=1∨x.kind=2∨x.kind=3)→TmR c.gl x.term:=fun hq=>by
   have h0:St0 c x→TmR c.gl x.term:=fun q=>by
     rcases q with q | q | q | q
     · exact q.2.2.1
     · have:=q.1;omega
     · have:=q.1;omega
     have:=q.1;omega
   cases n with
   | zero=>exact h0 hxs.zero
   | succ n=>
     rcases hxs.succ with q | ⟨_,_,h3,_⟩
     · exact h0 q
     exact h3
 have hkid:∃ q,(∀ y∈x.body,StR c q y)∧(∀ y∈x.els,StR c q y)∧znQ c q x.body∧znQ c q x.els:=by
   have h0:St0 c x→x.body=[]∧x.els=[]:=fun h=>by rcases h with q | q | q | q<;>exact ⟨q.2.2.2.1,q.2.2.2.2⟩
   cases n with
   | zero=>
     obtain ⟨h1,h2⟩:=h0 hxs.zero
     rw [h1,h2]
     exact ⟨0,by simp,by simp,inil 0,inil 0⟩
   | succ n=>
     rcases hxs.succ with q | ⟨_,_,_,h4,h5⟩
     · obtain ⟨h1,h2⟩:=h0 q
       rw [h1,h2]
       exact ⟨0,by simp,by simp,inil 0,inil 0⟩
     exact ⟨n,h4,h5,ih n _ rfl,ih n _ rfl⟩
 obtain ⟨q,hqb,hqe,ihb,ihe⟩:=hkid
 have hat2:=hB5.at hE2.old
 refine NIL.mk rfl ?_
 refine zaa zaG ?_
 obtain ⟨rv2,hr2,hi2,hO2⟩:=zg7 hE2
 refine za2 zdi hr2 ?_
 refine zae u34 hi2 ?_
 refine zaa zhJ ?_
 refine zac ty3 (zcM hat2) (Ext.refl _) fun hI20=>?_
 have hx3:=zak w2
 have hs3:(World.drew1 w2).heap.size=w2.heap.size:=rfl
 have hE3:=hE2.ext hx3
 have hB3:=hB5.ext hx3
 have hc3:=hc2.trans (hx3.chg (g :: F))
 refine zaf ?_
 refine br (fun k1=>?_) (fun k1=>?_)
 · obtain ⟨rv3,hr3,hi3,hO3⟩:=zg7 hE3
   obtain ⟨hn0,hIs0⟩:=zrS (j:=0) hE3 (.inl ⟨rfl,rfl,rfl⟩)
   refine XR.mk (fun c=>c∈F1) ?_
   refine NIL.mk rfl ?_
   refine zb1 zaG ?_
   refine zcg zdi hr3 f4 ?_
   refine NIL.mk rfl ?_
   refine zb1 zc5 ?_
   refine zcg zcQ hn0 f4 ?_
   refine zb1 zef ?_
   refine zcg ty9 (zvE hB3) h5F ?_
   refine zb1 zfd ?_
   refine zj5 zcd rfl (by decide) (zvF hB3) h5F fun v46 h46=>?_
   refine (zf7 hIs0 (Ext.refl _)).mono ?_
   rintro _ w4 ⟨hx4,rfl⟩
   refine ⟨hx4.toX,?_⟩
   have hw24:=(hkind (.inl k1)).2.2
   refine (zji _ h46 (hE3.old.trans hx4) (by omega)).mono ?_
   rintro v47 w5 ⟨hx5,o47⟩
   have o47:=o47.toI
   have hs4:=hx4.size
   have hs5:=hx5.size
   refine ⟨hx5.toX,?_⟩
   have hpl:=zoa (s:=x.name) (l:=G)
   have hpl2:=zah hIs0
   refine zmu (by unfold I64;omega) (by unfold I64;omega) o47 fun v48 o48=>?_
   refine znM hE3 hO3 (hx4.trans hx5) o48 (by omega) (by omega) (by omega) fun w6 F6 hc6 hE6 hF6=>?_
   refine zag (by omega) ?_
   refine hfin w6 F6 (zbL hc3 hc6 hF1) ?_ fun c hc=>(hF6 c hc).elim (hF1 c) fun h=>.inr (by omega)
   rw [ze2,if_pos k1];exact hE6
 have hlb:=zhF G L P x.body (L1.length+1)
 have e23:L1++[(⟨2,0,x.term,0⟩:DIns)]++emL G L P x.body (L1++[(⟨2,0,x.term,0⟩:DIns)]).length=L1++(⟨2,0,x.term,0⟩:DIns) :: emL G L P x.body (L1.length+1):=by simp
 refine zaf ?_
 refine br (fun k3=>?_) (fun k3=>?_)
 · have hw24:=(hkind (.inr (.inr k3))).2.2
   refine zrT hE3 hB3 h5F (by omega) hw24 fun w5 F5 hc5 hE5 hF5=>?_
   have hs5:=hc5.size
   have hF5':∀ c∈F5,c∈F∨w.heap.size≤c:=fun c hc=>(hF5 c hc).elim (hF1 c) fun h=>.inr (by omega)
   have hc05:=zbL hc3 hc5 hF1
   have hB5':=hB3.keep (hc5.block _ (by omega) fun hm=>by
     rcases List.mem_cons.1 hm with e | hm
     · omega
     exact h5F hm)
   refine zaa zeg ?_
   refine zcU zfc (zuB hB5') hE5.old (Ext.refl _) fun v70 h70=>?_
   refine (ihb hE5 h70 hqb (by simp;omega)).mono ?_
   rintro r71 w6 ⟨hc6,F6,hE6,hF6⟩
   have hs6:=hc6.size
   have hF6':∀ c∈F6,c∈F∨w.heap.size≤c:=fun c hc=>(hF6 c hc).elim (hF5' c) fun h=>.inr (by omega)
   have hc06:=zbL hc05 hc6 hF5'
   rw [e23] at hE6
   obtain ⟨B,hB⟩:∃ B,B=emL G L P x.body (L1.length+1):=⟨_,rfl⟩
   rw [←hB] at hE6 hlb
   refine NIL.mk rfl ?_
   refine zaa zaG ?_
   obtain ⟨rv6,hr6,hi6,hO6⟩:=zg7 hE6
   refine za2 zdi hr6 ?_
   refine zpO (lo:=w6.heap.size) (hi:=w6.heap.size) (by unfold I64;omega) (by unfold I64;omega) fun v78 o78=>?_
   refine zla hE6 o78 (Nat.le_refl _) (by simp;omega) hO6 fun w7 F7 hc7 hE7 hF7=>?_
   have hs7:=hc7.size
   have hx8:=zak w7
   have e7:L1++(⟨2,0,x.term,0⟩:DIns) :: B++[⟨3,0,term0,(L1.length:Int)⟩]=L1++(⟨2,0,x.term,0⟩:DIns) :: (B++[⟨3,0,term0,(L1.length:Int)⟩]):=by simp
   rw [e7] at hE7
   have hF7':∀ c∈F7,c∈F∨w.heap.size≤c:=fun c hc=>(hF7 c hc).elim (hF6' c) fun h=>.inr (by omega)
   have hc07:=zbL hc06 hc7 hF6'
   refine zii (hE7.ext hx8) rfl (by simp;omega) fun w9 F9 hc9 hE9 hF9=>?_
   refine zag (by omega) ?_
   refine hfin w9 F9 (zbL (hc07.trans (hx8.chg _)) hc9 hF7') ?_ fun c hc=>hF7' c (hF9 c hc)
   rw [ze2,if_neg k1,if_neg (by omega),if_neg (by omega),if_neg (by omega),if_neg (by omega),if_neg (by omega),if_pos k3,←hB]
   have:((L1++(⟨2,0,x.term,0⟩:DIns) :: (B++[⟨3,0,term0,(L1.length:Int)⟩])).length:Int)=((L1.length+1+B.length+1:Nat):Int):=by
     simp only [List.length_append,List.length_cons,List.length_nil];omega
   rw [this] at hE9
   exact hE9
 refine zaf ?_
 refine br (fun k2=>?_) (fun k2=>?_)
 · have hw24:=(hkind (.inr (.inl k2))).2.2
   refine zrT hE3 hB3 h5F (by omega) hw24 fun w5 F5 hc5 hE5 hF5=>?_
   have hs5:=hc5.size
   have hF5':∀ c∈F5,c∈F∨w.heap.size≤c:=fun c hc=>(hF5 c hc).elim (hF1 c) fun h=>.inr (by omega)
   have hc05:=zbL hc3 hc5 hF1
   have hgF5:w1.heap.size∉F5:=fun hm=>(hF5 _ hm).elim h5F fun h=>by omega
   have hB5':=hB3.keep (hc5.block _ (by omega) fun hm=>by
     rcases List.mem_cons.1 hm with e | hm
     · omega
     exact h5F hm)
   refine zaa zeg ?_
   refine zcU zfc (zuB hB5') hE5.old (Ext.refl _) fun v112 h112=>?_
   refine (ihb hE5 h112 hqb (by simp;omega)).mono ?_
   rintro r113 w6 ⟨hc6,F6,hE6,hF6⟩
   have hs6:=hc6.size
   have hF6':∀ c∈F6,c∈F∨w.heap.size≤c:=fun c hc=>(hF6 c hc).elim (hF5' c) fun h=>.inr (by omega)
   have hc06:=zbL hc05 hc6 hF5'
   have hgF6:w1.heap.size∉F6:=fun hm=>(hF6 _ hm).elim hgF5 fun h=>by omega
   have hB6:=hB5'.keep (hc6.block _ (by omega) fun hm=>by
     rcases List.mem_cons.1 hm with e | hm
     · omega
     exact hgF5 hm)
   rw [e23] at hE6
   obtain ⟨B,hB⟩:∃ B,B=emL G L P x.body (L1.length+1):=⟨_,rfl⟩
   rw [←hB] at hE6 hlb
   refine zaa zdF ?_
   refine zcU zfc (zuC hB6) hE6.old (Ext.refl _) fun v115 h115=>?_
   refine zae u29 h115 ?_
   refine zcT ?_
   refine br (fun ke=>?_) (fun ke=>?_)
   · obtain ⟨rv6,hr6,hi6,hO6⟩:=zg7 hE6
     refine NIL.mk rfl ?_
     refine zaa zaG ?_
     refine za2 zdi hr6 ?_
     refine zae u34 hi6 ?_
     refine NIL.mk rfl ?_
     refine zaa zaG ?_
     refine za2 zdi hr6 ?_
     refine zje (lo:=w6.heap.size) (hi:=w6.heap.size) (by unfold I64;omega) fun v128 o128=>?_
     refine zla hE6 o128 (Nat.le_refl _) (by simp;omega) hO6 fun w7 F7 hc7 hE7 hF7=>?_
     have hs7:=hc7.size
     have hx8:=zak w7
     have hs8:=hx8.size
     have e7:L1++(⟨2,0,x.term,0⟩:DIns) :: B++[⟨3,0,term0,0⟩]=L1++(⟨2,0,x.term,0⟩:DIns) :: (B++[⟨3,0,term0,0⟩]):=by simp
     rw [e7] at hE7
     have hF7':∀ c∈F7,c∈F∨w.heap.size≤c:=fun c hc=>(hF7 c hc).elim (hF6' c) fun h=>.inr (by omega)
     have hc07:=zbL hc06 hc7 hF6'
     have hgF7:w1.heap.size∉F7:=fun hm=>(hF7 _ hm).elim hgF6 fun h=>by omega
     have hB7:=hB6.keep (hc7.block _ (by omega) fun hm=>by
       rcases List.mem_cons.1 hm with e | hm
       · omega
       exact hgF6 hm)
     refine zii (hE7.ext hx8) rfl (by simp;omega) fun w9 F9 hc9 hE9 hF9=>?_
     have hs9:=hc9.size
     have hB9:=(hB7.ext hx8).keep (hc9.block _ (by omega) fun hm=>by
       rcases List.mem_cons.1 hm with e | hm
       · omega
       exact hgF7 hm)
     refine zaa zdF ?_
     refine zcU zfc (zuC hB9) hE9.old (Ext.refl _) fun v147 h147=>?_
     obtain ⟨y0,hy0⟩:∃ y0:DIns,y0=⟨2,0,x.term,((L1++(⟨2,0,x.term,0⟩:DIns) :: (B++[⟨3,0,term0,0⟩])).length:Int)⟩:=⟨_,rfl⟩
     have hE9:CoF W g bs c0 c1 c2 ve G L P (L1++y0 :: (B++[⟨3,0,term0,0⟩])) F9 w9:=by rw [hy0];exact hE9
     refine (ihe hE9 h147 hqe (by simp;omega)).mono ?_
     rintro r148 w10 ⟨hc10,F10,hE10,hF10⟩
     have hF9':∀ c∈F9,c∈F∨w.heap.size≤c:=fun c hc=>hF7' c (hF9 c hc)
     have hF10':∀ c∈F10,c∈F∨w.heap.size≤c:=fun c hc=>(hF10 c hc).elim (hF9' c) fun h=>.inr (by omega)
     have hc010:=zbL (zbL (hc07.trans (hx8.chg _)) hc9 hF7') hc10 hF9'
     have hx11:=zak w10
     have hle:=zhF G L P x.els (L1++y0 :: (B++[⟨3,0,term0,0⟩])).length
     have hn9:(L1++y0 :: (B++[(⟨3,0,term0,0⟩:DIns)])).length=L1.length+1+B.length+1:=by simp only [List.length_append,List.length_cons,List.length_nil];omega
     rw [hn9] at hE10 hle
     obtain ⟨E,hEe⟩:∃ E,E=emL G L P x.els (L1.length+1+B.length+1):=⟨_,rfl⟩
     rw [←hEe] at hE10 hle
     have e10:L1++y0 :: (B++[(⟨3,0,term0,0⟩:DIns)])++E=(L1++y0 :: B)++(⟨3,0,term0,0⟩:DIns) :: E:=by simp
     rw [e10] at hE10
     refine zii (hE10.ext hx11) (by simp) (by simp only [List.length_append,List.length_cons];omega) fun w12 F12 hc12 hE12 hF12=>?_
     refine zag (by omega) ?_
     refine hfin w12 F12 (zbL (hc010.trans (hx11.chg _)) hc12 hF10') ?_ fun c hc=>hF10' c (hF12 c hc)
     rw [ze2,if_neg k1,if_neg (by omega),if_neg (by omega),if_neg (by omega),if_neg (by omega),if_neg (by omega),if_neg k3,if_pos k2,if_neg (by omega),←hB,←hEe]
     have q1:y0=⟨2,0,x.term,((L1.length+1+B.length+1:Nat):Int)⟩:=by
       rw [hy0];congr 1
       simp only [List.length_append,List.length_cons,List.length_nil];omega
     have q2:(((L1++y0 :: B)++(⟨3,0,term0,0⟩:DIns) :: E).length:Int)=((L1.length+1+B.length+1+E.length:Nat):Int):=by
       simp only [List.length_append,List.length_cons,List.length_nil];omega
     rw [q2,q1] at hE12
     simpa using hE12
   have hx8:=zak w6
   refine zii (hE6.ext hx8) rfl (by simp;omega) fun w9 F9 hc9 hE9 hF9=>?_
   refine zag (by omega) ?_
   refine hfin w9 F9 (zbL (hc06.trans (hx8.chg _)) hc9 hF6') ?_ fun c hc=>hF6' c (hF9 c hc)
   rw [ze2,if_neg k1,if_neg (by omega),if_neg (by omega),if_neg (by omega),if_neg (by omega),if_neg (by omega),if_neg k3,if_pos k2,if_pos (by omega),←hB]
   have:((L1++(⟨2,0,x.term,0⟩:DIns) :: B).length:Int)=((L1.length+1+B.length:Nat):Int):=by
     simp only [List.length_append,List.length_cons,List.length_nil];omega
   rw [this] at hE9
   exact hE9
 refine zaf ?_
 refine br (fun k4=>?_) (fun k4=>?_)
 · refine zij (j:=2) hE3 zcC (.inr (.inr ⟨rfl,rfl,rfl⟩)) (by unfold I64;omega) hB3 h5F (by omega) fun w4 F4 hc4 hE4 hF4=>?_
   refine zag (by omega) ?_
   refine hfin w4 F4 (zbL hc3 hc4 hF1) ?_ fun c hc=>(hF4 c hc).elim (hF1 c) fun h=>.inr (by omega)
   rw [ze2,if_neg k1,if_pos k4];exact hE4
 refine zaf ?_
 refine br (fun k5=>?_) (fun k5=>?_)
 · refine zij (j:=2) hE3 zcC (.inr (.inr ⟨rfl,rfl,rfl⟩)) (by unfold I64;omega) hB3 h5F (by omega) fun w4 F4 hc4 hE4 hF4=>?_
   refine zag (by omega) ?_
   refine hfin w4 F4 (zbL hc3 hc4 hF1) ?_ fun c hc=>(hF4 c hc).elim (hF1 c) fun h=>.inr (by omega)
   rw [ze2,if_neg k1,if_neg k4,if_pos k5];exact hE4
 refine zaf ?_
 refine br (fun k6=>?_) (fun k6=>?_)
 · refine zij (j:=1) hE3 ze5 (.inr (.inl ⟨rfl,rfl,rfl⟩)) (by unfold I64;omega) hB3 h5F (by omega) fun w4 F4 hc4 hE4 hF4=>?_
   refine zag (by omega) ?_
   refine hfin w4 F4 (zbL hc3 hc4 hF1) ?_ fun c hc=>(hF4 c hc).elim (hF1 c) fun h=>.inr (by omega)
   rw [ze2,if_neg k1,if_neg k4,if_neg k5,if_pos k6];exact hE4
 refine zaf ?_
 refine br (fun k7=>?_) (fun k7=>?_)
 · refine zij (j:=1) hE3 ze5 (.inr (.inl ⟨rfl,rfl,rfl⟩)) (by unfold I64;omega) hB3 h5F (by omega) fun w4 F4 hc4 hE4 hF4=>?_
   refine zag (by omega) ?_
   refine hfin w4 F4 (zbL hc3 hc4 hF1) ?_ fun c hc=>(hF4 c hc).elim (hF1 c) fun h=>.inr (by omega)
   rw [ze2,if_neg k1,if_neg k4,if_neg k5,if_neg k6,if_pos k7];exact hE4
 have k8:x.kind=8:=by
   have h0:St0 c x→x.kind=8:=fun q=>by rcases q with q | q | q | q<;>(have:=q.1;omega)
   cases n with
   | zero=>exact h0 hxs.zero
   | succ n=>
     rcases hxs.succ with q | ⟨q,_⟩
     · exact h0 q
     omega
 refine NIL.mk rfl ?_
 refine zaa zaG ?_
 refine za2 zdi hr2 ?_
 refine zje (lo:=w2.heap.size) (hi:=w2.heap.size) (by unfold I64;omega) fun v26 o26=>?_
 refine zla hE2 o26 (Nat.le_refl _) (by omega) hO2 fun w6 F6 hc6 hE6 hF6=>?_
 refine zag (by omega) ?_
 refine hfin w6 F6 (zbL hc2 hc6 hF1) ?_ fun c hc=>(hF6 c hc).elim (hF1 c) fun h=>.inr (by omega)
 rw [ze2,if_neg k1,if_neg k4,if_neg k5,if_neg k6,if_neg k7,if_pos k8];exact hE6
theorem zhV (c:Scp) (n:Nat):znQ c n []:=by
 intro W w g bs c0 c1 c2 ve G L P I F v hE h hs hlen
 refine F45_call ?_
 unfold F45
 refine zae u29 h ?_
 refine zaB 0 (fun k us w'=>us=[.int .i64 (k:Int)]∧w'=w) 0 (Nat.zero_le _) ⟨rfl,rfl⟩ ?_
 rintro k m u w1 hkm ⟨hu,rfl⟩
 simp only [List.map_cons,List.map_nil,List.cons.injEq,and_true] at hu
 rw [hu]
 refine zai ?_
 refine br (fun hlt=>by simp at hlt;omega) (fun hge=>?_)
 exact ⟨Chg.refl _ _,F,by rw [emL,List.append_nil];exact hE,fun c hc=>.inl hc⟩
theorem zjj (c:Scp):∀ (n:Nat) (l:List DStmt),znQ c n l
 | 0,l=>zg8 (n:=0) (l:=l) (fun m l h=>absurd h (by omega)) (zhV c)
 | n + 1, l => zg8 (n := n + 1) (l := l) (fun m l h => by
     obtain rfl:m=n:=by omega
     exact zjj c m l) (zhV c)
def F44 (a0:Value) (w:World) (R:VW):Prop:=
 oP (Instr.box 27 a0) w fun x1 w=>
 rF 27 x1 2 w fun x6=>
 rL 25 x6 w fun x7=>
 rN 25 3 x7 w fun x8=>
 LOOPI [3,9] [(Value.slice none 0 0),(iV 0)] w fun u3 w next3=>
 rC (u3 9) x8 w fun x10=>
 BR x10
 (rX 25 x7 (u3 9) w fun x11=>
 rL 32 x11 w fun x12=>
 oP (Instr.alloc 32 true (.tuple #[])) w fun x5 w=>
 oS 32 x5 x12 w fun w=>
 rF 32 x5 0 w fun x14=>
 rL 9 x14 w fun x15=>
 oP (Instr.buildSlice 24 1 #[(0,x15)]) w fun x16 w=>
 oP (Builtin.append_ #[24,24] 24 [(u3 3),x16].toArray) w fun x17 w=>
 rA (u3 9) (iV 1) w fun x18=>
 next3 [x17,x18] w)
 (R (u3 3) w)
def cfg44:Cfg:=⟨extL,[],[(3,523816,[3,9])],[],[],[],[]⟩
theorem F44_call {a0:Value} {w:World} {R:VW} (h:F44 a0 w R):cL 44 [a0] w R:=co (g:=cfg44) Tryz.func44 (by kernel_rfl) (by kernel_rfl) (by kernel_rfl) h
def F178 (a0 a1 a2:Value) (w:World) (R:VW):Prop:=
 cL 99 [a0,a1] w fun x7 w=>
 rD (Op.unary .not x7) w fun x8=>
 BR x8
 (rL 24 a2 w fun x9=>
 cL 179 [x9,a1] w fun x11 w=>
 oS 24 a2 x11 w fun w=>
 R (Value.tuple #[]) w)
 (R (Value.tuple #[]) w)
def cfg178:Cfg:=⟨extL,[],[],[],[],[],[]⟩
theorem F178_call {a0 a1 a2:Value} {w:World} {R:VW} (h:F178 a0 a1 a2 w R):cL 178 [a0,a1,a2] w R:=co (g:=cfg178) Tryz.func178 (by kernel_rfl) (by kernel_rfl) (by kernel_rfl) h
def F181 (a0 a1 a2 a3:Value) (w:World) (R:VW):Prop:=
 oP (Instr.box 56 a0) w fun x4 w=>
 JOIN [] (fun J10=>
 rF 56 x4 0 w fun x8=>
 rL 3 x8 w fun x9=>
 rB .eql 3 T0 U0 x9 (iV 1) w fun x11=>
 BR x11
 (rL 198 a1 w fun x12=>
 rF 27 a2 0 w fun x13=>
 rL 24 x13 w fun x14=>
 rF 56 x4 1 w fun x15=>
 rL 9 x15 w fun x16=>
 OPN tp (ze7 x12 [x14,x16]) w fun x17 w=>
 J10 [] w)
 (rB .eql 3 T0 U0 x9 (iV 6) w fun x19=>
 BR x19
 (rL 198 a1 w fun x21=>
 rF 27 a2 1 w fun x22=>
 rL 24 x22 w fun x23=>
 rF 56 x4 1 w fun x24=>
 rL 9 x24 w fun x25=>
 OPN tp (ze7 x21 [x23,x25]) w fun x26 w=>
 J10 [] w)
 (rB .eql 3 T0 U0 x9 (iV 7) w fun x20=>
 BR x20
 (rL 198 a1 w fun x21=>
 rF 27 a2 1 w fun x22=>
 rL 24 x22 w fun x23=>
 rF 56 x4 1 w fun x24=>
 rL 9 x24 w fun x25=>
 OPN tp (ze7 x21 [x23,x25]) w fun x26 w=>
 J10 [] w)
 (rB .eql 3 T0 U0 x9 (iV 4) w fun x28=>
 BR x28
 (rL 198 a1 w fun x30=>
 rL 24 a3 w fun x31=>
 rF 56 x4 1 w fun x32=>
 rL 9 x32 w fun x33=>
 OPN tp (ze7 x30 [x31,x33]) w fun x34 w=>
 J10 [] w)
 (rB .eql 3 T0 U0 x9 (iV 5) w fun x29=>
 BR x29
 (rL 198 a1 w fun x30=>
 rL 24 a3 w fun x31=>
 rF 56 x4 1 w fun x32=>
 rL 9 x32 w fun x33=>
 OPN tp (ze7 x30 [x31,x33]) w fun x34 w=>
 J10 [] w)
 (J10 [] w)))))) (fun u10 w=>
 rF 56 x4 2 w fun x35=>
 rL 53 x35 w fun x36=>
 cL 182 [x36] w fun x37 w=>
 rN 24 3 x37 w fun x38=>
 LOOPI [39] [(iV 0)] w fun u11 w next11=>
 rC (u11 39) x38 w fun x40=>
 BR x40
 (rX 24 x37 (u11 39) w fun x41=>
 rL 9 x41 w fun x42=>
 rL 198 a1 w fun x43=>
 rF 27 a2 0 w fun x44=>
 rL 24 x44 w fun x45=>
 OPN tp (ze7 x43 [x45,x42]) w fun x47 w=>
 rA (u11 39) (iV 1) w fun x48=>
 next11 [x48] w)
 (R (Value.bool true) w))
def cfg181:Cfg:=⟨extL,[(10,34359738112,[])],[(11,562400197607552,[39])],[],[],[],[]⟩
theorem F181_call {a0 a1 a2 a3:Value} {w:World} {R:VW} (h:F181 a0 a1 a2 a3 w R):cL 181 [a0,a1,a2,a3] w R:=co (g:=cfg181) Tryz.func181 (by kernel_rfl) (by kernel_rfl) (by kernel_rfl) h
def F180 (a0 a1:Value) (w:World) (R:VW):Prop:=
 rN 29 3 a0 w fun x8=>
 LOOPI [9] [(iV 0)] w fun u2 w next2=>
 rC (u2 9) x8 w fun x10=>
 BR x10
 (rX 29 a0 (u2 9) w fun x11=>
 rL 56 x11 w fun x12=>
 oP (Instr.alloc 56 true (.tuple #[])) w fun x6 w=>
 oS 56 x6 x12 w fun w=>
 rL 56 x6 w fun x14=>
 OPN tp (ze7 a1 [x14]) w fun x15 w=>
 rD (Op.unary .not x15) w fun x16=>
 BR x16
 (R (Value.bool false) w)
 (rF 56 x6 3 w fun x18=>
 rL 29 x18 w fun x19=>
 cL 180 [x19,a1] w fun x21 w=>
 rD (Op.unary .not x21) w fun x22=>
 BR x22
 (R (Value.bool false) w)
 (rF 56 x6 4 w fun x25=>
 rL 29 x25 w fun x26=>
 cL 180 [x26,a1] w fun x28 w=>
 rD (Op.unary .not x28) w fun x29=>
 BR x29
 (R (Value.bool false) w)
 (rA (u2 9) (iV 1) w fun x31=>
 next2 [x31] w))))
 (R (Value.bool true) w)
def cfg180:Cfg:=⟨extL,[],[(2,4294966864,[9])],[],[],[],[]⟩
theorem F180_call {a0 a1:Value} {w:World} {R:VW} (h:F180 a0 a1 w R):cL 180 [a0,a1] w R:=co (g:=cfg180) Tryz.func180 (by kernel_rfl) (by kernel_rfl) (by kernel_rfl) h
def F98 (a0:Value) (w:World) (R:VW):Prop:=
 oP (Instr.box 27 a0) w fun x1 w=>
 oP (Instr.alloc 24 true (.tuple #[])) w fun x3 w=>
 rL 27 x1 w fun x8=>
 cL 44 [x8] w fun x9 w=>
 oP (Instr.alloc 24 true (.tuple #[])) w fun x4 w=>
 oS 24 x4 x9 w fun w=>
 rD (Instr.makeFunc (Go.Fn.func 178) [].toArray [x3].toArray) w fun x10=>
 oP (Instr.alloc 198 true (.tuple #[])) w fun x5 w=>
 oS 198 x5 x10 w fun w=>
 rF 27 x1 2 w fun x11=>
 rL 25 x11 w fun x12=>
 rN 25 3 x12 w fun x13=>
 LOOPI [14] [(iV 0)] w fun u5 w next5=>
 rC (u5 14) x13 w fun x15=>
 BR x15
 (rX 25 x12 (u5 14) w fun x16=>
 rL 32 x16 w fun x17=>
 oP (Instr.alloc 32 true (.tuple #[])) w fun x7 w=>
 oS 32 x7 x17 w fun w=>
 rF 32 x7 1 w fun x18=>
 rL 29 x18 w fun x19=>
 rD (Instr.makeFunc (Go.Fn.func 181) [].toArray [x5,x1,x4].toArray) w fun x20=>
 cL 180 [x19,x20] w fun x21 w=>
 rA (u5 14) (iV 1) w fun x22=>
 next5 [x22] w)
 (rL 24 x3 w fun x23=>
 R x23 w)
def cfg98:Cfg:=⟨extL,[],[(5,8372352,[14])],[],[],[],[]⟩
theorem F98_call {a0:Value} {w:World} {R:VW} (h:F98 a0 w R):cL 98 [a0] w R:=co (g:=cfg98) Tryz.func98 (by kernel_rfl) (by kernel_rfl) (by kernel_rfl) h
def F96 (a0:Value) (w:World) (R:VW):Prop:=
 oP (Instr.box 27 a0) w fun x1 w=>
 rF 27 x1 0 w fun x6=>
 rL 24 x6 w fun x7=>
 cL 175 [x7,(iV 6)] w fun x8 w=>
 rD (Op.unary .not x8) w fun x9=>
 BR x9
 (R (Value.bool false) w)
 (rF 27 x1 1 w fun x11=>
 rL 24 x11 w fun x12=>
 cL 175 [x12,(iV 6)] w fun x13 w=>
 rD (Op.unary .not x13) w fun x14=>
 BR x14
 (R (Value.bool false) w)
 (rF 27 x1 2 w fun x17=>
 rL 25 x17 w fun x18=>
 rN 25 3 x18 w fun x19=>
 rB .gtr 3 T0 U0 x19 (iV 8) w fun x20=>
 BR x20
 (R (Value.bool false) w)
 (rF 27 x1 2 w fun x22=>
 rL 25 x22 w fun x23=>
 rN 25 3 x23 w fun x24=>
 LOOPI [25] [(iV 0)] w fun u4 w next4=>
 rC (u4 25) x24 w fun x26=>
 BR x26
 (rX 25 x23 (u4 25) w fun x27=>
 rL 32 x27 w fun x28=>
 oP (Instr.alloc 32 true (.tuple #[])) w fun x4 w=>
 oS 32 x4 x28 w fun w=>
 oP (Instr.alloc 3 true (.tuple #[])) w fun x5 w=>
 oS 3 x5 (iV 60) w fun w=>
 rF 32 x4 0 w fun x29=>
 rL 9 x29 w fun x30=>
 cL 176 [x30] w fun x31 w=>
 rD (Op.unary .not x31) w fun x32=>
 BR x32
 (R (Value.bool false) w)
 (rF 32 x4 1 w fun x34=>
 rL 29 x34 w fun x35=>
 cL 177 [x35,(iV 6),x5] w fun x36 w=>
 rD (Op.unary .not x36) w fun x37=>
 BR x37
 (R (Value.bool false) w)
 (rA (u4 25) (iV 1) w fun x39=>
 next4 [x39] w)))
 (R (Value.bool true) w))))
def cfg96:Cfg:=⟨extL,[],[(4,1099478073396,[25])],[],[],[],[]⟩
theorem F96_call {a0:Value} {w:World} {R:VW} (h:F96 a0 w R):cL 96 [a0] w R:=co (g:=cfg96) Tryz.func96 (by kernel_rfl) (by kernel_rfl) (by kernel_rfl) h
def F42 (a0:Value) (w:World) (R:VW):Prop:=
 oP (Instr.box 27 a0) w fun x1 w=>
 rL 27 x1 w fun x4=>
 cL 96 [x4] w fun x5 w=>
 rD (Op.unary .not x5) w fun x6=>
 BR x6
 (R (iV 1) w)
 (rL 27 x1 w fun x7=>
 cL 44 [x7] w fun x8 w=>
 rF 27 x1 0 w fun x9=>
 rL 24 x9 w fun x10=>
 cL 97 [x10] w fun x11 w=>
 BR x11
 (R (iV 2) w)
 (rF 27 x1 1 w fun x13=>
 rL 24 x13 w fun x14=>
 cL 97 [x14] w fun x15 w=>
 BR x15
 (R (iV 2) w)
 (cL 97 [x8] w fun x19 w=>
 BR x19
 (R (iV 2) w)
 (rL 27 x1 w fun x21=>
 cL 98 [x21] w fun x22 w=>
 rN 24 3 x22 w fun x23=>
 rB .gtr 3 T0 U0 x23 (iV 0) w fun x24=>
 BR x24
 (R (iV 3) w)
 (cL 99 [x8,(Value.string (ByteArray.mk #[109,97,105,110]))] w fun x26 w=>
 rD (Op.unary .not x26) w fun x27=>
 BR x27
 (R (iV 4) w)
 (R (iV 0) w))))))
def cfg42:Cfg:=⟨extL,[],[],[],[],[],[]⟩
theorem F42_call {a0:Value} {w:World} {R:VW} (h:F42 a0 w R):cL 42 [a0] w R:=co (g:=cfg42) Tryz.func42 (by kernel_rfl) (by kernel_rfl) (by kernel_rfl) h
theorem zjk {c:Scp} (hp:zwe c):∀ (n:Nat) (l:List DStmt),zwg c n l
 | 0,l=>zg6 (n:=0) (l:=l) hp (fun m l h=>absurd h (by omega))
 | n + 1, l => zg6 (n := n + 1) (l := l) hp fun m l h => by
     obtain rfl:m=n:=by omega
     exact zjk hp m l
theorem zfw {w W:World} {v:Value} {p:DProg} (h:Is W v p) (e:Ext W w) (hn:p.procs.length≤1000):CALL Tryz.prog 44 [v] w fun r w'=>Ext w w'∧Own w.heap.size w' r (p.procs.map DProc.name):=by
 refine F44_call ?_
 unfold F44
 refine zcz h e fun w1 hx1 hA=>?_
 have hs1:=hx1.size
 refine zaa zf2 ?_
 refine zab zr1 (zdQ hA) (Ext.refl _) fun v7 h7=>?_
 refine zae u25 h7 ?_
 refine zaB p.procs.length (fun k us w'=>∃ v hi,us=[v,.int .i64 (k:Int)]∧k≤p.procs.length∧Ext w1 w'∧RowI w1.heap.size hi 9 w' v ((p.procs.take k).map DProc.name)∧hi≤w'.heap.size∧w1.heap.size≤hi) 0 (Nat.zero_le _)
   ⟨_,w1.heap.size,rfl,Nat.zero_le _,Ext.refl _,zbE _ _ _ _,Nat.le_refl _,Nat.le_refl _⟩ ?_
 rintro k m u w3 hkm ⟨v3,hi,hu,hkl,hx3,r3,hhi,hlo⟩
 obtain ⟨hu0,hu1⟩:=ze4 hu
 rw [hu0,hu1]
 refine zai ?_
 refine br (fun hlt=>?_) (fun hge=>?_)
 · have hk:k<p.procs.length:=by omega
   refine zad u25 zmO h7 hk fun b11 o11 hA11=>?_
   refine zab zmO hA11 hx3 fun v12 h12=>?_
   refine zcA zvO rfl zmO rfl h12 hx3 fun w4 hx4 hA4 hV4=>?_
   have hs4:=hx4.size
   refine zaa zth ?_
   refine zas ty9 (zjW hA4) (Ext.refl _) fun hS=>?_
   refine zcI (α:=ByteArray) (lo2:=w4.heap.size) (hi2:=w4.heap.size) u24 ty9 z9 zc9 (by decide) (r3.ext hx4) (by omega) (zsf hS) (by omega) (by omega) (by rw [zam,List.length_map,List.length_take];omega) (by rw [List.length_map,List.length_take];omega) fun v21 w5 hc5 r5=>?_
   have hs5:=hc5.size
   refine zag (by omega) ?_
   refine ⟨m-1,by omega,k+1,by omega,v21,w5.heap.size,rfl,by omega,Ext.chgI (hx3.trans hx4) hc5 (by omega),?_,Nat.le_refl _,by omega⟩
   rw [List.take_succ_eq_append_getElem hk,List.map_append]
   exact r5
 refine ⟨hx1.trans hx3,?_⟩
 rw [List.take_of_length_le (by omega)] at r3
 exact r3.own.own.mono (by omega)
theorem zuH {w W:World} {vl vp:Value} {l:List ByteArray} {s:ByteArray} (h:Is W vl l) (e:Ext W w) (hm:s∈l):CALL Tryz.prog 178 [vl,.string s,vp] w fun r w'=>Ext w w'∧r=.tuple #[]:=by
 refine F178_call ?_
 unfold F178
 refine (zbt h e).mono ?_
 rintro _ w1 ⟨hx1,rfl⟩
 refine zaS ?_
 exact br (fun hn=>absurd hm hn) (fun _=>⟨hx1,rfl⟩)
theorem ztL:zbU Tryz.prog 24=some [.slice none 0 0]:=by kernel_rfl
theorem zwh:zdT Tryz.prog 178=true:=by kernel_rfl
theorem zwi:zdT Tryz.prog 181=true:=by kernel_rfl
theorem zrU:tyI Tryz.prog 198=some (1,8,false):=by kernel_rfl
theorem zwj:zbU Tryz.prog 198=some [.nilFunc]:=by kernel_rfl
structure KnS (p:DProg) (N:List ByteArray) (x:DStmt):Prop where
 k1:x.kind=1→x.name∈p.globals
 k6:x.kind=6∨x.kind=7→x.name∈p.locks
 k4:x.kind=4∨x.kind=5→x.name∈N
 rd:∀ s∈zbl x.term,s∈p.globals
theorem zvG {w W Wp Wn:World} {v:Value} {x:DStmt} {p:DProg} {N:List ByteArray} {g5 g1 g4:Nat} {vp:Value} (h:Is W v x) (e:Ext W w) (hB:Blk g5 198 w [.func (.func 178) #[] #[vp]])
   (hP:At Wp g1 0 p) (eP:Ext Wp w) {vn:Value} (hBn:Blk g4 24 w [vn]) (hN:Is Wn vn N) (eN:Ext Wn w) (hk:KnS p N x) :
   CALL Tryz.prog 181 [v,.pointer (some ⟨g5,0,none⟩),.pointer (some ⟨g1,0,none⟩),.pointer (some ⟨g4,0,none⟩)] w fun r w'=>Ext w w'∧r=.bool true:=by
 refine F181_call ?_
 unfold F181
 refine zcz h e fun w1 hx1 hA=>?_
 have hlook:∀ {w2 W2:World} {vl:Value} {l:List ByteArray} {s:ByteArray} {K:Value→World→Prop},Is W2 vl l→Ext W2 w2→s∈l→(∀ r w3,Ext w2 w3→K r w3)→OPN Tryz.prog (ze7 (.func (.func 178) #[] #[vp]) [vl,.string s]) w2 K:=fun {w2 W2 vl l s K} h2 e2 hm k=>
   zoy (args:=[vl,.string s]) (caps:=[vp]) zwh ((zuH h2 e2 hm).mono fun r w3 hh=>k r w3 hh.1)
 refine JOIN.mk (fun us w'=>Ext w1 w') ?_ ?_
 · refine zaa zhJ ?_
   refine zac ty3 (zcM hA) (Ext.refl _) fun hI=>?_
   refine zaf ?_
   refine br (fun k1=>?_) (fun k1=>?_)
   · refine zaA zrU (hB.ext hx1) rfl ?_
     refine zaa zlm ?_
     refine zab zcQ (zeE hP) (eP.trans hx1) fun v14 h14=>?_
     refine zaa zef ?_
     refine zas ty9 (zbY hA) (Ext.refl _) fun hS=>?_
     exact hlook h14 (eP.trans hx1) (hk.k1 k1) fun r w3 hx=>hx
   refine zaf ?_
   refine zrA (Q:=x.kind=6∨x.kind=7) .inl (fun hQ=>?_) (fun key h6=>?_)
   · refine zaA zrU (hB.ext hx1) rfl ?_
     refine zaa zn3 ?_
     refine zab zcQ (zfR hP) (eP.trans hx1) fun v14 h14=>?_
     refine zaa zef ?_
     refine zas ty9 (zbY hA) (Ext.refl _) fun hS=>?_
     exact hlook h14 (eP.trans hx1) (hk.k6 hQ) fun r w3 hx=>hx
   refine zaf ?_
   refine br (fun h7=>key (.inr h7)) (fun h7=>?_)
   refine zaf ?_
   refine zrA (Q:=x.kind=4∨x.kind=5) .inl (fun hQ=>?_) (fun key2 h4=>?_)
   · refine zaA zrU (hB.ext hx1) rfl ?_
     refine zaA zcQ (hBn.ext hx1) rfl ?_
     refine zaa zef ?_
     refine zas ty9 (zbY hA) (Ext.refl _) fun hS=>?_
     exact hlook hN (eN.trans hx1) (hk.k4 hQ) fun r w3 hx=>hx
   refine zaf ?_
   exact br (fun h5=>key2 (.inr h5)) fun h5=>Ext.refl _
 rintro u10 w2 hx2
 refine zaa zfd ?_
 refine zab zcd (zcx hA) hx2 fun v36 h36=>?_
 refine (zdk h36 hx2).mono ?_
 rintro v37 w3 ⟨hx3,h37⟩
 refine zae u24 h37 ?_
 refine zaB (zbl x.term).length (fun k us w'=>us=[.int .i64 (k:Int)]∧Ext w3 w'∧k≤(zbl x.term).length) 0 (Nat.zero_le _) ⟨rfl,Ext.refl _,Nat.zero_le _⟩ ?_
 rintro k m u w4 hkm ⟨hu,hx4,hkl⟩
 simp only [List.map_cons,List.map_nil,List.cons.injEq,and_true] at hu
 rw [hu]
 have hln:=zah h37
 have hx14:=hx1.trans (hx2.trans (hx3.trans hx4))
 refine zai ?_
 refine br (fun hlt=>?_) (fun hge=>⟨hx14,rfl⟩)
 have hk':k<(zbl x.term).length:=by omega
 refine zad u24 ty9 h37 hk' fun b41 o41 hA41=>?_
 refine zas ty9 hA41 hx4 fun hS=>?_
 refine zaA zrU (hB.ext hx14) rfl ?_
 refine zaa zlm ?_
 refine zab zcQ (zeE hP) (eP.trans hx14) fun v45 h45=>?_
 refine hlook h45 (eP.trans hx14) (hk.rd _ (List.getElem_mem hk')) fun r w5 hx5=>?_
 refine zag (by omega) ?_
 exact ⟨m-1,by omega,k+1,by omega,rfl,hx4.trans hx5,by omega⟩
def zuI (c:Scp) (fv:Value) (w0:World) (n:Nat) (l:List DStmt):Prop:=∀ {w W:World} {v:Value},Is W v l→Ext W w→Ext w0 w→(∀ x∈l,StR c n x)→CALL Tryz.prog 180 [v,fv] w fun r w'=>Ext w w'∧r=.bool true
theorem zj6 {c:Scp} {fv:Value} {w0:World} {n:Nat} {l:List DStmt} (hu:∀ {w W:World} {v:Value} {x:DStmt} {m:Nat},Is W v x→Ext W w→Ext w0 w→StR c m x→OPN Tryz.prog (ze7 fv [v]) w fun r w'=>Ext w w'∧r=.bool true)
   (ih:∀ m l,m+1=n→zuI c fv w0 m l) (inil:∀ m,zuI c fv w0 m []):zuI c fv w0 n l:=by
 intro w W v h e e0 hs
 have hln:=zah h
 refine F180_call ?_
 unfold F180
 refine zae u29 h ?_
 refine zaB l.length (fun k us w'=>us=[.int .i64 (k:Int)]∧Ext w w'∧k≤l.length) 0 (Nat.zero_le _) ⟨rfl,Ext.refl w,Nat.zero_le _⟩ ?_
 rintro k m u w1 hkm ⟨hu1,hx1,hkl⟩
 simp only [List.map_cons,List.map_nil,List.cons.injEq,and_true] at hu1
 rw [hu1]
 refine zai ?_
 refine br (fun hlt=>?_) (fun hge=>⟨hx1,rfl⟩)
 have hk:k<l.length:=by omega
 obtain ⟨x,hx⟩:∃ x,x=l[k]:=⟨_,rfl⟩
 have hxs:StR c n x:=by rw [hx];exact hs _ (List.getElem_mem hk)
 have hkid:∃ q,(∀ y∈x.body,StR c q y)∧(∀ y∈x.els,StR c q y)∧zuI c fv w0 q x.body∧zuI c fv w0 q x.els:=by
   have h0:St0 c x→x.body=[]∧x.els=[]:=fun h=>by rcases h with q | q | q | q<;>exact ⟨q.2.2.2.1,q.2.2.2.2⟩
   cases n with
   | zero=>
     obtain ⟨h1,h2⟩:=h0 hxs.zero
     rw [h1,h2]
     exact ⟨0,by simp,by simp,inil 0,inil 0⟩
   | succ n=>
     rcases hxs.succ with q | ⟨_,_,_,h4,h5⟩
     · obtain ⟨h1,h2⟩:=h0 q
       rw [h1,h2]
       exact ⟨0,by simp,by simp,inil 0,inil 0⟩
     exact ⟨n,h4,h5,ih n _ rfl,ih n _ rfl⟩
 obtain ⟨q,hqb,hqe,ihb,ihe⟩:=hkid
 refine zad u29 zc2 h hk fun b11 o11 hA11=>?_
 rw [←hx] at hA11
 refine zab zc2 hA11 (e.trans hx1) fun v12 h12=>?_
 refine zcA zuV rfl zc2 rfl h12 (e.trans hx1) fun w2 hx2 hA6 hV6=>?_
 refine zab zc2 hA6 (Ext.refl _) fun v14 h14=>?_
 refine zh2 ?_ (hu h14 (Ext.refl _) (e0.trans (hx1.trans hx2)) hxs)
 rintro _ w3 ⟨hx3,rfl⟩
 refine zaU ?_
 refine zb4 (fun hc=>by simp at hc) (fun _=>?_)
 refine zaa zeg ?_
 refine zab zfc (zcN hA6) hx3 fun v19 h19=>?_
 refine (ihb h19 hx3 (e0.trans (hx1.trans (hx2.trans hx3))) hqb).mono ?_
 rintro _ w4 ⟨hx4,rfl⟩
 refine zaU ?_
 refine zb4 (fun hc=>by simp at hc) (fun _=>?_)
 have hx24:=hx3.trans hx4
 refine zaa zdF ?_
 refine zab zfc (zcy hA6) hx24 fun v26 h26=>?_
 refine (ihe h26 hx24 (e0.trans (hx1.trans (hx2.trans hx24))) hqe).mono ?_
 rintro _ w5 ⟨hx5,rfl⟩
 refine zaU ?_
 refine zb4 (fun hc=>by simp at hc) (fun _=>?_)
 refine zag (by omega) ?_
 exact ⟨m-1,by omega,k+1,by omega,rfl,hx1.trans (hx2.trans (hx24.trans hx5)),by omega⟩
theorem zmv {c:Scp} {fv:Value} {w0:World} (m:Nat):zuI c fv w0 m []:=by
 intro w W v h e e0 hs
 refine F180_call ?_
 unfold F180
 refine zae u29 h ?_
 refine zaB 0 (fun k us w'=>us=[.int .i64 (k:Int)]∧Ext w w'∧k≤0) 0 (Nat.zero_le _) ⟨rfl,Ext.refl w,Nat.zero_le _⟩ ?_
 rintro k m u w1 hkm ⟨hu1,hx1,hkl⟩
 simp only [List.map_cons,List.map_nil,List.cons.injEq,and_true] at hu1
 rw [hu1]
 refine zai ?_
 exact br (fun hlt=>by simp at hlt;omega) (fun hge=>⟨hx1,rfl⟩)
theorem zoX {c:Scp} {fv:Value} {w0:World} (hu:∀ {w W:World} {v:Value} {x:DStmt} {m:Nat},Is W v x→Ext W w→Ext w0 w→StR c m x→OPN Tryz.prog (ze7 fv [v]) w fun r w'=>Ext w w'∧r=.bool true):∀ (n:Nat) (l:List DStmt),zuI c fv w0 n l
 | 0,l=>zj6 (n:=0) (l:=l) hu (fun m l h=>absurd h (by omega)) zmv
 | n + 1, l => zj6 (n := n + 1) (l := l) hu (fun m l h => by
     obtain rfl:m=n:=by omega
     exact zoX hu m l) zmv
theorem StR.kn {c:Scp} {n:Nat} {x:DStmt} {p:DProg} {N:List ByteArray} (hg:p.globals=c.gl) (hl:p.locks=c.lk) (hN:∀ s∈c.pr,s∈N) (h:StR c n x):KnS p N x:=by
 have r0:zbl term0=[]:=by decide
 have h0:St0 c x→KnS p N x:=fun q=>by
   rcases q with q | q | q | q
   · exact ⟨fun _=>hg▸q.2.1,fun _=>by have:=q.1;omega,fun _=>by have:=q.1;omega,fun s hs=>hg▸q.2.2.1.2.1 s hs⟩
   · exact ⟨fun _=>by have:=q.1;omega,fun _=>by have:=q.1;omega,fun _=>hN _ q.2.1,fun s hs=>by rw [q.2.2.1,r0] at hs;cases hs⟩
   · exact ⟨fun _=>by have:=q.1;omega,fun _=>hl▸q.2.1,fun _=>by have:=q.1;omega,fun s hs=>by rw [q.2.2.1,r0] at hs;cases hs⟩
   exact ⟨fun _=>by have:=q.1;omega,fun _=>by have:=q.1;omega,fun _=>by have:=q.1;omega,fun s hs=>by rw [q.2.2.1,r0] at hs;cases hs⟩
 cases n with
 | zero=>exact h0 h.zero
 | succ n=>
   rcases h.succ with q | ⟨h1,h2,h3,_,_⟩
   · exact h0 q
   exact ⟨fun _=>by omega,fun _=>by omega,fun _=>by omega,fun s hs=>hg▸h3.2.1 s hs⟩
theorem zmw {w W:World} {v:Value} {p:DProg} (h:Is W v p) (e:Ext W w) (hp:ProgR p):CALL Tryz.prog 98 [v] w fun r w'=>Ext w w'∧r=.slice none 0 0:=by
 obtain ⟨f1,f2,f3,f4⟩:=hp.facts
 refine F98_call ?_
 unfold F98
 refine zcz h e fun w1 hx1 hA=>?_
 refine zbD ztL fun w2 hx2 hB2=>?_
 refine zab zn2 hA hx2 fun v8 h8=>?_
 refine (zfw h8 hx2 (by omega)).mono ?_
 rintro v9 w3 ⟨hx3,o9⟩
 obtain ⟨F9,M9,_⟩:=o9
 have h9:=M9.is
 have one9:v9.oneCell'=true:=zk8 (lo:=0) (hi:=w3.heap.size) rfl ⟨F9,M9,fun b hb=>⟨Nat.zero_le _,M9.lt b hb⟩⟩
 refine zhr ztL zcQ one9 fun w4 hx4 hB4=>?_
 refine zaQ (v:=.func (.func 178) #[] #[.pointer (some ⟨w1.heap.size,0,none⟩)]) (fun w' _=>by simp [Instr.makeFunc]) ?_
 refine zhr zwj zrU rfl fun w5 hx5 hB5=>?_
 have hx15:=hx2.trans (hx3.trans (hx4.trans hx5))
 refine zaa zf2 ?_
 refine zab zr1 (zdQ hA) hx15 fun v12 h12=>?_
 refine zae u25 h12 ?_
 refine zaB p.procs.length (fun k us w'=>us=[.int .i64 (k:Int)]∧Ext w5 w'∧k≤p.procs.length) 0 (Nat.zero_le _) ⟨rfl,Ext.refl _,Nat.zero_le _⟩ ?_
 rintro k m u w6 hkm ⟨hu,hx6,hkl⟩
 simp only [List.map_cons,List.map_nil,List.cons.injEq,and_true] at hu
 rw [hu]
 have hx16:=hx15.trans hx6
 refine zai ?_
 refine br (fun hlt=>?_) (fun hge=>?_)
 · have hk:k<p.procs.length:=by omega
   refine zad u25 zmO h12 hk fun b16 o16 hA16=>?_
   refine zab zmO hA16 hx16 fun v17 h17=>?_
   refine zcA zvO rfl zmO rfl h17 hx16 fun w7 hx7 hA7 hV7=>?_
   refine zaa zln ?_
   refine zab zfc (zjX hA7) (Ext.refl _) fun v19 h19=>?_
   refine zaQ (v:=.func (.func 181) #[] #[.pointer (some ⟨w4.heap.size,0,none⟩),.pointer (some ⟨w.heap.size,0,none⟩),.pointer (some ⟨w3.heap.size,0,none⟩)]) (fun w' _=>by simp [Instr.makeFunc]) ?_
   have hb:=hp.b _ (List.getElem_mem hk)
   refine (zoX (c:=⟨p.globals,p.locks,(p.procs.map DProc.name).drop 1⟩) (w0:=w7) (fun {w W v x m} hi ei e0 hs=>?_) 2 _ h19 (Ext.refl _) (Ext.refl _) hb.1).mono ?_
   · refine zoy (args:=[v]) (caps:=[_,_,_]) zwi ?_
     exact zvG hi ei (hB5.ext (hx6.trans (hx7.trans e0))) hA (hx16.trans (hx7.trans e0)) (hB4.ext (hx5.trans (hx6.trans (hx7.trans e0)))) h9 (hx4.trans<|hx5.trans (hx6.trans (hx7.trans e0))) (hs.kn rfl rfl fun s hs=>List.mem_of_mem_drop hs)
   rintro _ w8 ⟨hx8,rfl⟩
   refine zag (by omega) ?_
   exact ⟨m-1,by omega,k+1,by omega,rfl,hx6.trans (hx7.trans hx8),by omega⟩
 refine zaA zcQ (hB2.ext (hx3.trans (hx4.trans (hx5.trans hx6)))) rfl ?_
 exact ⟨hx1.trans hx16,rfl⟩
theorem zlb {w W:World} {v:Value} {p:DProg} (h:Is W v p) (e:Ext W w) (hp:ProgR p):CALL Tryz.prog 96 [v] w fun r w'=>Ext w w'∧r=.bool true:=by
 obtain ⟨f1,f2,f3,f4⟩:=hp.facts
 refine F96_call ?_
 unfold F96
 refine zcz h e fun w1 hx1 hA=>?_
 refine zaa zlm ?_
 refine zab zcQ (zeE hA) (Ext.refl _) fun v7 h7=>?_
 refine (zd3 h7 (Ext.refl _)).mono ?_
 rintro _ w2 ⟨hx2,rfl⟩
 refine zaU ?_
 refine zb4 (fun hc=>by rcases hp.g with e | e<;>(rw [e] at hc;exact absurd hc (by decide))) (fun _=>?_)
 refine zaa zn3 ?_
 refine zab zcQ (zfR hA) hx2 fun v12 h12=>?_
 refine (zd3 h12 hx2).mono ?_
 rintro _ w3 ⟨hx3,rfl⟩
 refine zaU ?_
 refine zb4 (fun hc=>by rcases hp.l with e | e | e<;>(rw [e] at hc;exact absurd hc (by decide))) (fun _=>?_)
 have hx13:=hx2.trans hx3
 refine zaa zf2 ?_
 refine zab zr1 (zdQ hA) hx13 fun v18 h18=>?_
 refine zae u25 h18 ?_
 refine zcT ?_
 refine br (fun hc=>by omega) (fun _=>?_)
 refine zaa zf2 ?_
 refine zab zr1 (zdQ hA) hx13 fun v23 h23=>?_
 refine zae u25 h23 ?_
 refine zaB p.procs.length (fun k us w'=>us=[.int .i64 (k:Int)]∧Ext w1 w'∧k≤p.procs.length) 0 (Nat.zero_le _) ⟨rfl,hx13,Nat.zero_le _⟩ ?_
 rintro k m u w4 hkm ⟨hu,hx4,hkl⟩
 simp only [List.map_cons,List.map_nil,List.cons.injEq,and_true] at hu
 rw [hu]
 refine zai ?_
 refine br (fun hlt=>?_) (fun hge=>⟨hx1.trans hx4,rfl⟩)
 have hk:k<p.procs.length:=by omega
 have hkm':p.procs[k]∈p.procs:=List.getElem_mem hk
 refine zad u25 zmO h23 hk fun b27 o27 hA27=>?_
 refine zab zmO hA27 hx4 fun v28 h28=>?_
 refine zcA zvO rfl zmO rfl h28 hx4 fun w5 hx5 hA5 hV5=>?_
 have hs4:=hx4.size
 have hs5:=hx5.size
 refine zhr (u:=.int .i64 60) zlI ty3 rfl fun w6 hx6 hB6=>?_
 have hs6:=hx6.size
 refine zaa zth ?_
 refine zas ty9 (zjW hA5) hx6 fun hS=>?_
 refine (zbJ (w:=w6)).mono ?_
 rintro _ w7 ⟨hx7,rfl⟩
 refine zaU ?_
 refine zb4 (fun hc=>by rw [f2 _ (List.mem_map.2 ⟨_,hkm',rfl⟩)] at hc;cases hc) (fun _=>?_)
 refine zaa zln ?_
 refine zab zfc (zjX hA5) (hx6.trans hx7) fun v35 h35=>?_
 have hb:=hp.b _ hkm'
 refine (zjk ⟨hp.gn,hp.ln,fun x hx=>f2 x (List.mem_of_mem_drop hx)⟩ 2 _ (r:=60) h35 (hx6.trans hx7) hb.1 (by omega) (by omega) (hB6.ext hx7) (Nat.le_refl _) (by have:=hb.2;omega) (by omega)).mono ?_
 rintro _ w8 ⟨hc8,rfl,-⟩
 refine zaU ?_
 refine zb4 (fun hc=>by cases hc) (fun _=>?_)
 refine zag (by omega) ?_
 exact ⟨m-1,by omega,k+1,by omega,rfl,((hx4.trans hx5).trans (hx6.trans hx7)).chgI hc8 (by omega),by omega⟩
theorem zh1 {w W:World} {v:Value} {p:DProg} (h:Is W v p) (e:Ext W w) (hp:ProgR p):CALL Tryz.prog 42 [v] w fun r w'=>Ext w w'∧r=.int .i64 0:=by
 obtain ⟨f1,f2,f3,f4⟩:=hp.facts
 refine F42_call ?_
 unfold F42
 refine zcz h e fun w1 hx1 hA=>?_
 refine zab zn2 hA (Ext.refl _) fun v4 h4=>?_
 refine (zlb h4 (Ext.refl _) hp).mono ?_
 rintro _ w2 ⟨hx2,rfl⟩
 refine zaU ?_
 refine zb4 (fun hc=>by cases hc) (fun _=>?_)
 refine zab zn2 hA hx2 fun v7 h7=>?_
 refine (zfw h7 hx2 (by omega)).mono ?_
 rintro v8 w3 ⟨hx3,o8⟩
 have hx13:=hx2.trans hx3
 refine zaa zlm ?_
 refine zab zcQ (zeE hA) hx13 fun v10 h10=>?_
 refine (zc8 h10 hx13).mono ?_
 rintro _ w4 ⟨hx4,rfl⟩
 refine br (fun hc=>by rcases hp.g with e | e<;>(rw [e] at hc;exact absurd (by decide) hc)) (fun _=>?_)
 have hx14:=hx13.trans hx4
 refine zaa zn3 ?_
 refine zab zcQ (zfR hA) hx14 fun v14 h14=>?_
 refine (zc8 h14 hx14).mono ?_
 rintro _ w5 ⟨hx5,rfl⟩
 refine br (fun hc=>by rcases hp.l with e | e | e<;>(rw [e] at hc;exact absurd (by decide) hc)) (fun _=>?_)
 refine (zc8 o8.is (hx4.trans hx5)).mono ?_
 rintro _ w6 ⟨hx6,rfl⟩
 refine br (fun hc=>absurd f3 hc) (fun _=>?_)
 have hx16:=hx14.trans (hx5.trans hx6)
 refine zab zn2 hA hx16 fun v21 h21=>?_
 refine (zmw h21 hx16 hp).mono ?_
 rintro _ w7 ⟨hx7,rfl⟩
 refine zae (α:=ByteArray) (l:=[]) u24 (ztg (w:=w7) rfl) ?_
 refine zcT ?_
 refine br (fun hc=>by simp at hc) (fun _=>?_)
 refine (zbt o8.is (hx4.trans (hx5.trans (hx6.trans hx7)))).mono ?_
 rintro _ w8 ⟨hx8,rfl⟩
 refine zaS ?_
 exact br (fun hc=>absurd f4 hc) fun _=>⟨hx1.trans (hx16.trans (hx7.trans hx8)),rfl⟩
def F43 (a0:Value) (w:World) (R:VW):Prop:=
 rB .eql 24 T0 U0 a0 (Value.slice none 0 0) w fun x4=>
 BR x4
 (R (Value.slice none 0 0) w)
 (oP (Instr.buildSlice 24 0 #[]) w fun x5 w=>
 oP (Builtin.append_ #[24,24] 24 [x5,a0].toArray) w fun x7 w=>
 R x7 w)
def cfg43:Cfg:=⟨extL,[],[],[],[],[],[]⟩
theorem F43_call {a0:Value} {w:World} {R:VW} (h:F43 a0 w R):cL 43 [a0] w R:=co (g:=cfg43) Tryz.func43 (by kernel_rfl) (by kernel_rfl) (by kernel_rfl) h
def F10 (a0:Value) (w:World) (R:VW):Prop:=
 oP (Instr.box 27 a0) w fun x1 w=>
 oP (Instr.alloc 36 true (.tuple #[])) w fun x2 w=>
 rL 27 x1 w fun x7=>
 cL 42 [x7] w fun x8 w=>
 rB .neq 3 T0 U0 x8 (iV 0) w fun x9=>
 BR x9
 (rD (Instr.build 36 #[]) w fun x10=>
 oS 36 x2 x10 w fun w=>
 rD (zax 36 x2) w fun r2=>R (Value.tuple #[r2,(Value.bool false)]) w)
 ((fun w0=>PAR w0 [[(0,11)],[(1,12),(0,11)],[(2,13),(1,12)],[(3,14)],[(4,15),(3,14)],[(5,16),(4,15),(2,13)],[(6,17)],[(7,18),(6,17),(5,16)],[(8,19),(2,13),(5,16),(7,18)],[(9,4)]] (fun Q=>
 (∀ (u3:Env) (T:Nat→Nat×Nat) (w:World),Ext w0 w→zaH [] w0.heap.size w.heap.size T→(True)→(fun w1=>rF 27 x1 0 w fun x11=>
 Ext w1 w∧Q 0 (upd u3 11 x11) (zbM T 0 (w1.heap.size,w.heap.size)) w) w) ∧
 (∀ (u3:Env) (T:Nat→Nat×Nat) (w:World),Ext w0 w→zaH [0] w0.heap.size w.heap.size T→(Q 0 u3 T w∧True)→(fun w1=>rL 24 (u3 11) w fun x12=>
 Ext w1 w∧Q 1 (upd u3 12 x12) (zbM T 1 (w1.heap.size,w.heap.size)) w) w) ∧
 (∀ (u3:Env) (T:Nat→Nat×Nat) (w:World),Ext w0 w→zaH [1] w0.heap.size w.heap.size T→(Q 1 u3 T w∧True)→(fun w1=>cL 43 [(u3 12)] w fun x13 w=>
 Ext w1 w∧Q 2 (upd u3 13 x13) (zbM T 2 (w1.heap.size,w.heap.size)) w) w) ∧
 (∀ (u3:Env) (T:Nat→Nat×Nat) (w:World),Ext w0 w→zaH [] w0.heap.size w.heap.size T→(True)→(fun w1=>rF 27 x1 1 w fun x14=>
 Ext w1 w∧Q 3 (upd u3 14 x14) (zbM T 3 (w1.heap.size,w.heap.size)) w) w) ∧
 (∀ (u3:Env) (T:Nat→Nat×Nat) (w:World),Ext w0 w→zaH [3] w0.heap.size w.heap.size T→(Q 3 u3 T w∧True)→(fun w1=>rL 24 (u3 14) w fun x15=>
 Ext w1 w∧Q 4 (upd u3 15 x15) (zbM T 4 (w1.heap.size,w.heap.size)) w) w) ∧
 (∀ (u3:Env) (T:Nat→Nat×Nat) (w:World),Ext w0 w→zaH [4,2] w0.heap.size w.heap.size T→(Q 4 u3 T w∧Q 2 u3 T w∧True)→(fun w1=>cL 43 [(u3 15)] w fun x16 w=>
 Ext w1 w∧Q 5 (upd u3 16 x16) (zbM T 5 (w1.heap.size,w.heap.size)) w) w) ∧
 (∀ (u3:Env) (T:Nat→Nat×Nat) (w:World),Ext w0 w→zaH [] w0.heap.size w.heap.size T→(True)→(fun w1=>rL 27 x1 w fun x17=>
 Ext w1 w∧Q 6 (upd u3 17 x17) (zbM T 6 (w1.heap.size,w.heap.size)) w) w) ∧
 (∀ (u3:Env) (T:Nat→Nat×Nat) (w:World),Ext w0 w→zaH [6,5] w0.heap.size w.heap.size T→(Q 6 u3 T w∧Q 5 u3 T w∧True)→(fun w1=>cL 44 [(u3 17)] w fun x18 w=>
 Ext w1 w∧Q 7 (upd u3 18 x18) (zbM T 7 (w1.heap.size,w.heap.size)) w) w) ∧
 (∀ (u3:Env) (T:Nat→Nat×Nat) (w:World),Ext w0 w→zaH [2,5,7] w0.heap.size w.heap.size T→(Q 2 u3 T w∧Q 5 u3 T w∧Q 7 u3 T w∧True)→(fun w1=>rD (Instr.build 36 #[(0,(u3 13)),(1,(u3 16)),(2,(u3 18))]) w fun x19=>
 Ext w1 w∧Q 8 (upd u3 19 x19) (zbM T 8 (w1.heap.size,w.heap.size)) w) w) ∧
 (∀ (u3:Env) (T:Nat→Nat×Nat) (w:World),Ext w0 w→zaH [] w0.heap.size w.heap.size T→(True)→(fun w1=>oP (Instr.alloc 36 true (.tuple #[])) w fun x4 w=>
 Ext w1 w∧Q 9 (upd u3 4 x4) (zbM T 9 (w1.heap.size,w.heap.size)) w) w) ∧
 True)
 (fun Q=>∀ (u3:Env) (T:Nat→Nat×Nat) (w:World),Ext w0 w→zaH [0,1,2,3,4,5,6,7,8,9] w0.heap.size w.heap.size T→(Q 0 u3 T w∧Q 1 u3 T w∧Q 2 u3 T w∧Q 3 u3 T w∧Q 4 u3 T w∧Q 5 u3 T w∧Q 6 u3 T w∧Q 7 u3 T w∧Q 8 u3 T w∧Q 9 u3 T w∧True) →
 oS 36 (u3 4) (u3 19) w fun w=>
 rF 27 x1 2 w fun x20=>
 rL 25 x20 w fun x21=>
 rN 25 3 x21 w fun x22=>
 LOOPI [23] [(iV 0)] w fun u5 w next5=>
 rC (u5 23) x22 w fun x24=>
 BR x24
 (rX 25 x21 (u5 23) w fun x25=>
 rL 32 x25 w fun x26=>
 oP (Instr.alloc 32 true (.tuple #[])) w fun x6 w=>
 oS 32 x6 x26 w fun w=>
 rF 36 (u3 4) 3 w fun x27=>
 rL 33 x27 w fun x28=>
 rF 36 (u3 4) 4 w fun x29=>
 rL 34 x29 w fun x30=>
 rN 34 3 x30 w fun x31=>
 oP (Instr.buildSlice 33 1 #[(0,x31)]) w fun x32 w=>
 oP (Builtin.append_ #[33,33] 33 [x28,x32].toArray) w fun x33 w=>
 rF 36 (u3 4) 3 w fun x34=>
 oS 33 x34 x33 w fun w=>
 rF 32 x6 1 w fun x35=>
 rL 29 x35 w fun x36=>
 cL 45 [(u3 4),x36] w fun x37 w=>
 rF 36 (u3 4) 4 w fun x38=>
 rL 34 x38 w fun x39=>
 rD (Instr.build 84 #[(0,(iV 9))]) w fun x40=>
 oP (Instr.buildSlice 34 1 #[(0,x40)]) w fun x41 w=>
 oP (Builtin.append_ #[34,34] 34 [x39,x41].toArray) w fun x42 w=>
 rF 36 (u3 4) 4 w fun x43=>
 oS 34 x43 x42 w fun w=>
 rA (u5 23) (iV 1) w fun x44=>
 next5 [x44] w)
 (rL 36 (u3 4) w fun x45=>
 oS 36 x2 x45 w fun w=>
 rD (zax 36 x2) w fun r2=>R (Value.tuple #[r2,(Value.bool true)]) w))) (World.drew1 w))
def cfg10:Cfg:=⟨extL,[],[(5,35184363700288,[23])],[],[(3,1046544,10)],[],[]⟩
theorem F10_call {a0:Value} {w:World} {R:VW} (h:F10 a0 w R):cL 10 [a0] w R:=co (g:=cfg10) Tryz.func10 (by kernel_rfl) (by kernel_rfl) (by kernel_rfl) h
open Rep (rep)
theorem zmx {w W:World} {v:Value} {l:List ByteArray} (h:Is W v l) (e:Ext W w) (hn:l.length≤1000000) :
   CALL Tryz.prog 43 [v] w fun r w'=>Ext w w'∧OwnI w.heap.size w'.heap.size w' r l:=by
 refine F43_call ?_
 unfold F43
 obtain ⟨a,cap,Fi,xs,rfl,h1,h2,h3,h4⟩:=zcc h
 refine zed u24 ?_
 refine zb4 (fun hnil=>?_) (fun _=>?_)
 · have:l=[]:=by
     rcases h4 with h4 | ⟨b,o,rfl,_⟩
     · exact h4
     simp at hnil
   subst this
   exact ⟨Ext.refl w,(zhc rfl).toI⟩
 refine zbW (α:=ByteArray) u24 ty9 fun a1 w1 hx1 hr1=>?_
 refine zez (α:=ByteArray) u24 ty9 zc9 h (e.trans hx1) (by rw [zam];omega) (by omega) fun v2 w2 hx2 hr2=>?_
 exact ⟨hx1.trans hx2,hr2.own.mono hx1.size (Nat.le_refl _)⟩
theorem zwk {W w:World} {b:Nat} {x:DProc} (h:AtB W w b 0 x):AtB W w b (0+1) x.body:=by
 obtain ⟨F,cs,hr,hc⟩:=h
 have h:AtB W w b 0 (x.name,x.body):=⟨F,cs,hr,hc⟩
 exact h.snd
theorem zrV {P:Program} {t by_ b:Nat} {w:World} {cs:List Value} {K:Value→Prop} (ht:tyI P t=some (cs.length,by_,true)) (hr:w.rangeAt b 0 cs) (k:K (.agg cs.toArray)):RD P (Instr.loadAt t (.pointer (some ⟨b,0,none⟩))) w K:=by
 obtain ⟨i,d,hi,hd,hs,_,hg⟩:=zbZ ht
 exact zaQ (fun w' hx'=>run_loadAt_mid w' b 0 t cs d (za7 hr hx') hd hg (by simp [hi,hs])) k
def ciQ (p:DProg) (g1:Nat) (w0:World):ParQ:=fun i u T w=>match i with
 | 0=>u 11=.pointer (some ⟨g1,0+0,none⟩)
 | 1=>Is w0 (u 12) p.globals
 | 2=>OwnI (T 2).1 (T 2).2 w (u 13) p.globals
 | 3=>u 14=.pointer (some ⟨g1,0+1,none⟩)
 | 4=>Is w0 (u 15) p.locks
 | 5=>OwnI (T 5).1 (T 5).2 w (u 16) p.locks
 | 6=>Is w0 (u 17) p
 | 7=>OwnI (T 7).1 (T 7).2 w (u 18) (p.procs.map DProc.name)
 | 8=>u 19=.agg #[u 13,u 16,u 18,.slice none 0 0,.slice none 0 0]
 | 9=>∃ g,u 4=.pointer (some ⟨g,0,none⟩)∧(T 9).1≤g∧g<(T 9).2∧Blk g 36 w [.slice none 0 0,.slice none 0 0,.slice none 0 0,.slice none 0 0,.slice none 0 0]
 | _=>True
section
variable {W w w':World} {g bs:Nat} {c0 c1 c2 ve:Value} {G L P:List ByteArray} {I:List DIns} {F F':List Nat}
theorem CoF.turnV {ve':Value} {I':List DIns} {rv:Value} (h:CoF W g bs c0 c1 c2 ve G L P I F w) (hc:Chg (g :: F) w w') (hO:OAt F' w' g 0 (⟨⟨c0⟩,⟨c1⟩,⟨c2⟩,⟨ve'⟩,⟨rv,I'⟩⟩:DEc)) (hF:∀ c∈F',c∈F∨w.heap.size≤c):CoF W g bs c0 c1 c2 ve' G L P I' F' w':=by
 have hb:=h.Wb
 have h1:=h.gW
 have h2:=h.gb
 refine ⟨⟨rv,hO⟩,h.nm.keep fun b hb1 hb2 hb3=>hc.block b hb3 fun hm=>?_,h.old.chgL hc fun c hcm=>?_,h1,h2,Nat.le_trans hb hc.size,fun c hcm=>(hF c hcm).elim (h.Fb c) fun h=>by omega⟩
 · rcases List.mem_cons.1 hm with e | hm
   · exact hb2 e
   have:=h.Fb b hm;omega
 rcases List.mem_cons.1 hcm with rfl | hcm
 · exact h1
 have:=h.Fb c hcm;omega
theorem CoF.away {S:List Nat} (h:CoF W g bs c0 c1 c2 ve G L P I F w) (hc:Chg S w w') (hS:∀ c∈S,bs≤c∧c∉F):CoF W g bs c0 c1 c2 ve G L P I F w':=by
 obtain ⟨rv,hO⟩:=h.oat
 have hlt:=h.lt
 have h1:=h.gW
 have h2:=h.gb
 have hb:=h.Wb
 refine ⟨⟨rv,hO.keep fun c hcm=>hc.block c (hO.lts c hcm) fun hm=>?_⟩,h.nm.keep fun b hb1 hb2 hb3=>hc.block b hb3 fun hm=>?_,h.old.chgL hc fun c hcm=>?_,h1,h2,Nat.le_trans hb hc.size,h.Fb⟩
 · rcases List.mem_cons.1 hcm with rfl | hcm
   · have:=(hS _ hm).1;omega
   exact (hS c hm).2 hcm
 · have:=(hS b hm).1;omega
 have:=(hS c hcm).1;omega
theorem zs5 {w2:World} {u:Value} {x:DIns} {lo hi:Nat} {K:World→Prop} (h:CoF W g bs c0 c1 c2 ve G L P I F w2) (o:OwnI lo hi w2 u x) (hlo:w2.heap.size≤lo)
   (hI:I.length≤1000000) {rv:Value} (hO:OAt F w2 g 0 (⟨⟨c0⟩,⟨c1⟩,⟨c2⟩,⟨ve⟩,⟨rv,I⟩⟩:DEc)) (k:∀ w4 F4,Chg (g :: F) w2 w4→CoF W g bs c0 c1 c2 ve G L P (I++[x]) F4 w4→(∀ c∈F4,c∈F∨w2.heap.size≤c)→K w4) :
   OP Tryz.prog (Instr.buildSlice 34 1 #[(0,u)]) w2 fun x49 w=>OP Tryz.prog (Builtin.append_ #[34,34] 34 [rv,x49].toArray) w fun x50 w'=>
     RD Tryz.prog (Instr.fieldAt 36 (.pointer (some ⟨g,0,none⟩)) 4) w' fun x52=>OPU Tryz.prog (Instr.storeAt 34 x52 x50) w' fun w=>K w:=
 OP.mono (zla h o hlo hI hO k) fun _ _ h=>OP.mono h fun _ _ ⟨_,h⟩=>h
theorem zs6 {E:List Int} {Fe:List Nat} {K:World→Prop} (h:CoF W g bs c0 c1 c2 ve G L P I F w) (he:RowG Fe 3 w ve E) (hn:Fe.Nodup) (hd:∀ c∈Fe,bs≤c∧c∉F) (hI:I.length≤1000000) (hE:E.length≤1000000)
   (k:∀ ve' w' Fe' F',Chg (g :: (F++Fe)) w w'→CoF W g bs c0 c1 c2 ve' G L P I F' w'→RowG Fe' 3 w' ve' (E++[(I.length:Int)])→Fe'.Nodup→(∀ c∈Fe',bs≤c∧c∉F')→(∀ c∈Fe',c∈Fe∨w.heap.size≤c)→(∀ c∈F',c∈F)→K w') :
   RD Tryz.prog (Instr.fieldAt 36 (.pointer (some ⟨g,0,none⟩)) 3) w fun x27=>RD Tryz.prog (Instr.loadAt 33 x27) w fun x28=>RD Tryz.prog (Instr.fieldAt 36 (.pointer (some ⟨g,0,none⟩)) 4) w fun x29=>
     RD Tryz.prog (Instr.loadAt 34 x29) w fun x30=>RD Tryz.prog (Builtin.len_ #[34] 3 [x30].toArray) w fun x31=>OP Tryz.prog (Instr.buildSlice 33 1 #[(0,x31)]) w fun x32 w=>
     OP Tryz.prog (Builtin.append_ #[33,33] 33 [x28,x32].toArray) w fun x33 w=>RD Tryz.prog (Instr.fieldAt 36 (.pointer (some ⟨g,0,none⟩)) 3) w fun x34=>OPU Tryz.prog (Instr.storeAt 33 x34 x33) w fun w=>K w:=by
 obtain ⟨e1,e2,e3,e5⟩:=h.lt
 have hgb:=h.gb
 have hWb:=h.Wb
 obtain ⟨rv,hr,hi,hO⟩:=zg7 h
 have hve:w.rangeAt g (0+3) [ve]:=by
   obtain ⟨G1,hL⟩:=zj4 (Lens.var hO)
   obtain ⟨cs,⟨_,rfl,_⟩,hr,_⟩:=hL.here
   exact hr
 refine zaa za5 ?_
 refine za2 za1 hve ?_
 refine zaa zaG ?_
 refine za2 zdi hr ?_
 refine zae u34 hi ?_
 refine zdK (β:=Int) (G:=Fe) (x:=(I.length:Int)) u33 ty3 z3 zc3 (by decide) he hn (zbp (by unfold I64;omega)) (by simp) (by rw [zam];omega) (by omega) (fun w4 v12 w5 Fe' hx4 hc5 hR5 hN5 hs5=>?_) fun s' w4 hx4 h=>h
 have hs4:=hx4.size
 have hs5':=hc5.size
 have h5:=(h.ext hx4).away hc5 hd
 obtain ⟨rv5,hO5⟩:=h5.oat
 obtain ⟨G3,hL3⟩:=zj4 (Lens.var hO5)
 have hdn:∀ c∈Fe',bs≤c∧c∉F:=fun c hc=>by
   rcases hs5 c hc with h | h | h
   · exact hd c h
   · simp at h
   exact ⟨by omega,fun hm=>by have:=e2 c hm;omega⟩
 refine zaa za5 ?_
 refine zfB (β:=Raw) (G':=[]) za1 hL3 (y':=⟨v12⟩) ⟨⟨[v12],⟨rfl,rfl,hR5.one⟩,rfl⟩,List.nodup_nil,Wr.nil _⟩ (by simp) fun w6 hc6 ⟨F',hO6,hF6⟩=>?_
 have hgF':g∉F':=by obtain ⟨_,_,_,_,_,hn,_⟩:=hO6;exact hn
 have hF:∀ c∈F',c∈F:=fun c hcm=>by
   rcases hF6 c hcm with h | h
   · rcases List.mem_cons.1 h with rfl | h
     · exact absurd hcm hgF'
     exact h
   simp at h
 have h6:=h5.turnV hc6 hO6 fun c hc=>.inl (hF c hc)
 refine k v12 w6 Fe' F' ((((hx4.chg Fe).trans hc5).mono fun c hc=>by simp [hc]).trans (hc6.mono fun c hc=>by rcases List.mem_cons.1 hc with rfl | hc<;>simp [*])) h6 (hR5.keep fun c hc=>hc6.block c (hR5.lt c hc) fun hm=>?_) hN5 (fun c hc=>⟨(hdn c hc).1,fun hm=>(hdn c hc).2 (hF c hm)⟩) (fun c hc=>?_) hF
 · rcases List.mem_cons.1 hm with rfl | hm
   · have:=(hdn c hc).1;omega
   exact (hdn c hc).2 hm
 rcases hs5 c hc with h | h | h
 · exact .inl h
 · simp at h
 exact .inr h
end
structure CiS (W:World) (p:DProg) (g bs x2 l0 h0 l1 h1 l2 h2:Nat) (c0 c1 c2 ve:Value) (E:List Int) (I:List DIns) (Fe F:List Nat) (w:World):Prop where
 co:CoF W g bs c0 c1 c2 ve p.globals p.locks (p.procs.map DProc.name) I F w
 e:RowG Fe 3 w ve E
 en:Fe.Nodup
 de:∀ c∈Fe,bs≤c∧c∉F
 o0:OwnI l0 h0 w c0 p.globals
 o1:OwnI l1 h1 w c1 p.locks
 o2:OwnI l2 h2 w c2 (p.procs.map DProc.name)
 x:Blk x2 36 w [.slice none 0 0,.slice none 0 0,.slice none 0 0,.slice none 0 0,.slice none 0 0]
section
variable {W:World} {p:DProg} {g bs x2 l0 h0 l1 h1 l2 h2:Nat} {c0 c1 c2 ve:Value} {E:List Int} {I:List DIns} {Fe F:List Nat} {w w':World}
theorem CiS.ext (h:CiS W p g bs x2 l0 h0 l1 h1 l2 h2 c0 c1 c2 ve E I Fe F w) (hx:Ext w w'):CiS W p g bs x2 l0 h0 l1 h1 l2 h2 c0 c1 c2 ve E I Fe F w':=
 ⟨h.co.ext hx,h.e.keep fun c hc=>hx.heap (h.e.lt c hc),h.en,h.de,h.o0.ext hx,h.o1.ext hx,h.o2.ext hx,h.x.ext hx⟩
theorem CiS.go {ve':Value} {E':List Int} {I':List DIns} {Fe' F':List Nat} {S:List Nat} (h:CiS W p g bs x2 l0 h0 l1 h1 l2 h2 c0 c1 c2 ve E I Fe F w) (ho:h0≤bs∧h1≤bs∧h2≤bs∧(g<l0∨h0≤g)∧(g<l1∨h1≤g)∧(g<l2∨h2≤g)∧x2<bs∧x2≠g)
   (hc:Chg (g :: S) w w') (hS:∀ c∈S,bs≤c) (hE:CoF W g bs c0 c1 c2 ve' p.globals p.locks (p.procs.map DProc.name) I' F' w') (he:RowG Fe' 3 w' ve' E') (hn:Fe'.Nodup) (hd:∀ c∈Fe',bs≤c∧c∉F'):CiS W p g bs x2 l0 h0 l1 h1 l2 h2 c0 c1 c2 ve' E' I' Fe' F' w':=by
 have hS':∀ c∈g :: S,c=g∨bs≤c:=fun c hc=>by
   rcases List.mem_cons.1 hc with e | hc
   · exact .inl e
   exact .inr (hS c hc)
 exact ⟨hE,he,hn,hd,zhG h.o0 hc fun c hcm=>by have:=hS' c hcm;omega,zhG h.o1 hc fun c hcm=>by have:=hS' c hcm;omega,zhG h.o2 hc fun c hcm=>by have:=hS' c hcm;omega,h.x.chg hc fun hm=>by have:=hS' _ hm;omega⟩
end
theorem zlc {w W:World} {v:Value} {p:DProg} (h:Is W v p) (e:Ext W w) (hp:ProgR p) :
   CALL Tryz.prog 10 [v] w fun r w'=>Ext w w'∧∃ a,r=.tuple #[a,.bool true]∧OwnI w.heap.size w'.heap.size w' a (zbB p):=by
 have hcl:=(zhE hp).2
 obtain ⟨f1,f2,f3,f4⟩:=hp.facts
 refine F10_call ?_
 unfold F10
 refine zcz h e fun w1 hx1 hA=>?_
 have hs1:=hx1.size
 refine zbD zvY fun w2 hx2 hB2=>?_
 have hs2:=hx2.size
 have hg2:=hB2.lt
 refine zab zn2 hA hx2 fun v7 h7=>?_
 refine (zh1 h7 hx2 hp).mono ?_
 rintro _ w3 ⟨hx3,rfl⟩
 have hs3:=hx3.size
 refine zaO ?_
 refine br (fun hc=>absurd rfl hc) (fun _=>?_)
 have hx13:=hx2.trans hx3
 have hx4:=zak w3
 have hs4:=hx4.size
 generalize World.drew1 w3=w4 at *
 have hx14:=hx13.trans hx4
 have hg1:w.heap.size<w1.heap.size:=by
   obtain ⟨F,cs,hr,hr2⟩:=hA
   exact zfA hr2 (by rw [Rep.len hr];decide)
 refine PAR.mk (ciQ p w.heap.size w4) ?_ ?_ ?_
 · intro i u u' T T' wa wb hxa hxb hd hq
   match i,hd,hq with
   | 0,hd,hq=>exact (hd (0,11) (by decide)).1.trans hq
   | 1,hd,hq=>have:=(hd (1,12) (by decide)).1;show Is _ (u' 12) _;simp only [this];exact hq
   | 2,hd,hq=>
     obtain ⟨e1,e2⟩:=hd (2,13) (by decide)
     simp only at e1 e2
     show OwnI (T' 2).1 (T' 2).2 wb (u' 13) p.globals
     rw [e1,e2];exact OwnI.ext hq hxb
   | 3,hd,hq=>exact (hd (3,14) (by decide)).1.trans hq
   | 4,hd,hq=>have:=(hd (4,15) (by decide)).1;show Is _ (u' 15) _;simp only [this];exact hq
   | 5,hd,hq=>
     obtain ⟨e1,e2⟩:=hd (5,16) (by decide)
     simp only at e1 e2
     show OwnI (T' 5).1 (T' 5).2 wb (u' 16) p.locks
     rw [e1,e2];exact OwnI.ext hq hxb
   | 6,hd,hq=>have:=(hd (6,17) (by decide)).1;show Is _ (u' 17) _;simp only [this];exact hq
   | 7,hd,hq=>
     obtain ⟨e1,e2⟩:=hd (7,18) (by decide)
     simp only at e1 e2
     show OwnI (T' 7).1 (T' 7).2 wb (u' 18) (p.procs.map DProc.name)
     rw [e1,e2];exact OwnI.ext hq hxb
   | 8,hd,hq=>
     have e1:=(hd (8,19) (by decide)).1
     have e2:=(hd (2,13) (by decide)).1
     have e3:=(hd (5,16) (by decide)).1
     have e4:=(hd (7,18) (by decide)).1
     simp only at e1 e2 e3 e4
     show u' 19=.agg #[u' 13,u' 16,u' 18,.slice none 0 0,.slice none 0 0]
     rw [e1,e2,e3,e4];exact hq
   | 9,hd,⟨g,q1,q2,q3,q4⟩=>
     obtain ⟨e1,e2⟩:=hd (9,4) (by decide)
     simp only at e1 e2
     exact ⟨g,e1.trans q1,by rw [e2];exact q2,by rw [e2];exact q3,q4.ext hxb⟩
   | n+10,_,_=>trivial
 · have glen:p.globals.length≤1000000:=by rcases hp.g with e | e<;>(rw [e];decide)
   have llen:p.locks.length≤1000000:=by rcases hp.l with e | e | e<;>(rw [e];decide)
   refine ⟨fun u T w' hx _ _=>?_,fun u T w' hx _ hp'=>?_,fun u T w' hx _ hp'=>?_,fun u T w' hx _ _=>?_,fun u T w' hx _ hp'=>?_,fun u T w' hx _ hp'=>?_,fun u T w' hx _ _=>?_,fun u T w' hx _ hp'=>?_,fun u T w' hx _ hp'=>?_,fun u T w' hx _ _=>?_,trivial⟩
   · exact zaa zlm ⟨Ext.refl _,rfl⟩
   · have q0:u 11=_:=hp'.1
     rw [q0]
     exact zab zcQ (zeE hA) (hx14.trans hx) fun v6 h6=>⟨Ext.refl _,h6.ext hx14⟩
   · have q1:Is _ (u 12) p.globals:=hp'.1
     exact (zmx q1 hx glen).mono fun r w5 ⟨hx5,o5⟩=>⟨hx5,o5⟩
   · exact zaa zn3 ⟨Ext.refl _,rfl⟩
   · have q0:u 14=_:=hp'.1
     rw [q0]
     exact zab zcQ (zfR hA) (hx14.trans hx) fun v6 h6=>⟨Ext.refl _,h6.ext hx14⟩
   · have q1:Is _ (u 15) p.locks:=hp'.1
     exact (zmx q1 hx llen).mono fun r w5 ⟨hx5,o5⟩=>⟨hx5,o5⟩
   · exact zab zn2 hA (hx14.trans hx) fun v6 h6=>⟨Ext.refl _,h6.ext hx14⟩
   · have q1:Is _ (u 17) p:=hp'.1
     exact (zfw q1 hx (by omega)).mono fun r w5 ⟨hx5,o5⟩=>⟨hx5,o5.toI⟩
   · have o1:OwnI _ _ _ (u 13) p.globals:=hp'.1
     have o2:OwnI _ _ _ (u 16) p.locks:=hp'.2.1
     have o3:OwnI _ _ _ (u 18) (p.procs.map DProc.name):=hp'.2.2.1
     obtain ⟨a,n,cap,q1⟩:=zdr o1
     obtain ⟨a',n',cap',q1'⟩:=zdr o2
     obtain ⟨a2,n2,cap2,q2⟩:=zdr o3
     rw [q1,q1',q2]
     refine zaT (cells:=#[.slice a n cap,.slice a' n' cap',.slice a2 n2 cap2,.slice none 0 0,.slice none 0 0]) (by kernel_rfl) ⟨Ext.refl _,?_⟩
     show _=Value.agg #[u 13,u 16,u 18,.slice none 0 0,.slice none 0 0]
     rw [q1,q1',q2];rfl
   exact zbD zvY fun w5 hx5 hB=>⟨hx5,w'.heap.size,rfl,Nat.le_refl _,hB.lt,hB⟩
 rintro u T w5 hx5 hap ⟨-,-,o13,-,-,o16,-,o18,q19,⟨gk,q4,hgk0,hgk1,hB5⟩,-⟩
 have o13:OwnI (T 2).1 (T 2).2 w5 (u 13) p.globals:=o13
 have o16:OwnI (T 5).1 (T 5).2 w5 (u 16) p.locks:=o16
 have o18:OwnI (T 7).1 (T 7).2 w5 (u 18) (p.procs.map DProc.name):=o18
 have q19:u 19=.agg #[u 13,u 16,u 18,.slice none 0 0,.slice none 0 0]:=q19
 have t2:=hap.1 2 (by decide)
 have t5:=hap.1 5 (by decide)
 have t7:=hap.1 7 (by decide)
 have t9:=hap.1 9 (by decide)
 have d25:=hap.2 2 (by decide) 5 (by decide) (by decide)
 have d27:=hap.2 2 (by decide) 7 (by decide) (by decide)
 have d57:=hap.2 5 (by decide) 7 (by decide) (by decide)
 have d29:=hap.2 2 (by decide) 9 (by decide) (by decide)
 have d59:=hap.2 5 (by decide) 9 (by decide) (by decide)
 have d79:=hap.2 7 (by decide) 9 (by decide) (by decide)
 have hs5:=hx5.size
 obtain ⟨l0,hl0⟩:∃ x,(T 2).1=x:=⟨_,rfl⟩
 obtain ⟨h0,hh0⟩:∃ x,(T 2).2=x:=⟨_,rfl⟩
 obtain ⟨l1,hl1⟩:∃ x,(T 5).1=x:=⟨_,rfl⟩
 obtain ⟨h1,hh1⟩:∃ x,(T 5).2=x:=⟨_,rfl⟩
 obtain ⟨l2,hl2⟩:∃ x,(T 7).1=x:=⟨_,rfl⟩
 obtain ⟨h2,hh2⟩:∃ x,(T 7).2=x:=⟨_,rfl⟩
 rw [hl0,hh0] at o13 t2 d25 d27 d29
 rw [hl1,hh1] at o16 t5 d25 d57 d59
 rw [hl2,hh2] at o18 t7 d27 d57 d79
 generalize u 13=c0 at *
 generalize u 16=c1 at *
 generalize u 18=c2 at *
 rw [q19,q4]
 have one0:=zk8 rfl o13
 have one1:=zk8 rfl o16
 have one2:=zk8 rfl o18
 refine zbR (α:=Raw5) (x:=(⟨c0⟩,⟨c1⟩,⟨c2⟩,⟨.slice none 0 0⟩,⟨.slice none 0 0⟩)) (lo:=0) (hi:=0) zdW rfl hB5 rfl (zmo one0 one1 one2 rfl rfl) fun w6 hc6 hB6=>?_
 have hs6:=hc6.size
 have hx16:Ext w1 w6:=Ext.chgI (hx14.trans hx5) hc6 (by omega)
 have o0:=o13.chg hc6 (by omega)
 have o1:=o16.chg hc6 (by omega)
 have o2:=o18.chg hc6 (by omega)
 have hord:h0≤w6.heap.size∧h1≤w6.heap.size∧h2≤w6.heap.size∧(gk<l0∨h0≤gk)∧(gk<l1∨h1≤gk)∧(gk<l2∨h2≤gk)∧w1.heap.size<w6.heap.size∧w1.heap.size≠gk:=by omega
 have hdis:w1.heap.size<l0∧w1.heap.size<l1∧w1.heap.size<l2∧w.heap.size≤l0∧w.heap.size≤l1∧w.heap.size≤l2∧(h0≤l1∨h1≤l0)∧(h0≤l2∨h2≤l0)∧(h1≤l2∨h2≤l1):=by omega
 have hE6:CoF w1 gk w6.heap.size c0 c1 c2 (.slice none 0 0) p.globals p.locks (p.procs.map DProc.name) [] [] w6:=by
   refine ⟨⟨.slice none 0 0,[c0,c1,c2,.slice none 0 0,.slice none 0 0],?_,hB6.range,List.nodup_nil,Wr.nil _,by simp,_,_,hB6⟩,⟨?_,?_,?_⟩,hx16,by omega,by omega,Nat.le_refl _,by simp⟩
   · have r:∀ {v:Value},v.oneCell'=true→rep [] w6 [v] (⟨v⟩:Raw):=fun h=>⟨rfl,rfl,h⟩
     exact zat (F:=[]) (r one0) (zat (F:=[]) (r one1) (zat (F:=[]) (r one2) (zat (F:=[]) (r rfl) (show rep [] w6 [Value.slice none 0 0] (⟨.slice none 0 0,[]⟩:RIns) from ⟨rfl,.inl ⟨none,rfl,rfl,rfl⟩⟩))))
   · obtain ⟨F,hM,hF⟩:=o0
     exact ⟨F,hM,fun b hb=>by have:=hF b hb;omega⟩
   · obtain ⟨F,hM,hF⟩:=o1
     exact ⟨F,hM,fun b hb=>by have:=hF b hb;omega⟩
   obtain ⟨F,hM,hF⟩:=o2
   exact ⟨F,hM,fun b hb=>by have:=hF b hb;omega⟩
 have hS6:CiS w1 p gk w6.heap.size w1.heap.size l0 h0 l1 h1 l2 h2 c0 c1 c2 (.slice none 0 0) [] [] [] [] w6:=
   ⟨hE6,.inl ⟨none,rfl,rfl,rfl⟩,List.nodup_nil,by simp,o0,o1,o2,(((hB2.ext hx3).ext hx4).ext hx5).chgI hc6 (by omega)⟩
 refine zaa zf2 ?_
 refine zab zr1 (zdQ hA) hx16 fun v21 h21=>?_
 refine zae u25 h21 ?_
 have hgkW:w1.heap.size≤gk:=by omega
 have hww:w.heap.size≤w1.heap.size:=by omega
 clear hB5 hgk0 hgk1 d25 d27 d57 d29 d59 d79 t2 t5 t7 t9 hl0 hh0 hl1 hh1 hl2 hh2 hap q19 q4
 generalize hbs:w6.heap.size=bs at *
 obtain ⟨G,hG⟩:∃ G,G=p.globals:=⟨_,rfl⟩
 obtain ⟨Lk,hLk⟩:∃ G,G=p.locks:=⟨_,rfl⟩
 obtain ⟨Pn,hPn⟩:∃ G,G=p.procs.map DProc.name:=⟨_,rfl⟩
 have hcd:zbB p=⟨G,Lk,Pn,zml G Lk Pn p.procs 0,emP G Lk Pn p.procs 0⟩:=by rw [hG,hLk,hPn];rfl
 refine zaB p.procs.length (fun k us w'=>us=[.int .i64 (k:Int)]∧∃ ve E I Fe F,k≤p.procs.length∧E.length=k∧CiS w1 p gk bs w1.heap.size l0 h0 l1 h1 l2 h2 c0 c1 c2 ve E I Fe F w' ∧
     zml G Lk Pn p.procs 0=E++zml G Lk Pn (p.procs.drop k) I.length∧emP G Lk Pn p.procs 0=I++emP G Lk Pn (p.procs.drop k) I.length) 0 (Nat.zero_le _)
     ⟨rfl,_,[],[],[],[],Nat.zero_le _,rfl,hS6,by simp,by simp⟩ ?_
 rintro k m uu w8 hkm ⟨hu,ve,E,I,Fe,F,hkl,hEl,hS8,hent,hem⟩
 simp only [List.map_cons,List.map_nil,List.cons.injEq,and_true] at hu
 rw [hu]
 have hx18:=hS8.co.old
 have hb8:=hS8.co.Wb
 refine zai ?_
 have hLl:I.length≤436:=by
   have h1:=congrArg List.length hem
   have h2:(zbB p).ins.length=(emP G Lk Pn p.procs 0).length:=by rw [hcd]
   rw [List.length_append] at h1
   omega
 refine br (fun hlt=>?_) (fun hge'=>?_)
 · have hk:k<p.procs.length:=by omega
   have hbody:=hp.b _ (List.getElem_mem hk)
   rw [zrL hk] at hent
   rw [zs4 hk] at hem
   refine zad u25 zmO h21 hk fun b25 o25 hA25=>?_
   refine zab zmO hA25 hx18 fun v26 h26=>?_
   refine zcA zvO rfl zmO rfl h26 hx18 fun w9 hx9 hA9 hV9=>?_
   have hs9:=hx9.size
   have hg9:=hV9.lt
   have hB9:=zfe h26 hV9 rfl
   have hS9:=hS8.ext hx9
   have hgk8:=hS8.co.lt.1
   have hde8:∀ c∈F,c<w8.heap.size:=hS8.co.lt.2.1
   have hee8:∀ c∈Fe,c<w8.heap.size:=fun c hc=>hS8.e.lt c hc
   refine zs6 hS9.co hS9.e hS9.en hS9.de (by omega) (by omega) fun ve' w10 Fe' F' hc10 hE10 hR10 hN10 hd10 hn10 hF10=>?_
   have hs10:=hc10.size
   have hS10:=hS9.go hord hc10 (fun c hc=>by
     rcases List.mem_append.1 hc with h | h
     · exact hS9.co.Fb c h
     exact (hS9.de c h).1) hE10 hR10 hN10 hd10
   have hB10:=hB9.keep (hc10.block _ (by omega) fun hm=>by
     rcases List.mem_cons.1 hm with e | hm
     · omega
     rcases List.mem_append.1 hm with h | h
     · have:=hde8 _ h;omega
     have:=hee8 _ h;omega)
   refine zaa zln ?_
   refine zcU zfc (zwk hB10) hE10.old (Ext.refl _) fun v36 h36=>?_
   have hbl:=zhF G Lk Pn (p.procs[k]).body I.length
   refine (zjj _ 2 _ hE10 h36 hbody.1 (by have:=hbody.2;omega)).mono ?_
   rintro r37 w11 ⟨hc11,F11,hE11,hF11⟩
   have hs11:=hc11.size
   have hFlt:=hE10.lt.2.1
   have hRlt:∀ c∈Fe',c<w10.heap.size:=fun c hc=>hR10.lt c hc
   have hd11:∀ c∈Fe',bs≤c∧c∉F11:=fun c hc=>⟨(hd10 c hc).1,fun hm=>(hF11 c hm).elim (hd10 c hc).2 fun h=>by have:=hRlt c hc;omega⟩
   have hgE:gk∉Fe':=fun hm=>by have:=(hd10 _ hm).1;have:=hE10.gb;omega
   have hR11:=hR10.keep fun c hc=>hc11.block c (hRlt c hc) fun hm=>by
     rcases List.mem_cons.1 hm with rfl | hm
     · exact hgE hc
     exact (hd10 c hc).2 hm
   have hS11:=hS10.go hord hc11 (fun c hc=>hE10.Fb c hc) hE11 hR11 hN10 hd11
   obtain ⟨rv11,hr11,hi11,hO11⟩:=zg7 hE11
   refine zaa zaG ?_
   refine za2 zdi hr11 ?_
   refine zje (lo:=w11.heap.size) (hi:=w11.heap.size) (by unfold I64;omega) fun v40 o40=>?_
   have hlb:(I++emL p.globals p.locks (p.procs.map DProc.name) p.procs[k].body I.length).length≤1000000:=by
     rw [←hG,←hLk,←hPn,List.length_append];have:=hbody.2;omega
   refine zs5 hE11 o40 (Nat.le_refl _) hlb hO11 fun w12 F12 hc12 hE12 hF12=>?_
   have hs12:=hc12.size
   have hR12:=hR11.keep fun c hc=>hc12.block c (by have:=hRlt c hc;omega) fun hm=>by
     rcases List.mem_cons.1 hm with rfl | hm
     · exact hgE hc
     exact (hd11 c hc).2 hm
   have hd12:∀ c∈Fe',bs≤c∧c∉F12:=fun c hc=>⟨(hd10 c hc).1,fun hm=>(hF12 c hm).elim (hd11 c hc).2 fun h=>by have:=hRlt c hc;omega⟩
   have hS12:=hS11.go hord hc12 (fun c hc=>hE11.Fb c hc) hE12 hR12 hN10 hd12
   rw [←hG,←hLk,←hPn] at hS12
   refine zag (by omega) ?_
   refine ⟨m-1,by omega,k+1,by omega,rfl,_,_,_,_,_,by omega,by simp [hEl],hS12,?_,?_⟩
   · rw [hent];simp [Nat.add_assoc]
   rw [hem];simp [Nat.add_assoc,zuy]
 have hk:k=p.procs.length:=by omega
 subst hk
 rw [List.drop_length,zml,List.append_nil] at hent
 rw [List.drop_length,emP,List.append_nil] at hem
 obtain ⟨rv,hr8,hi8,hO8⟩:=zg7 hS8.co
 obtain ⟨Gi,hLi⟩:=zeL (Lens.var hO8)
 obtain ⟨cs1,⟨rfl,hrow⟩,hr1,hnG,_,hg1,_⟩:=hLi.here
 have hrow:RowG Gi 84 w8 rv I:=hrow
 have hGi:∀ c∈Gi,c∈F:=fun c hc=>by
   rcases List.mem_cons.1 (hLi.sub c (by simp [hc])) with e | h
   · exact absurd (e▸hc) hg1
   exact h
 have hrng:w8.rangeAt gk 0 [c0,c1,c2,ve,rv]:=by
   obtain ⟨cs,hr,ha,_⟩:=hO8
   obtain ⟨F0,d0,F1,d1,F2,d2,F3,d3,F4,d4,rfl,rfl,⟨_,rfl,_⟩,⟨_,rfl,_⟩,⟨_,rfl,_⟩,⟨_,rfl,_⟩,⟨rfl,_⟩⟩:=zuG hr
   exact ha
 refine zrV (cs:=[c0,c1,c2,ve,rv]) zdW hrng ?_
 refine zbR (α:=Raw5) (x:=(⟨c0⟩,⟨c1⟩,⟨c2⟩,⟨ve⟩,⟨rv⟩)) (lo:=0) (hi:=0) zdW rfl hS8.x rfl (zmo one0 one1 one2 hS8.e.one hrow.one) fun w10 hc10 hB10=>?_
 have hs10:=hc10.size
 refine zep hB10 zdW ?_
 have hxf:Ext w w10:=Ext.chgI (hx1.trans hx18) hc10 (by omega)
 refine ⟨hxf,_,rfl,?_⟩
 obtain ⟨F0,M0,B0⟩:=hS8.o0.chg hc10 (by omega)
 obtain ⟨F1,M1,B1⟩:=hS8.o1.chg hc10 (by omega)
 obtain ⟨F2,M2,B2⟩:=hS8.o2.chg hc10 (by omega)
 have keep:∀ c,bs≤c→c<w8.heap.size→w10.heap[c]?=w8.heap[c]?:=fun c h1 h2=>hc10.block c (by omega) (by omega)
 have hFb:=hS8.co.Fb
 have Me:=zmp (hS8.e.keep fun c hc=>keep c (hS8.de c hc).1 (hS8.e.lt c hc)) hS8.en
 have Mi:=zmp (hrow.keep fun c hc=>keep c (hFb c (hGi c hc)) (hrow.lt c hc)) hnG
 rw [hcd,hent,hem,hG,hLk,hPn]
 refine ⟨F0++(F1++(F2++(Fe++Gi))),⟨⟨[c0,c1,c2,ve,rv],zat (zbk rfl M0.own) (zat (zbk rfl M1.own) (zat (zbk rfl M2.own) (zat (zbk rfl Me.own) (zbk rfl Mi.own)))),rfl⟩,?_,M0.wr.append (M1.wr.append (M2.wr.append (Me.wr.append Mi.wr)))⟩,fun c hc=>?_⟩
 · simp only [List.nodup_append,List.mem_append]
   refine ⟨M0.nodup,⟨M1.nodup,⟨M2.nodup,⟨hS8.en,hnG,fun a ha b hb e=>?_⟩,fun a ha b hb e=>?_⟩,fun a ha b hb e=>?_⟩,fun a ha b hb e=>?_⟩
   · exact (hS8.de a ha).2 (hGi a (e▸hb))
   · subst e
     have:=B2 a ha
     rcases hb with h | h
     · have:=(hS8.de a h).1;omega
     have:=hFb a (hGi a h);omega
   · subst e
     have:=B1 a ha
     rcases hb with h | h | h
     · have:=B2 a h;omega
     · have:=(hS8.de a h).1;omega
     have:=hFb a (hGi a h);omega
   subst e
   have:=B0 a ha
   rcases hb with h | h | h | h
   · have:=B1 a h;omega
   · have:=B2 a h;omega
   · have:=(hS8.de a h).1;omega
   have:=hFb a (hGi a h);omega
 simp only [List.mem_append] at hc
 rcases hc with h | h | h | h | h
 · have:=B0 c h;omega
 · have:=B1 c h;omega
 · have:=B2 c h;omega
 · have:=(hS8.de c h).1;have:=hS8.e.lt c h;omega
 have:=hFb c (hGi c h);have:=hrow.lt c h;omega
end Go.Proofs.YtcnglfeoglgebaaGreat
namespace Go.Sh
open Rep (rep)
section
variable {P:Program} {α β:Type} [Rep α] [Rep β] {w:World} {b o:Nat}
theorem zrW {t by_:Nat} {cs:List Value} {K:Value→Prop} (ht:tyI P t=some (cs.length,by_,true)) (hr:w.rangeAt b o cs) (k:K (.agg cs.toArray)):RD P (Instr.loadAt t (.pointer (some ⟨b,o,none⟩))) w K:=by
 obtain ⟨i,d,hi,hd,hs,_,hg⟩:=zbZ ht
 exact zaQ (fun w' hx'=>run_loadAt_mid w' b o t cs d (za7 hr hx') hd hg (by simp [hi,hs])) k
theorem ztM {t by_:Nat} {F:List Nat} {cs:List Value} {x:α} {K:Value→Prop} (ht:tyI P t=some (Rep.size α,by_,true)) (ha:Rep.agg α=true) (hr:rep F w cs x) (hg:w.rangeAt b o cs) (hn:F.Nodup) (hw:Wr F w) (k:Mine F w (.agg cs.toArray) x→K (.agg cs.toArray)) :
   RD P (Instr.loadAt t (.pointer (some ⟨b,o,none⟩))) w K:=
 zrW (by rw [Rep.len hr];exact ht) hg (k ⟨⟨cs,hr,by simp [mkv,ha]⟩,hn,hw⟩)
theorem zmy {t by_:Nat} {H:List Nat→World→α→Prop} {F G:List Nat} {y y':β} {upd:β→α} {u:Value} {G':List Nat} {K:World→Prop} (ht:tyI P t=some (Rep.size β,by_,Rep.agg β)) (h:Lens H F w b o G y upd)
   (hu:Mine G' w u y') (hs:∀ c∈G',c∈G∨c∉F) (k:∀ w',Chg [b] w w'→(∃ F',H F' w' (upd y')∧∀ c∈F',c∈F∨c∈G')→K w'):OPU P (Instr.storeAt t (.pointer (some ⟨b,o,none⟩)) u) w K:=by
 have hbG':b∉G':=fun hm=>by
   rcases hs b hm with h' | h'
   · obtain ⟨cs,_,_,_,_,hb,_⟩:=h.here;exact hb h'
   exact h' (h.sub b (by simp))
 refine zit ht h.here hu.own hu.nodup hu.wr hbG' fun w' hch hO=>k w' hch.chg ?_
 obtain ⟨F',h1,h2⟩:=h.back w' G' y' (hch.mono (Nat.le_refl _) (Nat.le_refl _) (by simp)) hO hs
 exact ⟨F',h1,h2⟩
end
abbrev Raw8:=Raw×Raw×Raw×Raw×Raw×Raw×Raw×Raw
def c8 (x:Raw8):List Value:=[x.1.v,x.2.1.v,x.2.2.1.v,x.2.2.2.1.v,x.2.2.2.2.1.v,x.2.2.2.2.2.1.v,x.2.2.2.2.2.2.1.v,x.2.2.2.2.2.2.2.v]
def fl8:List Raw8→List Value
 | []=>[]
 | x :: l=>c8 x++fl8 l
theorem zj7:∀ l m:List Raw8,fl8 (l++m)=fl8 l++fl8 m
 | [],_=>rfl
 | x :: l,m=>by rw [List.cons_append,fl8,fl8,zj7 l m,List.append_assoc]
theorem zs7 {F:List Nat} {w:World} {cs:List Value} {x:Raw8} (h:rep F w cs x):F=[]∧cs=c8 x:=by
 obtain ⟨F0,G0,d0,e0,rfl,rfl,⟨rfl,rfl,_⟩,F1,G1,d1,e1,rfl,rfl,⟨rfl,rfl,_⟩,F2,G2,d2,e2,rfl,rfl,⟨rfl,rfl,_⟩,F3,G3,d3,e3,rfl,rfl,⟨rfl,rfl,_⟩,
   F4,G4,d4,e4,rfl,rfl,⟨rfl,rfl,_⟩,F5,G5,d5,e5,rfl,rfl,⟨rfl,rfl,_⟩,F6,G6,d6,e6,rfl,rfl,⟨rfl,rfl,_⟩,⟨rfl,rfl,_⟩⟩:=h
 exact ⟨rfl,rfl⟩
theorem zj8 {w:World}:∀ {l:List Raw8} {F:List Nat} {xs:List Value},Cells F w xs l→F=[]∧xs=fl8 l
 | [],_,_,⟨h1,h2⟩=>⟨h1,h2⟩
 | x :: l,_,_,⟨F1,F2,c1,c2,hF,hx,h1,h2⟩=>by
   obtain ⟨rfl,rfl⟩:=zs7 h1
   obtain ⟨rfl,rfl⟩:=zj8 h2
   exact ⟨hF,hx⟩
theorem zuJ {w:World} {cs:List Value} (hl:cs.length=8) (ho:∀ v∈cs,v.oneCell'=true):∃ x:Raw8,c8 x=cs∧rep [] w cs x:=by
 match cs,hl with
 | [a,b,c,d,e,f,g,h],_=>
   have r:∀ {v:Value},v∈[a,b,c,d,e,f,g,h]→rep [] w [v] (⟨v⟩:Raw):=fun hm=>⟨rfl,rfl,ho _ hm⟩
   exact ⟨(⟨a⟩,⟨b⟩,⟨c⟩,⟨d⟩,⟨e⟩,⟨f⟩,⟨g⟩,⟨h⟩),rfl,zat (F:=[]) (r (by simp)) (zat (F:=[]) (r (by simp)) (zat (F:=[]) (r (by simp)) (zat (F:=[]) (r (by simp)) (zat (F:=[]) (r (by simp)) (zat (F:=[]) (r (by simp)) (zat (F:=[]) (r (by simp)) (r (by simp))))))))⟩
theorem zrX {α:Type} [Rep α] {e:TypeId} {G Fc:List Nat} {w:World} {v:Value} {R:List Raw8} {l:List α} (hR:RowG G e w v R) (hn:G.Nodup) (hl:R.length=l.length) (hc:Cells Fc w (fl8 R) l) (hcn:Fc.Nodup) (hw:Wr Fc w) (hd:∀ c∈Fc,c∉G) :
   ∃ F,Mine F w v l∧∀ c∈F,c∈G∨c∈Fc:=by
 have hwG:=hR.wr
 obtain ⟨cs,⟨a,cap,Fi,xs,rfl,h1,h2,hx,h4⟩,hv⟩:=hR.own
 obtain ⟨rfl,rfl⟩:=zj8 hx
 have hv:v=.slice a l.length cap:=by rw [←hl];exact hv
 rw [hl] at h1
 rcases h4 with ⟨h4,hG⟩ | ⟨b,o,ha,hG,hr,hb⟩
 · have:l=[]:=List.eq_nil_of_length_eq_zero (by rw [←hl,h4];rfl)
   subst this
   obtain ⟨rfl,_⟩:=hc
   exact ⟨[],⟨⟨_,⟨a,cap,[],[],rfl,h1,h2,⟨rfl,rfl⟩,.inl ⟨rfl,rfl⟩⟩,hv⟩,List.nodup_nil,Wr.nil w⟩,by simp⟩
 subst hG
 refine ⟨b :: Fc,⟨⟨_,⟨a,cap,Fc,fl8 R,rfl,h1,h2,hc,.inr ⟨b,o,ha,rfl,hr,hb⟩⟩,hv⟩,List.nodup_cons.2 ⟨fun hm=>hd b hm (by simp),hcn⟩,fun c hcm=>?_⟩,fun c hcm=>?_⟩
 · rcases List.mem_cons.1 hcm with rfl | hcm
   · exact hwG c (by simp)
   exact hw c hcm
 rcases List.mem_cons.1 hcm with rfl | hcm
 · exact .inl (by simp)
 exact .inr hcm
end Go.Sh
namespace Go.Proofs.YtcnglfeoglgebaaGreat
open Go Go.Sh Go.Proofs
open Rep (rep)
def F9 (a0:Value) (w:World) (R:VW):Prop:=
 oP (Instr.buildSlice 29 0 #[]) w fun x6 w=>
 LOOPI [3,4] [x6,(iV 0)] w fun u3 w next3=>
 rN 29 3 a0 w fun x9=>
 rC (u3 4) x9 w fun x10=>
 BR x10
 (rX 29 a0 (u3 4) w fun x15=>
 rL 56 x15 w fun x16=>
 oP (Instr.alloc 56 true (.tuple #[])) w fun x5 w=>
 oS 56 x5 x16 w fun w=>
 JOIN [] (fun J8=>
 rF 56 x5 0 w fun x17=>
 rL 3 x17 w fun x18=>
 rB .eql 3 T0 U0 x18 (iV 5) w fun x19=>
 BR x19
 (rD (Instr.build 56 #[(0,(iV 8))]) w fun x20=>
 oS 56 x5 x20 w fun w=>
 J8 [] w)
 (J8 [] w)) (fun u8 w=>
 rF 56 x5 3 w fun x21=>
 rL 29 x21 w fun x22=>
 cL 9 [x22] w fun x23 w=>
 rF 56 x5 3 w fun x24=>
 oS 29 x24 x23 w fun w=>
 rF 56 x5 4 w fun x25=>
 rL 29 x25 w fun x26=>
 cL 9 [x26] w fun x27 w=>
 rF 56 x5 4 w fun x28=>
 oS 29 x28 x27 w fun w=>
 rL 56 x5 w fun x30=>
 oP (Instr.buildSlice 29 1 #[(0,x30)]) w fun x31 w=>
 oP (Builtin.append_ #[29,29] 29 [(u3 3),x31].toArray) w fun x32 w=>
 rA (u3 4) (iV 1) w fun x12=>
 next3 [x32,x12] w))
 (R (u3 3) w)
def cfg9:Cfg:=⟨extL,[(8,1966080,[])],[(3,8589934520,[3,4])],[],[],[],[]⟩
theorem F9_call {a0:Value} {w:World} {R:VW} (h:F9 a0 w R):cL 9 [a0] w R:=co (g:=cfg9) Tryz.func9 (by kernel_rfl) (by kernel_rfl) (by kernel_rfl) h
open Rep (rep)
def QuI (l:List DStmt):Prop:=∀ {W w:World} {v:Value} {F:List Nat},Mine F W v l→Ext W w→l.length≤1000000→(∀ x∈l,szS x≤1000000) →
 CALL Tryz.prog 9 [v] w fun r w'=>Ext w w'∧∃ F',Mine F' w' r (quL l)∧∀ c∈F',c∈F∨w.heap.size≤c
structure QuV (W w:World) (xs:List Value) (Fi:List Nat) (l:List DStmt) (k:Nat) (us:List Value) (w':World) (out:Value) (R:List Raw8) (G Fa Fb Fc:List Nat) (xa xb:List Value):Prop where
 us:us=[out,.int .i64 (k:Int)]
 kl:k≤l.length
 x:Ext w w'
 row:RowG G 56 w' out R
 gn:G.Nodup
 gw:∀ c∈G,w.heap.size≤c
 rl:R.length=k
 ce:Cells Fc w' (fl8 R) (quL (l.take k))
 cn:Fc.Nodup
 cw:Wr Fc w'
 cd:∀ c∈Fc,c∉G
 cf:∀ c∈Fc,c∈Fa∨w.heap.size≤c
 fi:Fi=Fa++Fb
 xx:xs=xa++xb
 xl:xa.length=k*8
 cb:Cells Fb W xb (l.drop k)
theorem zld:∀ {l:List DStmt} {x:DStmt},x∈l→szS x≤szL l
 | y :: l,x,h=>by
   rw [szL]
   rcases List.mem_cons.1 h with rfl | h
   · omega
   have:=zld h;omega
theorem zfX {l:List DStmt} (ih:∀ x∈l,QuI x.body∧QuI x.els) (inil:l≠[]→QuI []):QuI l:=by
 intro W w v F hM e hlen hsz
 obtain ⟨⟨cs,⟨a,cap,Fi,xs,rfl,h1,h2,hc,h4⟩,hv⟩,hn,hw⟩:=hM
 have hv:v=.slice a l.length cap:=hv
 have hFi:Fi.Nodup∧(∀ c∈Fi,c∈F):=by
   rcases h4 with ⟨rfl,rfl⟩ | ⟨b,o,_,rfl,_⟩
   · obtain ⟨rfl,_⟩:=hc
     exact ⟨List.nodup_nil,by simp⟩
   exact ⟨(List.nodup_cons.1 hn).2,fun c h=>by simp [h]⟩
 have hFW:∀ c∈Fi,c<W.heap.size:=Cells.lt hc
 have hWw:=e.size
 have hIs:Is W v l:=⟨F,_,⟨a,cap,Fi,xs,rfl,h1,h2,hc,h4⟩,hv⟩
 refine F9_call ?_
 unfold F9
 refine zbW (α:=Raw8) u29 zc2 fun a6 w1 hx1 hr1=>?_
 obtain ⟨G0,hG0,hGn0,hGb0⟩:=zei.1 hr1
 refine zaB l.length (fun k us w'=>∃ out R G Fa Fb Fc xa xb,QuV W w xs Fi l k us w' out R G Fa Fb Fc xa xb) 0 (Nat.zero_le _)
   ⟨_,[],G0,[],Fi,[],[],xs,rfl,Nat.zero_le _,hx1,hG0,hGn0,fun c hc=>(by have:=(hGb0 c hc).1;have:=hx1.size;omega),rfl,⟨rfl,rfl⟩,List.nodup_nil,Wr.nil _,by simp,by simp,rfl,rfl,rfl,hc⟩ ?_
 rintro k m u w2 hkm ⟨out,R,G,Fa,Fb,Fc,xa,xb,hV⟩
 have hu:=hV.us
 obtain ⟨hu0,hu1⟩:=ze4 hu
 rw [hu0,hu1]
 have hs2:=hV.x.size
 have hW2:=e.trans hV.x
 refine zae u29 hIs ?_
 refine zai ?_
 refine br (fun hlt=>?_) (fun hge=>?_)
 rotate_left
 · have hk:k=l.length:=by have:=hV.kl;omega
   have hce:=hV.ce
   rw [List.take_of_length_le (by omega)] at hce
   obtain ⟨F',hM',hF'⟩:=zrX hV.row hV.gn (by rw [hV.rl,zrO,hk]) hce hV.cn hV.cw hV.cd
   refine ⟨hV.x,F',hM',fun c hc=>?_⟩
   rcases hF' c hc with h | h
   · exact .inr (hV.gw c h)
   rcases hV.cf c h with h | h
   · exact .inl (hFi.2 c (by rw [hV.fi];simp [h]))
   exact .inr h
 have hk:k<l.length:=by omega
 have hfi:=hV.fi
 have hxx:=hV.xx
 have hcb:=hV.cb
 rw [List.drop_eq_getElem_cons hk] at hcb
 obtain ⟨F1,Fb',c1,xb',rfl,rfl,hg,hcb'⟩:=hcb
 obtain ⟨b,o,rfl,hrg⟩:∃ b o,a=some ⟨b,o,none⟩∧W.rangeAt b o xs:=by
   rcases h4 with ⟨rfl,_⟩ | ⟨b,o,ha,_,hr,_⟩
   · simp at hk
   exact ⟨b,o,ha,hr⟩
 have hr1':W.rangeAt b (o+k*8) c1:=by
   rw [hxx] at hrg
   have:=(zau (zau hrg).2).1
   rwa [hV.xl] at this
 have hF1n:F1.Nodup:=by
   have:=hFi.1;rw [hfi] at this
   exact ((List.nodup_append.1 ((List.nodup_append.1 this).2.1))).1
 have hF1a:∀ c∈F1,c∉Fa:=fun c hc hca=>by
   have:=hFi.1;rw [hfi] at this
   exact (List.nodup_append.1 this).2.2 c hca c (by simp [hc]) rfl
 have hF1W:∀ c∈F1,c<W.heap.size:=fun c hc=>hFW c (by rw [hfi];simp [hc])
 have hF1w:Wr F1 W:=hw.sub fun c hc=>hFi.2 c (by rw [hfi];simp [hc])
 obtain ⟨x,hx⟩:∃ x,x=l[k]:=⟨_,rfl⟩
 have hxl:x∈l:=by rw [hx];exact List.getElem_mem hk
 rw [←hx] at hg
 refine zgi u29 zc2 hv hk ?_
 refine ztM zc2 rfl (zbO hg hW2) (za7 hr1' hW2) hF1n (hF1w.ext hW2) fun hM16=>?_
 refine zcB (α:=DStmt) zuV fun w3 hx3 ⟨Fz,hz,_⟩=>?_
 have hs3:=hx3.size
 have hz3:=hz.lt
 have hM16:=hM16.ext hx3
 refine zit zc2 hz hM16.own hM16.nodup hM16.wr (fun hm=>by have:=hF1W _ hm;omega) fun w4 hch4 hO4=>?_
 have hc4:=hch4.chg
 have hs4:=hc4.size
 have hx24:Ext w2 w4:=Ext.chgL hx3 hc4 fun c hc=>by rcases List.mem_cons.1 hc with rfl | hc<;>simp at *
 obtain ⟨y,hy⟩:∃ y,y=if x.kind=5 then zhx else x:=⟨_,rfl⟩
 refine JOIN.mk (fun us w'=>us=[]∧∃ Fs,Ext w2 w'∧OAt Fs w' w2.heap.size 0 y∧∀ c∈Fs,c∈F1) ?_ ?_
 · refine zaa zhJ ?_
   refine zac ty3 (zcM hO4.at) (Ext.refl _) fun hI=>?_
   refine zaf ?_
   refine br (fun k5=>?_) (fun k5=>?_)
   · refine zhB (lo:=w4.heap.size) (hi:=w4.heap.size) (Nat.le_refl _) (by unfold I64;omega) fun v20 ⟨F20,M20,B20⟩=>?_
     have hF20:F20=[]:=List.eq_nil_iff_forall_not_mem.2 fun c hc=>by have:=B20 c hc;omega
     subst hF20
     refine zit zc2 hO4 M20.own M20.nodup M20.wr (by simp) fun w5 hch5 hO5=>?_
     refine ⟨rfl,[],Ext.chgL hx24 hch5.chg fun c hc=>?_,?_,by simp⟩
     · rcases List.mem_cons.1 hc with rfl | hc<;>simp at *
     rw [hy,if_pos k5];exact hO5
   exact ⟨rfl,F1,hx24,by rw [hy,if_neg k5];exact hO4,fun c hc=>hc⟩
 rintro u8 w5 ⟨-,Fs,hx25,hO5,hFs⟩
 have hs5:=hx25.size
 have hgl5:=hO5.lt
 have hFs5:∀ c∈Fs,c<W.heap.size:=fun c hc=>hF1W c (hFs c hc)
 have hyk:(QuI y.body∧QuI y.els)∧y.body.length≤1000000∧y.els.length≤1000000∧(∀ z∈y.body,szS z≤1000000)∧(∀ z∈y.els,szS z≤1000000):=by
   rw [hy]
   split
   · exact ⟨⟨inil (List.ne_nil_of_mem hxl),inil (List.ne_nil_of_mem hxl)⟩,by simp [zhx,DStmt.body],by simp [zhx,DStmt.els],by simp [zhx,DStmt.body],by simp [zhx,DStmt.els]⟩
   have h3:=hsz x hxl
   have h5:=zk7 x
   have h6:=zgm x.body
   have h7:=zgm x.els
   exact ⟨ih x hxl,by omega,by omega,fun z hz=>by have:=zld hz;omega,fun z hz=>by have:=zld hz;omega⟩
 obtain ⟨⟨ihb,ihe⟩,hlb,hle,hsb,hse⟩:=hyk
 -- the body
 refine zaa zeg ?_
 obtain ⟨G3,hL3⟩:=zhP (Lens.var hO5)
 obtain ⟨u22,hM22,hr22,hG3,-⟩:=hL3.row
 refine za2 zfc hr22 ?_
 refine (ihb hM22 (Ext.refl _) hlb hsb).mono ?_
 rintro v23 w6 ⟨hx6,F23,hM23,hF23⟩
 have hs6:=hx6.size
 refine zaa zeg ?_
 refine zmy zfc (hL3.ext hx6) hM23 (fun c hc=>?_) fun w7 hc7 ⟨F7,hO7,hF7⟩=>?_
 · rcases hF23 c hc with h | h
   · exact .inl h
   refine .inr fun hm=>?_
   rcases List.mem_cons.1 hm with rfl | hm
   · omega
   have:=hFs5 c hm;omega
 have hs7:=hc7.size
 have hO7:OAt F7 w7 w2.heap.size 0 (DStmt.mk y.kind y.name y.term (quL y.body) y.els):=hO7
 have hg7:w2.heap.size∉F7:=by obtain ⟨_,_,_,_,_,hn,_⟩:=hO7;exact hn
 have hx27:Ext w2 w7:=Ext.chgL (hx25.trans hx6) hc7 fun c hc=>by rcases List.mem_cons.1 hc with rfl | hc<;>simp at *
 have hF7':∀ c∈F7,c∈F1∨w2.heap.size<c:=fun c hc=>by
   rcases hF7 c hc with h | h
   · rcases List.mem_cons.1 h with rfl | h
     · exact absurd hc hg7
     exact .inl (hFs c h)
   rcases hF23 c h with h | h
   · rcases List.mem_cons.1 (hG3 c h) with rfl | h
     · exact absurd hc hg7
     exact .inl (hFs c h)
   exact .inr (by omega)
 -- what else
 refine zaa zdF ?_
 obtain ⟨G4,hL4⟩:=zfq (Lens.var hO7)
 obtain ⟨u26,hM26,hr26,hG4,-⟩:=hL4.row
 refine za2 zfc hr26 ?_
 have ihe:QuI (DStmt.mk y.kind y.name y.term (quL y.body) y.els).els:=ihe
 refine (ihe hM26 (Ext.refl _) hle hse).mono ?_
 rintro v27 w8 ⟨hx8,F27,hM27,hF27⟩
 have hs8:=hx8.size
 refine zaa zdF ?_
 refine zmy zfc (hL4.ext hx8) hM27 (fun c hc=>?_) fun w9 hc9 ⟨F9,hO9,hF9⟩=>?_
 · rcases hF27 c hc with h | h
   · exact .inl h
   refine .inr fun hm=>?_
   have:=hO7.lts c hm;omega
 have hs9:=hc9.size
 have hO9:OAt F9 w9 w2.heap.size 0 (DStmt.mk y.kind y.name y.term (quL y.body) (quL y.els)):=hO9
 have hyq:DStmt.mk y.kind y.name y.term (quL y.body) (quL y.els)=quS x:=by
   rw [zrN,hy]
   split
   · simp [zhx,DStmt.kind,DStmt.name,DStmt.term,DStmt.body,DStmt.els,quL]
   rfl
 rw [hyq] at hO9
 have hg9:w2.heap.size∉F9:=by obtain ⟨_,_,_,_,_,hn,_⟩:=hO9;exact hn
 have hx29:Ext w2 w9:=Ext.chgL (hx27.trans hx8) hc9 fun c hc=>by rcases List.mem_cons.1 hc with rfl | hc<;>simp at *
 have hF9':∀ c∈F9,c∈F1∨w2.heap.size<c:=fun c hc=>by
   rcases hF9 c hc with h | h
   · rcases List.mem_cons.1 h with rfl | h
     · exact absurd hc hg9
     exact hF7' c h
   rcases hF27 c h with h | h
   · rcases List.mem_cons.1 (hG4 c h) with rfl | h
     · exact absurd hc hg9
     exact hF7' c h
   exact .inr (by omega)
 obtain ⟨cs9,hrep9,hrg9,hn9,hw9,_⟩:=hO9
 refine ztM zc2 rfl hrep9 hrg9 hn9 hw9 fun hM30=>?_
 obtain ⟨r8,hr8,hp8⟩:=zuJ (w:=w9) (Rep.len hrep9) (Rep.one hrep9)
 have hrow9:RowG G 56 w9 out R:=hV.row.keep fun c hc=>hx29.heap (hV.row.lt c hc)
 have hrl:=hV.rl
 refine zdK (β:=Raw8) (G:=G) (x:=r8) u29 zc2 z56 ztY (by decide) hrow9 hV.gn ⟨⟨cs9,hp8,rfl⟩,List.nodup_nil,Wr.nil _⟩ (by simp) (by rw [zam,hrl];omega) (by rw [hrl];omega) (fun w10 v32 w11 G' hx10 hc11 hR11 hN11 hs11=>?_) fun s' w' hx' h'=>h'
 have hs10:=hx10.size
 have hs11':=hc11.size
 refine zag (by omega) ?_
 have hx211:Ext w w11:=Ext.chgL (hV.x.trans (hx29.trans hx10)) hc11 hV.gw
 have hFcl:∀ c∈Fc,c<w2.heap.size:=Cells.lt hV.ce
 have hGl:∀ c∈G,c<w2.heap.size:=hV.row.lt
 have hF9l:∀ c∈F9,c<w9.heap.size:=Rep.lt hrep9
 have h9G:∀ c∈F9,c∉G:=fun c hc hm=>by
   rcases hF9' c hc with h | h
   · have:=hF1W c h;have:=hV.gw c hm;omega
   have:=hGl c hm;omega
 have hG11:∀ c∈G',c∈G∨w9.heap.size≤c:=fun c hc=>by
   rcases hs11 c hc with h | h | h
   · exact .inl h
   · simp at h
   exact .inr h
 have kp:∀ c,c<w9.heap.size→c∉G→w11.heap[c]?=w9.heap[c]?:=fun c h1 h2=>(hc11.block c (by omega) h2).trans (hx10.heap h1)
 refine ⟨m-1,by omega,k+1,by omega,v32,R++[r8],G',Fa++F1,Fb',Fc++F9,xa++c1,xb',rfl,by omega,hx211,hR11,hN11,fun c hc=>?_,by simp [hrl],?_,?_,?_,fun c hc hm=>?_,fun c hc=>?_,by rw [hfi,List.append_assoc],by rw [hxx,List.append_assoc],?_,hcb'⟩
 · rcases hG11 c hc with h | h
   · exact hV.gw c h
   omega
 · rw [List.take_succ_eq_append_getElem hk,←hx,zj3,zuE,zj7]
   refine Cells.append (Cells.keep hV.ce fun c hc=>(kp c (by have:=hFcl c hc;omega) (hV.cd c hc)).trans (hx29.heap (hFcl c hc))) ?_
   have:fl8 [r8]=cs9:=by rw [fl8,fl8,List.append_nil,hr8]
   rw [this]
   exact Cells.single (Rep.keep hrep9 fun c hc=>kp c (hF9l c hc) (h9G c hc))
 · refine List.nodup_append.2 ⟨hV.cn,hn9,fun c hc d hd e=>?_⟩
   subst e
   rcases hF9' c hd with h | h
   · rcases hV.cf c hc with h' | h'
     · exact hF1a c h h'
     have:=hF1W c h;omega
   have:=hFcl c hc;omega
 · refine Wr.append (hV.cw.keep fun c hc=>(kp c (by have:=hFcl c hc;omega) (hV.cd c hc)).trans (hx29.heap (hFcl c hc))) (hw9.keep fun c hc=>kp c (hF9l c hc) (h9G c hc))
 · rcases List.mem_append.1 hc with h | h
   · rcases hG11 c hm with h' | h'
     · exact hV.cd c h h'
     have:=hFcl c h;omega
   rcases hG11 c hm with h' | h'
   · exact h9G c h h'
   have:=hF9l c h;omega
 · rcases List.mem_append.1 hc with h | h
   · rcases hV.cf c h with h | h
     · exact .inl (by simp [h])
     exact .inr h
   rcases hF9' c h with h | h
   · exact .inl (by simp [h])
   exact .inr (by omega)
 rw [List.length_append,hV.xl,Rep.len hg]
 show k*8+8=(k+1)*8
 omega
theorem zjl:QuI []:=zfX (by simp) (by simp)
theorem zs8 (l:List DStmt):QuI l:=
 zfX (fun x _=>DStmt.ind (p:=fun x=>QuI x.body∧QuI x.els) (fun t hb he=>⟨zfX (fun k hk=>hb k hk) (fun _=>zjl),zfX (fun k hk=>he k hk) (fun _=>zjl)⟩) x) fun _=>zjl
def F41 (a0:Value) (w:World) (R:VW):Prop:=
 rN 22 3 a0 w fun x6=>
 rB .add 3 U0 T0 (iV 94701) x6 w fun x7=>
 LOOPI [3,4] [x7,(iV 0)] w fun u3 w next3=>
 rN 22 3 a0 w fun x10=>
 rC (u3 4) x10 w fun x11=>
 BR x11
 (rB .lss 3 T0 U0 (u3 4) (iV 4000) w fun x14=>
 BR x14
 (rB .mul 3 T0 U0 (u3 3) (iV 131) w fun x19=>
 rX 22 a0 (u3 4) w fun x22=>
 rL 5 x22 w fun x23=>
 rD (convert 5 3 x23) w fun x24=>
 rB .add 3 T0 T0 x19 x24 w fun x25=>
 rA x25 (iV 7) w fun x26=>
 rB .and 3 T0 U0 x26 (iV 1073741823) w fun x27=>
 rA (u3 4) (iV 1) w fun x17=>
 next3 [x27,x17] w)
 (rD (Instr.build 125 #[(0,a0),(2,(u3 3))]) w fun x30=>
 oP (Instr.box 125 x30) w fun x31 w=>
 R x31 w))
 (rD (Instr.build 125 #[(0,a0),(2,(u3 3))]) w fun x30=>
 oP (Instr.box 125 x30) w fun x31 w=>
 R x31 w)
def cfg41:Cfg:=⟨extL,[],[(3,268435224,[3,4])],[],[],[],[]⟩
theorem F41_call {a0:Value} {w:World} {R:VW} (h:F41 a0 w R):cL 41 [a0] w R:=co (g:=cfg41) Tryz.func41 (by kernel_rfl) (by kernel_rfl) (by kernel_rfl) h
def F14 (a0:Value) (w:World) (R:VW):Prop:=
 cL 41 [a0] w fun x7 w=>
 cL 50 [x7] w fun x9 w=>
 oP (Instr.buildSlice 33 0 #[]) w fun x10 w=>
 LOOPI [4,5] [x10,(iV 0)] w fun u5 w next5=>
 rB .lss 3 T0 U0 (u5 5) (iV 70) w fun x12=>
 BR x12
 (cL 51 [x7,(iV 12)] w fun x17 w=>
 oP (Instr.buildSlice 33 1 #[(0,x17)]) w fun x18 w=>
 oP (Builtin.append_ #[33,33] 33 [(u5 4),x18].toArray) w fun x19 w=>
 rA (u5 5) (iV 1) w fun x14=>
 next5 [x19,x14] w)
 (R (u5 4) w)
def cfg14:Cfg:=⟨extL,[],[(5,1046576,[4,5])],[],[],[],[]⟩
theorem F14_call {a0:Value} {w:World} {R:VW} (h:F14 a0 w R):cL 14 [a0] w R:=co (g:=cfg14) Tryz.func14 (by kernel_rfl) (by kernel_rfl) (by kernel_rfl) h
def F20 (a0:Value) (w:World) (R:VW):Prop:=
 cL 41 [a0] w fun x7 w=>
 cL 50 [x7] w fun x9 w=>
 oP (Instr.buildSlice 33 0 #[]) w fun x10 w=>
 LOOPI [4,5] [x10,(iV 0)] w fun u5 w next5=>
 rB .lss 3 T0 U0 (u5 5) (iV 12) w fun x12=>
 BR x12
 (cL 51 [x7,(iV 10000)] w fun x17 w=>
 oP (Instr.buildSlice 33 1 #[(0,x17)]) w fun x18 w=>
 oP (Builtin.append_ #[33,33] 33 [(u5 4),x18].toArray) w fun x19 w=>
 rA (u5 5) (iV 1) w fun x14=>
 next5 [x19,x14] w)
 (R (u5 4) w)
open Rep (rep)
theorem zrY {bs:List UInt8} {k:Nat} (hk:k<(bs.take 4000).length) (h:Int):((bs.take 4000).take (k+1)).foldl (fun h (b:UInt8)=>zpF (h*131+(b.toNat:Int)+7) 1073741823) h =
   zpF (((bs.take 4000).take k).foldl (fun h (b:UInt8)=>zpF (h*131+(b.toNat:Int)+7) 1073741823) h*131+(((bs.take 4000)[k]).toNat:Int)+7) 1073741823:=by
 rw [List.take_succ_eq_append_getElem hk,List.foldl_append];rfl
set_option maxRecDepth 100000 in
theorem zmz {w W:World} {v:Value} {bs:List UInt8} (h:Is W v bs) (e:Ext W w) (hl:bs.length≤1048576) :
    CALL Tryz.prog 41 [v] w fun r w'=>Ext w w'∧∃ g,r=.pointer (some ⟨g,0,none⟩)∧w.heap.size≤g∧CurAt w g bs (zj1 bs) w':=by
  have fin:∀ {w1:World} {hh:Int},Ext w w1→hh=zv9 bs→I64 hh→RD Tryz.prog (Instr.build 125 #[(0,v),(2,.int .i64 hh)]) w1 fun x30=>OP Tryz.prog (Instr.box 125 x30) w1 fun x31 w2=>
      Ext w w2∧∃ g,x31=.pointer (some ⟨g,0,none⟩)∧w.heap.size≤g∧CurAt w g bs (zj1 bs) w2:=by
    intro w1 hh hx1 hh1 hI
    obtain ⟨a,cap,Fi,xs,rfl,_⟩:=zcc h
    refine zaT (cells:=#[.slice a bs.length cap,.int .i64 0,.int .i64 hh]) (by kernel_rfl) ?_
    refine zqw fun w2 hx2 hB2=>?_
    refine ⟨hx1.trans hx2,_,rfl,hx1.size,.slice a bs.length cap,h.ext e,hx1.trans hx2,hx1.size,?_,Nat.zero_le _,hl⟩
    rw [hh1] at hB2
    exact hB2
  refine F41_call ?_
  unfold F41
  refine zae u22 h ?_
  refine zc4 (by unfold I64;omega) ?_
  refine zaB (bs.take 4000).length (fun k us w'=>∃ hh:Int,us=[.int .i64 hh,.int .i64 (k:Int)]∧Ext w w'∧k≤(bs.take 4000).length∧0≤hh∧hh≤1073741823∧hh=((bs.take 4000).take k).foldl (fun h (b:UInt8)=>zpF (h*131+(b.toNat:Int)+7) 1073741823) (94701+(bs.length:Int))) 0 (Nat.zero_le _)
    ⟨_,rfl,Ext.refl w,Nat.zero_le _,by omega,by omega,by simp⟩ ?_
  rintro k m u w1 hkm ⟨hh,hu,hx1,hkl,h0,h1,hf⟩
  obtain ⟨hu0,hu1⟩:=ze4 hu
  rw [hu0,hu1]
  have htl:(bs.take 4000).length=min 4000 bs.length:=List.length_take
  have hdone:(bs.take 4000).length≤k→hh=zv9 bs:=fun hk=>by
    rw [hf,List.take_of_length_le hk];rfl
  have hIh:I64 hh:=by unfold I64;omega
  refine zae u22 h ?_
  refine zai ?_
  refine br (fun hlt=>?_) (fun hge=>fin hx1 (hdone (by omega)) hIh)
  refine zai ?_
  refine br (fun hlt2=>?_) (fun hge=>fin hx1 (hdone (by omega)) hIh)
  have hk:k<(bs.take 4000).length:=by omega
  have hkb:k<bs.length:=by omega
  refine zjC (by unfold I64;omega) ?_
  refine zad u22 ty5 (i:=k) h hkb fun b o hA=>?_
  refine zoR ty5 hA (e.trans hx1) ?_
  have h256:=UInt8.toNat_lt (bs[k])
  refine zrq (by kernel_rfl) u3 (by omega) ?_
  refine zc4 (by unfold I64;omega) ?_
  refine zc4 (by unfold I64;omega) ?_
  refine znD ?_
  refine zag (by omega) ?_
  have hb:=zkZ (hh*131+((bs[k]).toNat:Int)+7) (n:=1073741823) (by omega)
  refine ⟨m-1,by omega,k+1,by omega,_,rfl,hx1,by omega,hb.1,hb.2,?_⟩
  rw [zrY hk,←hf,List.getElem_take]
def ze3 (bs:List UInt8) (m:Int):Nat→Cur→List Int
 | 0,_=>[]
 | n+1,s=>zbg bs m s :: ze3 bs m n (zal bs m s)
theorem zhW (bs:List UInt8) (m:Int):∀ (n:Nat) (s:Cur),(ze3 bs m n s).length=n
 | 0,_=>rfl
 | n+1,s=>by rw [ze3,List.length_cons,zhW bs m n]
def zoY (bs:List UInt8):List Int:=ze3 bs 12 70 (zc0 bs (zj1 bs))
theorem zmA {w W:World} {v:Value} {bs:List UInt8} (h:Is W v bs) (e:Ext W w) (hl:bs.length≤1048576) :
   CALL Tryz.prog 14 [v] w fun r w'=>Ext w w'∧Own w.heap.size w' r (zoY bs):=by
 refine F14_call ?_
 unfold F14
 refine (zmz h e hl).mono ?_
 rintro _ w1 ⟨hx1,g,rfl,hg,hC1⟩
 have hs1:=hx1.size
 have hgl:=hC1.lt
 refine (zdR hC1).mono ?_
 rintro _ w2 ⟨hc2,hC2,rfl⟩
 have hs2:=hc2.size
 refine zbW (α:=Int) u33 ty3 fun v10 w3 hx3 r10=>?_
 have hs3:=hx3.size
 refine zaB 70 (fun k us w'=>∃ v hi l s1,us=[v,.int .i64 (k:Int)]∧k≤70∧ChgI g (g+1) w2 w'∧CurAt w g bs s1 w'∧RowI w3.heap.size hi 3 w' v l∧w3.heap.size≤hi∧hi≤w'.heap.size∧l.length=k∧zoY bs=l++ze3 bs 12 (70-k) s1) 0 (Nat.zero_le _)
   ⟨_,w3.heap.size,[],_,rfl,by omega,hx3.toI,hC2.ext hx3,r10,Nat.le_refl _,Nat.le_refl _,rfl,rfl⟩ ?_
 rintro k m u w4 hkm ⟨v4,hi,l,s1,hu,hkl,hc4,hC4,r4,hlo,hhi,hll,heq⟩
 obtain ⟨hu0,hu1⟩:=ze4 hu
 rw [hu0,hu1]
 refine zai ?_
 refine br (fun hlt=>?_) (fun hge=>?_)
 · have hk:k<70:=by omega
   refine (zb3 hC4 (by omega)).mono ?_
   rintro _ w5 ⟨hc5,hC5,rfl⟩
   have hs5:=hc5.size
   have hb:=zb8 bs (n:=12) (by omega) s1
   refine zcI (α:=Int) (lo2:=w5.heap.size) (hi2:=w5.heap.size) u33 ty3 z3 zc3 (by decide) (r4.chg hc5 (by omega)) (by omega) (Go.Sh.ownI_int (by unfold I64;omega)) (by omega) (by omega) (by rw [zam];omega) (by omega) fun v19 w6 hc6 r6=>?_
   have hs6:=hc6.size
   refine zag (by omega) ?_
   refine ⟨m-1,by omega,k+1,by omega,v19,w6.heap.size,_,_,rfl,by omega,ChgI.out (hc4.trans hc5) hc6 (by omega),hC5.chg hc6 (by omega) (by omega),r6,by omega,Nat.le_refl _,by simp [hll],?_⟩
   rw [heq,show 70-k=(70-(k+1))+1 by omega,ze3];simp
 have hk:k=70:=by omega
 subst hk
 rw [Nat.sub_self,ze3,List.append_nil] at heq
 rw [heq]
 exact ⟨Ext.chgI (Ext.chgI hx1 hc2 hg) hc4 hg,r4.own.own.mono (by omega)⟩
theorem zww {G L P:List ByteArray} {c:Scp} (hG:G=c.gl) (hL:L=c.lk) (hP:∀ x∈c.pr,x∈P):∀ (l:List DProc) (a:Nat),(∀ x∈l,zrw c x.body)→∀ y∈emP G L P l a,wT y.term≤24
 | [],_,_,y,h=>by rw [emP] at h;cases h
 | x :: l,a,hb,y,h=>by
   have w0:wT term0≤24:=by decide
   rw [emP] at h
   rcases List.mem_append.1 h with h | h
   · have:=((zwc hG hL hP 2).2 x.body a (hb x (by simp)).1).1 y h
     obtain ⟨_,_,_,q4,_⟩:=this
     split at q4
     · exact q4.2.2
     rw [q4];exact w0
   rcases List.mem_cons.1 h with rfl | h
   · exact w0
   exact zww hG hL hP l _ (fun z hz=>hb z (by simp [hz])) y h
theorem ztN {α:Type} {f:α→Nat} {b:Nat}:∀ {l:List α},(∀ x∈l,f x≤b)→sm f l≤l.length*b
 | [],_=>by simp [sm]
 | x :: l,h=>by
   have h1:=ztN (l:=l) fun y hy=>h y (List.mem_cons_of_mem _ hy)
   have h2:=h x List.mem_cons_self
   simp only [sm,List.map_cons,List.sum_cons,List.length_cons,Nat.add_mul] at h1 ⊢
   omega
theorem zvH {p:DProg} (hp:ProgR p):zlB (zbB p)≤1048576:=by
 have hl:=(zhE hp).2
 obtain ⟨f1,f2,f3,f4⟩:=hp.facts
 obtain ⟨k,hk,hn⟩:=hp.n
 have h1:zqq (zbB p).globals≤100:=by
   show zqq p.globals≤100
   rcases hp.g with e | e<;>(rw [e];decide)
 have h2:zqq (zbB p).locks≤100:=by
   show zqq p.locks≤100
   rcases hp.l with e | e | e<;>(rw [e];decide)
 have h3:zqq (zbB p).procs≤100:=by
   show zqq (p.procs.map DProc.name)≤100
   rw [hn]
   match k,hk with
   | 0,_=>decide
   | 1,_=>decide
   | 2,_=>decide
   | 3,_=>decide
 have h4:(zbB p).entry.length≤4:=by
   have:(zbB p).entry.length=p.procs.length:=zih _ _ _ _ _
   omega
 have h5:zv2 (zbB p).ins≤20000:=by
   have:=ztN (f:=fun i:DIns=>wT i.term) (b:=24) (l:=(zbB p).ins) (zww rfl rfl (fun x hx=>List.mem_of_mem_drop hx) _ _ hp.b)
   unfold zv2
   omega
 unfold zlB
 omega
structure DArc where
 fr:Int
 to:Int
theorem DArc.ext_iff {x y:DArc}:x=y↔(x.fr=y.fr∧x.to=y.to):=⟨fun h=>by rw [h];exact ⟨rfl,rfl⟩,fun h=>by obtain ⟨h0,h1⟩:=h;cases x;cases y;simp only at h0 h1;simp only [h0,h1]⟩
instance:DecidableEq DArc:=fun x y=>decidable_of_iff (x.fr=y.fr∧x.to=y.to) DArc.ext_iff.symm
instance:Rep DArc:=Rep.via fun x=>(x.fr,x.to)
instance:RepZ DArc:=⟨⟨(RepZ.zv:Int),(RepZ.zv:Int)⟩,RepZ.zc (Int×Int),fun w=>RepZ.zr (α:=Int×Int) w⟩
instance:Flat DArc:=⟨fun h=>Flat.flat (α:=Int×Int) h⟩
end Go.Proofs.YtcnglfeoglgebaaGreat
namespace Go.Proofs.YtcnglfeoglgebaaGreat
open Go Go.Sh Go.Proofs Go.Sort
open Rep (rep)
def hd0 (l:List Int):Int:=l.headD 0
end Go.Proofs.YtcnglfeoglgebaaGreat
namespace Go.Sh
open Rep (rep)
instance:Rep Nat where
 size:=1
 agg:=false
 rep F _ cs x:=F=[]∧cs=[.int .u64 (x:Int)]∧x<18446744073709551616
 pos:=by decide
 sz _:=rfl
 len:=by rintro _ _ _ _ ⟨_,rfl,_⟩;rfl
 one:=by rintro _ _ _ _ ⟨_,rfl,_⟩ v hv;simp at hv;subst hv;rfl
 keep:=by rintro _ _ _ _ _ h _;exact h
 lt:=by rintro _ _ _ _ ⟨rfl,_⟩ b hb;cases hb
instance:Flat Nat:=⟨fun h=>h.1⟩
instance:RepZ Nat:=⟨0,[.int .u64 0],fun _=>⟨rfl,rfl,by decide⟩⟩
section
variable {P:Program} {w w0:World} {K:Value→Prop} {t:TypeId} {x y:Operand}
end
end Go.Sh
namespace Go.Proofs.YtcnglfeoglgebaaGreat
open Go Go.Sh Go.Proofs
open Rep (rep)
def F7 (a0:Value) (w:World) (R:VW):Prop:=
 rN 22 3 a0 w fun x4=>
 rB .gtr 3 T0 U0 x4 (iV 1048576) w fun x5=>
 R x5 w
def cfg7:Cfg:=⟨extL,[],[],[],[],[],[]⟩
theorem F7_call {a0:Value} {w:World} {R:VW} (h:F7 a0 w R):cL 7 [a0] w R:=co (g:=cfg7) Tryz.func7 (by kernel_rfl) (by kernel_rfl) (by kernel_rfl) h
theorem zvI {w:World} {v0:Value} {W0:World} {bs:(List UInt8)}  (h0:Is W0 v0 bs) (e0:Ext W0 w)  :
   CALL Tryz.prog 7 [v0] w fun r w'=>Ext w w'∧(r=.bool (decide ((1048576:Int)<bs.length))):=by
 refine F7_call ?_
 unfold F7
 have hln4:=zah h0
 refine zae u22 h0 ?_
 refine zcT ?_
 refine ⟨Ext.refl w,?_⟩
 rfl
def F18 (a0 a1:Value) (w:World) (R:VW):Prop:=
 rN 33 3 a0 w fun x7=>
 rN 33 3 a1 w fun x9=>
 rB .neq 3 T0 T0 x7 x9 w fun x10=>
 BR x10
 (R (Value.bool false) w)
 (LOOPI [5] [(iV 0)] w fun u4 w next4=>
 rN 33 3 a0 w fun x13=>
 rC (u4 5) x13 w fun x14=>
 BR x14
 ((fun w=>rX 33 a0 (u4 5) w fun x19=>
 rL 3 x19 w fun x20=>
 rX 33 a1 (u4 5) w fun x23=>
 rL 3 x23 w fun x24=>
 rB .neq 3 T0 T0 x20 x24 w fun x25=>
 BR x25
 (R (Value.bool false) w)
 (rA (u4 5) (iV 1) w fun x16=>
 next4 [x16] w)) (World.drew1 w))
 (R (Value.bool true) w))
def cfg18:Cfg:=⟨extL,[],[(4,67106864,[5])],[(6,[0,1,2,3,4,5,6,7,8],0)],[],[],[]⟩
theorem F18_call {a0 a1:Value} {w:World} {R:VW} (h:F18 a0 a1 w R):cL 18 [a0,a1] w R:=co (g:=cfg18) Tryz.func18 (by kernel_rfl) (by kernel_rfl) (by kernel_rfl) h
theorem zdw {w:World} {v0:Value} {W0:World} {l1:(List Int)} {v1:Value} {W1:World} {l2:(List Int)}  (h0:Is W0 v0 l1) (e0:Ext W0 w) (h1:Is W1 v1 l2) (e1:Ext W1 w)  :
   CALL Tryz.prog 18 [v0,v1] w fun r w'=>Ext w w'∧(r=.bool (decide (l1=l2))):=by
 refine F18_call ?_
 unfold F18
 have hl1:=zah h0
 have hln7:=zah h0
 refine zae u33 h0 ?_
 have hln9:=zah h1
 refine zae u33 h1 ?_
 refine zaO ?_
 refine br (fun c1=>?_) (fun c1=>?_)
 · refine ⟨Ext.refl w,?_⟩
   have:l1≠l2:=fun e=>c1 (by rw [e])
   simp [this]
 refine zaB (l1.length) (fun k us w'=>us=[.int .i64 (k:Int)]∧Ext w w'∧(l1.take k=l2.take k)) (0) (by omega) ⟨by simp,Ext.refl w,by simp⟩ ?_
 rintro k m4 uu4 w1_ hk4 ⟨hu,hx1_,hinv⟩
 simp only [List.map_cons,List.map_nil,List.cons.injEq,and_true] at hu
 try rw [hu]
 try clear hu
 have hln13:=zah h0
 refine zae u33 h0 ?_
 refine zai ?_
 refine br (fun c2=>?_) (fun c2=>?_)
 · have hx2_:=zak w1_
   refine zad u33 ty3 h0 (by omega) fun b19 o19 h19=>?_
   refine zac ty3 h19 (e0.trans (hx1_.trans hx2_)) fun hI20=>?_
   refine zad u33 ty3 h1 (by omega) fun b23 o23 h23=>?_
   refine zac ty3 h23 (e1.trans (hx1_.trans hx2_)) fun hI24=>?_
   refine zaO ?_
   refine br (fun c3=>?_) (fun c3=>?_)
   · refine ⟨(hx1_.trans hx2_),?_⟩
     have:l1≠l2:=fun e=>c3 (by subst e;rfl)
     simp [this]
   refine zag (by omega) ?_
   refine ⟨m4-1,by omega,k+1,by omega,by simp,(hx1_.trans hx2_),?_⟩
   rw [List.take_succ_eq_append_getElem (by omega),List.take_succ_eq_append_getElem (by omega),hinv,Decidable.not_not.1 c3]
 refine ⟨hx1_,?_⟩
 rw [List.take_of_length_le (by omega),List.take_of_length_le (by omega)] at hinv
 simp [hinv]
def F25 (a0 a1:Value) (w:World) (R:VW):Prop:=
 rN 44 3 a0 w fun x7=>
 rN 44 3 a1 w fun x9=>
 rB .neq 3 T0 T0 x7 x9 w fun x10=>
 BR x10
 (R (Value.bool false) w)
 (LOOPI [5] [(iV 0)] w fun u4 w next4=>
 rN 44 3 a0 w fun x13=>
 rC (u4 5) x13 w fun x14=>
 BR x14
 ((fun w=>rX 44 a0 (u4 5) w fun x19=>
 rL 33 x19 w fun x20=>
 rX 44 a1 (u4 5) w fun x23=>
 rL 33 x23 w fun x24=>
 cL 18 [x20,x24] w fun x25 w=>
 rD (Op.unary .not x25) w fun x26=>
 BR x26
 (R (Value.bool false) w)
 (rA (u4 5) (iV 1) w fun x16=>
 next4 [x16] w)) (World.drew1 w))
 (R (Value.bool true) w))
def cfg25:Cfg:=⟨extL,[],[(4,134215728,[5])],[(6,[0,1,2,3,4,5,6,7,8,9],0)],[],[],[]⟩
theorem F25_call {a0 a1:Value} {w:World} {R:VW} (h:F25 a0 a1 w R):cL 25 [a0,a1] w R:=co (g:=cfg25) Tryz.func25 (by kernel_rfl) (by kernel_rfl) (by kernel_rfl) h
theorem zmB {w:World} {v0:Value} {W0:World} {l1:(List (List Int))} {v1:Value} {W1:World} {l2:(List (List Int))}  (h0:Is W0 v0 l1) (e0:Ext W0 w) (h1:Is W1 v1 l2) (e1:Ext W1 w)  :
   CALL Tryz.prog 25 [v0,v1] w fun r w'=>Ext w w'∧(r=.bool (decide (l1=l2))):=by
 refine F25_call ?_
 unfold F25
 have hl1:=zah h0
 have hln7:=zah h0
 refine zae u44 h0 ?_
 have hln9:=zah h1
 refine zae u44 h1 ?_
 refine zaO ?_
 refine br (fun c1=>?_) (fun c1=>?_)
 · refine ⟨Ext.refl w,?_⟩
   have:l1≠l2:=fun e=>c1 (by rw [e])
   simp [this]
 refine zaB (l1.length) (fun k us w'=>us=[.int .i64 (k:Int)]∧Ext w w'∧(l1.take k=l2.take k)) (0) (by omega) ⟨by simp,Ext.refl w,by simp⟩ ?_
 rintro k m4 uu4 w1_ hk4 ⟨hu,hx1_,hinv⟩
 simp only [List.map_cons,List.map_nil,List.cons.injEq,and_true] at hu
 try rw [hu]
 try clear hu
 have hln13:=zah h0
 refine zae u44 h0 ?_
 refine zai ?_
 refine br (fun c2=>?_) (fun c2=>?_)
 · have hx2_:=zak w1_
   refine zad u44 za1 h0 (by omega) fun b19 o19 h19=>?_
   refine zab za1 h19 (e0.trans (hx1_.trans hx2_)) fun v20 h20=>?_
   refine zad u44 za1 h1 (by omega) fun b23 o23 h23=>?_
   refine zab za1 h23 (e1.trans (hx1_.trans hx2_)) fun v24 h24=>?_
   refine (zdw h20 (e0.trans (hx1_.trans hx2_)) h24 (e1.trans (hx1_.trans hx2_))).mono ?_
   rintro _ w3_ ⟨hx3_,rfl⟩
   refine zaS ?_
   refine br (fun c3=>?_) (fun c3=>?_)
   · refine ⟨(hx1_.trans (hx2_.trans hx3_)),?_⟩
     have:l1≠l2:=fun e=>c3 (by subst e;rfl)
     simp [this]
   refine zag (by omega) ?_
   refine ⟨m4-1,by omega,k+1,by omega,by simp,(hx1_.trans (hx2_.trans hx3_)),?_⟩
   rw [List.take_succ_eq_append_getElem (by omega),List.take_succ_eq_append_getElem (by omega),hinv,Decidable.not_not.1 c3]
 refine ⟨hx1_,?_⟩
 rw [List.take_of_length_le (by omega),List.take_of_length_le (by omega)] at hinv
 simp [hinv]
def F23 (a0 a1:Value) (w:World) (R:VW):Prop:=
 rN 39 3 a0 w fun x7=>
 rN 39 3 a1 w fun x9=>
 rB .neq 3 T0 T0 x7 x9 w fun x10=>
 BR x10
 (R (Value.bool false) w)
 (LOOPI [5] [(iV 0)] w fun u4 w next4=>
 rN 39 3 a0 w fun x13=>
 rC (u4 5) x13 w fun x14=>
 BR x14
 ((fun w=>rX 39 a0 (u4 5) w fun x19=>
 rL 58 x19 w fun x20=>
 rX 39 a1 (u4 5) w fun x23=>
 rL 58 x23 w fun x24=>
 rB .neq 58 T0 T0 x20 x24 w fun x25=>
 BR x25
 (R (Value.bool false) w)
 (rA (u4 5) (iV 1) w fun x16=>
 next4 [x16] w)) (World.drew1 w))
 (R (Value.bool true) w))
def F17 (a0 a1:Value) (w:World) (R:VW):Prop:=
 oP (Instr.box 46 a0) w fun x2 w=>
 oP (Instr.box 46 a1) w fun x3 w=>
 rF 46 x2 0 w fun x5=>
 rL 33 x5 w fun x6=>
 rF 46 x3 0 w fun x7=>
 rL 33 x7 w fun x8=>
 cL 18 [x6,x8] w fun x9 w=>
 BR x9
 (rF 46 x2 1 w fun x11=>
 rL 33 x11 w fun x12=>
 rF 46 x3 1 w fun x13=>
 rL 33 x13 w fun x14=>
 cL 18 [x12,x14] w fun x15 w=>
 BR x15
 (rF 46 x2 2 w fun x18=>
 rL 44 x18 w fun x19=>
 rF 46 x3 2 w fun x20=>
 rL 44 x20 w fun x21=>
 cL 25 [x19,x21] w fun x22 w=>
 R x22 w)
 (R (Value.bool false) w))
 (R (Value.bool false) w)
def cfg17:Cfg:=⟨extL,[],[],[],[],[],[]⟩
theorem F17_call {a0 a1:Value} {w:World} {R:VW} (h:F17 a0 a1 w R):cL 17 [a0,a1] w R:=co (g:=cfg17) Tryz.func17 (by kernel_rfl) (by kernel_rfl) (by kernel_rfl) h
theorem zhX {w:World} {v0:Value} {W0:World} {s1:DState} {v1:Value} {W1:World} {s2:DState}  (h0:Is W0 v0 s1) (e0:Ext W0 w) (h1:Is W1 v1 s2) (e1:Ext W1 w)  :
   CALL Tryz.prog 17 [v0,v1] w fun r w'=>Ext w w'∧(r=.bool (decide (s1=s2))):=by
 refine F17_call ?_
 unfold F17
 refine zaz zck rfl h0 e0 fun w1_ hx1_ hA2 hV2=>?_
 refine zaz zck rfl h1 (e1.trans hx1_) fun w2_ hx2_ hA3 hV3=>?_
 refine zaa zf3 ?_
 refine zab za1 (zcn hA2) hx2_ fun v6 h6=>?_
 refine zaa zf3 ?_
 refine zab za1 (zcn hA3) (Ext.refl w2_) fun v8 h8=>?_
 refine (zdw h6 hx2_ h8 (Ext.refl w2_)).mono ?_
 rintro _ w3_ ⟨hx3_,rfl⟩
 refine br (fun c1=>?_) (fun c1=>?_)
 · refine zaa zdp ?_
   refine zab za1 (zcH hA2) (hx2_.trans hx3_) fun v12 h12=>?_
   refine zaa zdp ?_
   refine zab za1 (zcH hA3) hx3_ fun v14 h14=>?_
   refine (zdw h12 (hx2_.trans hx3_) h14 hx3_).mono ?_
   rintro _ w4_ ⟨hx4_,rfl⟩
   refine br (fun c2=>?_) (fun c2=>?_)
   · refine zaa za6 ?_
     refine zab zes (zaN hA2) (hx2_.trans (hx3_.trans hx4_)) fun v19 h19=>?_
     refine zaa za6 ?_
     refine zab zes (zaN hA3) (hx3_.trans hx4_) fun v21 h21=>?_
     refine (zmB h19 (hx2_.trans (hx3_.trans hx4_)) h21 (hx3_.trans hx4_)).mono ?_
     rintro _ w5_ ⟨hx5_,rfl⟩
     refine ⟨(hx1_.trans (hx2_.trans (hx3_.trans (hx4_.trans hx5_)))),?_⟩
     cases s1;cases s2;simp_all
   refine ⟨(hx1_.trans (hx2_.trans (hx3_.trans hx4_))),?_⟩
   cases s1;cases s2;simp_all
 refine ⟨(hx1_.trans (hx2_.trans hx3_)),?_⟩
 cases s1;cases s2;simp_all
def F12 (a0:Value) (w:World) (R:VW):Prop:=
 oP (Instr.box 36 a0) w fun x1 w=>
 rL 36 x1 w fun x6=>
 cL 46 [x6] w fun x7 w=>
 rE x7 0 w fun x8=>
 rE x7 1 w fun x9=>
 rD (Op.unary .not x9) w fun x11=>
 BR x11
 (R (Value.slice none 0 0) w)
 (NIL x8 <|
 rF 92 x8 5 w fun x14=>
 rL 3 x14 w fun x15=>
 cL 48 [x15] w fun x16 w=>
 R x16 w)
def cfg12:Cfg:=⟨extL,[],[],[],[],[],[]⟩
theorem F12_call {a0:Value} {w:World} {R:VW} (h:F12 a0 w R):cL 12 [a0] w R:=co (g:=cfg12) Tryz.func12 (by kernel_rfl) (by kernel_rfl) (by kernel_rfl) h
def F13 (a0 a1:Value) (w:World) (R:VW):Prop:=
 oP (Instr.box 36 a0) w fun x2 w=>
 rL 36 x2 w fun x8=>
 cL 46 [x8] w fun x9 w=>
 rE x9 0 w fun x10=>
 rE x9 1 w fun x11=>
 BR x11
 (cL 49 [x10,a1] w fun x16 w=>
 R x16 w)
 (R (Value.bool false) w)
def cfg13:Cfg:=⟨extL,[],[],[],[],[],[]⟩
theorem F13_call {a0 a1:Value} {w:World} {R:VW} (h:F13 a0 a1 w R):cL 13 [a0,a1] w R:=co (g:=cfg13) Tryz.func13 (by kernel_rfl) (by kernel_rfl) (by kernel_rfl) h
def F8 (a0:Value) (w:World) (R:VW):Prop:=
 oP (Instr.alloc 27 true (.tuple #[])) w fun x2 w=>
 cL 41 [a0] w fun x4 w=>
 cL 40 [x4] w fun x5 w=>
 oS 27 x2 x5 w fun w=>
 rD (zax 27 x2) w fun r2=>R r2 w
def cfg8:Cfg:=⟨extL,[],[],[],[],[],[]⟩
theorem F8_call {a0:Value} {w:World} {R:VW} (h:F8 a0 w R):cL 8 [a0] w R:=co (g:=cfg8) Tryz.func8 (by kernel_rfl) (by kernel_rfl) (by kernel_rfl) h
def F3 (a0:Value) (w:World) (R:VW):Prop:=
 cL 7 [a0] w fun x15 w=>
 BR x15
 (R (Value.bool true) w)
 (cL 8 [a0] w fun x17 w=>
 oP (Instr.alloc 27 true (.tuple #[])) w fun x3 w=>
 oS 27 x3 x17 w fun w=>
 LOOPI [4] [(iV 0)] w fun u5 w next5=>
 rF 27 x3 2 w fun x19=>
 rL 25 x19 w fun x20=>
 rN 25 3 x20 w fun x21=>
 rC (u5 4) x21 w fun x22=>
 BR x22
 ((fun w=>rF 27 x3 2 w fun x25=>
 rL 25 x25 w fun x26=>
 rF 27 x3 2 w fun x28=>
 rL 25 x28 w fun x29=>
 rX 25 x29 (u5 4) w fun x31=>
 rF 32 x31 1 w fun x32=>
 rL 29 x32 w fun x33=>
 (fun w_=>cL 9 [x33] w_ fun x34 w=>
 Ext w_ w ∧
 rX 25 x26 (u5 4) w fun x35=>
 rF 32 x35 1 w fun x36=>
 oS 29 x36 x34 w fun w=>
 rA (u5 4) (iV 1) w fun x24=>
 next5 [x24] w) w) (World.drew1 w))
 (rL 27 x3 w fun x38=>
 cL 10 [x38] w fun x39 w=>
 rE x39 0 w fun x40=>
 rE x39 1 w fun x41=>
 oP (Instr.alloc 36 true (.tuple #[])) w fun x5 w=>
 oS 36 x5 x40 w fun w=>
 rD (Op.unary .not x41) w fun x43=>
 BR x43
 (R (Value.bool false) w)
 (rL 36 x5 w fun x45=>
 cL 11 [x45] w fun x46 w=>
 rN 39 3 x46 w fun x47=>
 rB .gtr 3 T0 U0 x47 (iV 0) w fun x48=>
 BR x48
 (R (Value.bool false) w)
 (rL 36 x5 w fun x51=>
 cL 12 [x51] w fun x52 w=>
 rN 33 3 x52 w fun x53=>
 rB .neq 3 T0 U0 x53 (iV 1) w fun x54=>
 BR x54
 (R (Value.bool false) w)
 (rL 36 x5 w fun x57=>
 cL 13 [x57,(iV 0)] w fun x58 w=>
 rD (Op.unary .not x58) w fun x59=>
 BR x59
 (R (Value.bool false) w)
 (cL 14 [a0] w fun x62 w=>
 rL 36 x5 w fun x64=>
 cL 15 [x64,x62] w fun x66 w=>
 rE x66 0 w fun x67=>
 rE x66 1 w fun x68=>
 oP (Instr.alloc 46 true (.tuple #[])) w fun x8 w=>
 oS 46 x8 x67 w fun w=>
 (fun w0=>PAR w0 [[(0,70)],[(1,71)],[(2,72),(1,71)],[(3,73),(2,72),(2,72)],[(4,74),(0,70),(3,73)],[(5,69),(4,74)],[(6,75),(5,69)],[(7,76),(5,69)],[(8,10)]] (fun Q=>
 (∀ (u13:Env) (T:Nat→Nat×Nat) (w:World),Ext w0 w→zaH [] w0.heap.size w.heap.size T→(True)→(fun w1=>rL 36 x5 w fun x70=>
 Ext w1 w∧Q 0 (upd u13 70 x70) (zbM T 0 (w1.heap.size,w.heap.size)) w) w) ∧
 (∀ (u13:Env) (T:Nat→Nat×Nat) (w:World),Ext w0 w→zaH [] w0.heap.size w.heap.size T→(True)→(fun w1=>Ext w1 w∧Q 1 (upd u13 71 x62) (zbM T 1 (w1.heap.size,w.heap.size)) w) w) ∧
 (∀ (u13:Env) (T:Nat→Nat×Nat) (w:World),Ext w0 w→zaH [1] w0.heap.size w.heap.size T→(Q 1 u13 T w∧True)→(fun w1=>rN 33 3 (u13 71) w fun x72=>
 Ext w1 w∧Q 2 (upd u13 72 x72) (zbM T 2 (w1.heap.size,w.heap.size)) w) w) ∧
 (∀ (u13:Env) (T:Nat→Nat×Nat) (w:World),Ext w0 w→zaH [2,2] w0.heap.size w.heap.size T→(Q 2 u13 T w∧Q 2 u13 T w∧True)→(fun w1=>oP (Instr.makeSlice 33 (u13 72) (u13 72)) w fun x73 w=>
 Ext w1 w∧Q 3 (upd u13 73 x73) (zbM T 3 (w1.heap.size,w.heap.size)) w) w) ∧
 (∀ (u13:Env) (T:Nat→Nat×Nat) (w:World),Ext w0 w→zaH [0,3] w0.heap.size w.heap.size T→(Q 0 u13 T w∧Q 3 u13 T w∧True)→(fun w1=>cL 15 [(u13 70),(u13 73)] w fun x74 w=>
 Ext w1 w∧Q 4 (upd u13 74 x74) (zbM T 4 (w1.heap.size,w.heap.size)) w) w) ∧
 (∀ (u13:Env) (T:Nat→Nat×Nat) (w:World),Ext w0 w→zaH [4] w0.heap.size w.heap.size T→(Q 4 u13 T w∧True)→(fun w1=>Ext w1 w∧Q 5 (upd u13 69 (u13 74)) (zbM T 5 (w1.heap.size,w.heap.size)) w) w) ∧
 (∀ (u13:Env) (T:Nat→Nat×Nat) (w:World),Ext w0 w→zaH [5] w0.heap.size w.heap.size T→(Q 5 u13 T w∧True)→(fun w1=>rE (u13 69) 0 w fun x75=>
 Ext w1 w∧Q 6 (upd u13 75 x75) (zbM T 6 (w1.heap.size,w.heap.size)) w) w) ∧
 (∀ (u13:Env) (T:Nat→Nat×Nat) (w:World),Ext w0 w→zaH [5] w0.heap.size w.heap.size T→(Q 5 u13 T w∧True)→(fun w1=>rE (u13 69) 1 w fun x76=>
 Ext w1 w∧Q 7 (upd u13 76 x76) (zbM T 7 (w1.heap.size,w.heap.size)) w) w) ∧
 (∀ (u13:Env) (T:Nat→Nat×Nat) (w:World),Ext w0 w→zaH [] w0.heap.size w.heap.size T→(True)→(fun w1=>oP (Instr.alloc 46 true (.tuple #[])) w fun x10 w=>
 Ext w1 w∧Q 8 (upd u13 10 x10) (zbM T 8 (w1.heap.size,w.heap.size)) w) w) ∧
 True)
 (fun Q=>∀ (u13:Env) (T:Nat→Nat×Nat) (w:World),Ext w0 w→zaH [0,1,2,3,4,5,6,7,8] w0.heap.size w.heap.size T→(Q 0 u13 T w∧Q 1 u13 T w∧Q 2 u13 T w∧Q 3 u13 T w∧Q 4 u13 T w∧Q 5 u13 T w∧Q 6 u13 T w∧Q 7 u13 T w∧Q 8 u13 T w∧True) →
 oS 46 (u13 10) (u13 75) w fun w=>
 rL 36 x5 w fun x78=>
 cL 16 [x78,x62] w fun x80 w=>
 rE x80 0 w fun x81=>
 rE x80 1 w fun x82=>
 oP (Instr.alloc 46 true (.tuple #[])) w fun x12 w=>
 oS 46 x12 x81 w fun w=>
 rL 46 x8 w fun x83=>
 rL 46 x12 w fun x84=>
 cL 17 [x83,x84] w fun x85 w=>
 BR x85
 (rL 46 (u13 10) w fun x87=>
 rL 46 x12 w fun x88=>
 cL 17 [x87,x88] w fun x89 w=>
 BR x89
 (cL 18 [x68,x82] w fun x94 w=>
 BR x94
 (cL 18 [(u13 76),x82] w fun x99 w=>
 BR x99
 (rF 46 x8 2 w fun x102=>
 rL 44 x102 w fun x103=>
 rN 44 3 x103 w fun x104=>
 rB .eql 3 T0 U0 x104 (iV 1) w fun x105=>
 R x105 w)
 (R (Value.bool false) w))
 (R (Value.bool false) w))
 (R (Value.bool false) w))
 (R (Value.bool false) w))) (World.drew1 w)))))))
def cfg3:Cfg:=⟨extL,[],[(5,137438691344,[4])],[(7,[0,1,2,3,4,5,6,7,8,9,10,11,12],512)],[(13,150525431641469941189632,9)],[],[]⟩
theorem F3_call {a0:Value} {w:World} {R:VW} (h:F3 a0 w R):cL 3 [a0] w R:=co (g:=cfg3) Tryz.func3 (by kernel_rfl) (by kernel_rfl) (by kernel_rfl) h
open Rep (rep)
theorem zjw {w W0:World} {v0:Value} {c:DCode} (h0:Is W0 v0 c) (e0:Ext W0 w) (hq:QuC c) :
   CALL Tryz.prog 12 [v0] w fun r w'=>Ext w w'∧Is w' r ([0]:List Int):=by
 refine F12_call ?_
 unfold F12
 refine zcz h0 e0 fun w1 hx1 hA=>?_
 refine zab zdW hA (Ext.refl _) fun v6 h6=>?_
 refine (zht h6 (Ext.refl _)).mono ?_
 rintro r7 w2 ⟨hx2,hr⟩
 rcases hr with ⟨hn,rfl⟩ | ⟨hc,b,rfl,hW⟩
 · exact absurd hq.r hn
 refine za0 rfl ?_
 refine za0 rfl ?_
 refine zaU ?_
 refine zb4 (fun h=>by cases h) (fun _=>?_)
 refine NIL.mk rfl ?_
 refine zaa zhK ?_
 refine zac ty3 hW.roots (Ext.refl _) fun _=>?_
 have h256:zbK c<256:=zaR hc.1.procs8.1
 refine (zcY (m:=zbK c) (by omega)).mono ?_
 rintro v16 w3 ⟨hx3,o16⟩
 rw [hq.roots] at o16
 exact ⟨hx1.trans (hx2.trans hx3),o16.is⟩
theorem zle {w W0:World} {v0:Value} {c:DCode} (h0:Is W0 v0 c) (e0:Ext W0 w) (hq:QuC c) :
   CALL Tryz.prog 13 [v0,.int .i64 0] w fun r w'=>Ext w w'∧r=.bool true:=by
 refine F13_call ?_
 unfold F13
 refine zcz h0 e0 fun w1 hx1 hA=>?_
 refine zab zdW hA (Ext.refl _) fun v6 h6=>?_
 refine (zht h6 (Ext.refl _)).mono ?_
 rintro r7 w2 ⟨hx2,hr⟩
 rcases hr with ⟨hn,rfl⟩ | ⟨hc,b,rfl,hW⟩
 · exact absurd hq.r hn
 refine za0 rfl ?_
 refine za0 rfl ?_
 refine zb4 (fun _=>?_) (fun h=>by cases h)
 have hR:RootP c 0:=by have:=RootP.main (c:=c);rwa [hq.mn] at this
 have hS:zfZ c 0:=by have:=hq.sing;rwa [hq.mn] at this
 refine (zl5 (r:=0) hW (Ext.refl _) hc hR).mono ?_
 rintro _ w3 ⟨hx3,rfl⟩
 exact ⟨hx1.trans (hx2.trans hx3),by rw [decide_eq_true hS]⟩
theorem znR {w W:World} {v:Value} {bs:List UInt8} (h:Is W v bs) (e:Ext W w) (hl:bs.length≤1048576) :
   CALL Tryz.prog 8 [v] w fun r w'=>Ext w w'∧OwnI w.heap.size w'.heap.size w' r (zek bs (zj1 bs)).1:=by
 refine F8_call ?_
 unfold F8
 refine zcB (α:=DProg) zvN fun w1 hx1 hv1=>?_
 have hs1:=hx1.size
 have hg1:=hv1.lt
 refine (zmz h (e.trans hx1) hl).mono ?_
 rintro _ w2 ⟨hx2,g,rfl,hg,hC2⟩
 have hs2:=hx2.size
 have hg2:=hC2.lt
 refine (zpQ hC2).mono ?_
 rintro v5 w3 ⟨hc3,-,o5⟩
 have hs3:=hc3.size
 have hv3:=(hv1.ext hx2).chg hc3 (by omega) (by omega)
 refine zaF zn2 hv3 o5 (by omega) fun w4 hc4 hv4=>?_
 have hs4:=hc4.size
 refine zbh zn2 hv4 (Ext.refl _) fun v6 o6=>?_
 exact ⟨Ext.chgI (Ext.chgI (hx1.trans hx2) hc3 (by omega)) hc4 (by omega),o6.mono (by omega) (by omega)⟩
def qlQ (c:DCode) (v62:Value) (x:DState) (y:List Int) (w0:World):ParQ:=fun i u T w=>match i with
 | 0=>Is w0 (u 70) c
 | 1=>u 71=v62
 | 2=>u 72=.int .i64 ((70:Nat):Int)
 | 3=>Is w (u 73) (List.replicate 70 (0:Int))
 | 4=>∃ a b,u 74=.tuple #[a,b]∧OwnI (T 4).1 (T 4).2 w a x∧OwnI (T 4).1 (T 4).2 w b y
 | 5=>∃ a b,u 69=.tuple #[a,b]∧OwnI (T 4).1 (T 4).2 w a x∧OwnI (T 4).1 (T 4).2 w b y
 | 6=>∃ b,u 69=.tuple #[u 75,b]
 | 7=>∃ a,u 69=.tuple #[a,u 76]
 | 8=>∃ g,u 10=.pointer (some ⟨g,0,none⟩)∧(T 8).1≤g∧g<(T 8).2∧VarI (T 8).1 (T 8).2 w g (RepZ.zv:DState)
 | _=>True
theorem zvJ {a b c d:Value} (h:Value.tuple #[a,b]=.tuple #[c,d]):a=c∧b=d:=by
 simpa using h
theorem zwJ:zbU Tryz.prog 3=some [.int .i64 0]:=by kernel_rfl
def quD (x:DProc):DProc:=⟨x.name,quL x.body⟩
theorem zvK {l:List DProc} {k:Nat} (hk:k<l.length):((l.take k).map quD++l.drop k).set k (quD l[k])=(l.take (k+1)).map quD++l.drop (k+1):=by
 have hl:((l.take k).map quD).length=k:=by rw [List.length_map,List.length_take];omega
 rw [List.drop_eq_getElem_cons hk,List.set_append_right _ _ (by omega),hl,Nat.sub_self,List.set_cons_zero,List.take_succ_eq_append_getElem hk,List.map_append]
 simp
set_option maxRecDepth 20000 in
theorem zrZ {w W:World} {v0:Value} {bs:List UInt8} (h0:Is W v0 bs) (e0:Ext W w):CALL Tryz.prog 3 [v0] w fun r w'=>Ext w w'∧(r=.bool true):=by
  refine F3_call ?_
  unfold F3
  refine (zvI h0 e0).mono ?_
  rintro _ w1 ⟨hx1,rfl⟩
  refine br (fun _=>⟨hx1,rfl⟩) (fun hb=>?_)
  have hlen:bs.length≤1048576:=by omega
  refine (znR h0 (e0.trans hx1) hlen).mono ?_
  have hpr:=zpK bs (zj1 bs)
  generalize (zek bs (zj1 bs)).1=p at *
  rintro v17 w2 ⟨hx2,o17⟩
  have hs1:=hx1.size
  have hs2:=hx2.size
  refine zcB (α:=DProg) zvN fun w3 hx3 hv3=>?_
  have hs3:=hx3.size
  refine zaF zn2 hv3 (o17.ext hx3) (by omega) fun w4 hc4 hv4=>?_
  have hs4:=hc4.size
  have hx24:Ext w2 w4:=hx3.chgI hc4 (Nat.le_refl _)
  have hx04:Ext w1 w4:=hx2.trans hx24
  obtain ⟨F4,hO4,hF4⟩:=hv4
  have hqu:=zwf hpr
  have hq1:=zvD hpr
  have hpl:=hpr.facts.1
  generalize hg:w2.heap.size=g at *
  refine zaB p.procs.length (fun k us w'=>us=[.int .i64 (k:Int)]∧k≤p.procs.length∧Ext w1 w'∧∃ F,OAt F w' g 0 (⟨p.globals,p.locks,(p.procs.take k).map quD++p.procs.drop k⟩:DProg)∧∀ c∈F,w1.heap.size≤c) 0 (Nat.zero_le _)
    ⟨rfl,Nat.zero_le _,hx04,F4,hO4,fun c hc=>(hF4 c hc).1⟩ ?_
  rintro k m u w5 hkm ⟨hu,hkl,hx5,F,hO,hF⟩
  simp only [List.map_cons,List.map_nil,List.cons.injEq,and_true] at hu
  rw [hu]
  have hLl:((p.procs.take k).map quD++p.procs.drop k).length=p.procs.length:=by rw [List.length_append,List.length_map,List.length_take,List.length_drop];omega
  refine zaa zf2 ?_
  refine zab zr1 (zdQ hO.at) (Ext.refl _) fun v20 h20=>?_
  refine zae u25 h20 ?_
  rw [hLl]
  refine zai ?_
  refine br (fun hlt=>?_) (fun hge=>?_)
  · have hk:k<p.procs.length:=by omega
    have hset:=zvK hk
    have hget:∀ h,((p.procs.take k).map quD++p.procs.drop k)[k]'h=p.procs[k]:=fun h=>by
      have hl:((p.procs.take k).map quD).length=k:=by rw [List.length_map,List.length_take];omega
      rw [List.getElem_append_right (by omega),List.getElem_drop]
      congr 1;omega
    generalize hL:(p.procs.take k).map quD++p.procs.drop k=L at hO hLl hset hget
    clear hL
    have hkL:k<L.length:=by omega
    have hxd:=zak w5
    have hO6:=hO.ext hxd
    generalize World.drew1 w5=w6 at *
    have hs6:=hxd.size
    obtain ⟨G2,hL2⟩:=zmb (Lens.var hO6)
    obtain ⟨u26,b2,a2,cap,Ge,hr26,hI26,hv26,hLe⟩:=hL2.elem hkL
    have hLe:Lens (VH g) (g :: F) w6 b2 (a2+k*2) Ge L[k] (fun y=>(⟨p.globals,p.locks,L.set k y⟩:DProg)):=hLe
    rw [hget hkL] at hLe
    obtain ⟨Gb,hLb⟩:=zma hLe
    obtain ⟨u33,hM33,hr33,hG33,-⟩:=hLb.row
    refine zaa zf2 ?_
    refine za2 zr1 hr26 ?_
    refine zaa zf2 ?_
    refine za2 zr1 hr26 ?_
    refine zgi u25 zmO hv26 hkL ?_
    refine zaa zln ?_
    refine za2 zfc hr33 ?_
    have hbs:=(hpr.b _ (List.getElem_mem hk)).2
    have hbl:=zgm (p.procs[k]).body
    refine (zs8 _ hM33 (Ext.refl _) (by omega) (fun x hx=>by have:=zld hx;omega)).mono ?_
    rintro v34 w7 ⟨hx7,F34,hM34,hF34⟩
    have hs7:=hx7.size
    refine ⟨hx7,?_⟩
    refine zgi u25 zmO hv26 hkL ?_
    refine zaa zln ?_
    refine zfB zfc (hLb.ext hx7) hM34 (fun c hc=>?_) fun w8 hc8 ⟨F8,hO8,hF8⟩=>?_
    · rcases hF34 c hc with h | h
      · exact .inl h
      exact .inr fun hm=>by have:=hO6.lts c hm;omega
    have hs8:=hc8.size
    have hO8:OAt F8 w8 g 0 (⟨p.globals,p.locks,L.set k (quD p.procs[k])⟩:DProg):=hO8
    rw [hset] at hO8
    have hg8:g∉F8:=by obtain ⟨_,_,_,_,_,hn,_⟩:=hO8;exact hn
    have h15:=hx5.size
    have hgg:w1.heap.size≤g:=by omega
    refine zag (by omega) ?_
    refine ⟨m-1,by omega,k+1,by omega,rfl,by omega,Ext.chgL ((hx5.trans hxd).trans hx7) hc8 fun c hc=>?_,F8,hO8,fun c hc=>?_⟩
    · rcases List.mem_cons.1 hc with rfl | hc
      · exact hgg
      exact hF c hc
    rcases hF8 c hc with h | h
    · rcases List.mem_cons.1 h with rfl | h
      · exact hgg
      exact hF c h
    rcases hF34 c h with h | h
    · rcases List.mem_cons.1 (hG33 c h) with rfl | h
      · exact hgg
      exact hF c h
    omega
  have hk:k=p.procs.length:=by omega
  rw [List.take_of_length_le (by omega),List.drop_eq_nil_of_le (by omega),List.append_nil] at hO
  have hO:OAt F w5 g 0 (quP p):=hO
  have hw:=zvH hq1
  refine zab zn2 hO.at (Ext.refl _) fun v38 h38=>?_
  refine (zlc h38 (Ext.refl _) hq1).mono ?_
  generalize zbB (quP p)=c at *
  rintro _ w6 ⟨hx6,v40,rfl,o40⟩
  refine za0 rfl ?_
  refine za0 rfl ?_
  refine zcA zvY rfl zdW rfl o40.is (Ext.refl _) fun w7 hx7 hA7 hV7=>?_
  have hx17:Ext w1 w7:=hx5.trans (hx6.trans hx7)
  refine zaU ?_
  refine zb4 (fun h=>by cases h) (fun _=>?_)
  refine zab zdW hA7 (Ext.refl _) fun v45 h45=>?_
  refine (zjt h45 (Ext.refl _)).mono ?_
  rintro v46 w8 ⟨hx8,o46⟩
  rw [hqu.races] at o46
  refine zae u39 o46.is ?_
  refine zcT ?_
  refine br (fun h=>by simp at h) (fun _=>?_)
  refine zab zdW hA7 hx8 fun v51 h51=>?_
  refine (zjw h51 hx8 hqu).mono ?_
  rintro v52 w9 ⟨hx9,h52⟩
  have hx79:=hx8.trans hx9
  refine zae u33 h52 ?_
  refine zaO ?_
  refine br (fun h=>absurd rfl h) (fun _=>?_)
  refine zab zdW hA7 hx79 fun v57 h57=>?_
  refine (zle h57 hx79 hqu).mono ?_
  rintro _ w10 ⟨hx10,rfl⟩
  have hx710:=hx79.trans hx10
  refine zaU ?_
  refine zb4 (fun h=>by cases h) (fun _=>?_)
  have hplen:(zoY bs).length=70:=zhW bs 12 70 _
  refine (zmA h0 (e0.trans (hx1.trans (hx17.trans hx710))) hlen).mono ?_
  generalize zoY bs=ps at *
  rintro v62 w11 ⟨hx11,o62⟩
  have h62:=o62.is
  have hx711:=hx710.trans hx11
  have hro:=hqu.runOf (l:=ps) (l':=List.replicate 70 0) (by rw [hplen,List.length_replicate])
  obtain ⟨E,hE⟩:∃ E,E=(runOf c ps).1:=⟨_,rfl⟩
  obtain ⟨G,hG⟩:∃ G,G=(runOf c ps).2:=⟨_,rfl⟩
  have hrun:runOf c ps=(E,G):=by rw [hE,hG]
  have hrun0:runOf c (List.replicate 70 0)=(E,G):=by rw [←hro.1,hrun]
  have hst:=hro.2
  rw [hrun] at hst
  refine zab zdW hA7 hx711 fun v64 h64=>?_
  refine (zhU h64 hx711 h62 (Ext.refl _) hw).mono ?_
  rintro _ w12 ⟨hx12,v67,v68,lo,hi,lo2,hi2,rfl,o67,o68,b1,b2,b3,b4,-⟩
  rw [hrun] at o67 o68
  refine za0 rfl ?_
  refine za0 rfl ?_
  refine zcB (α:=DState) zmT fun w13 hx13 hv13=>?_
  refine zaF zck hv13 (o67.ext hx13) (.inr b3) fun w14 hc14 hv8=>?_
  have hx1214:Ext w12 w14:=hx13.chgI hc14 (Nat.le_refl _)
  have hx714:=hx711.trans (hx12.trans hx1214)
  have hxd:=zak w14
  have hsd:=hxd.size
  have hx7d:=hx714.trans hxd
  have hx11d:=(hx12.trans hx1214).trans hxd
  refine PAR.mk (qlQ c v62 E G (World.drew1 w14)) ?_ ?_ ?_
  · intro i u u' T T' wa wb hxa hxb hd hq
    match i,hd,hq with
    | 0,hd,hq=>have e1:=(hd (0,70) (by decide)).1;show Is _ (u' 70) _;simp only [e1];exact hq
    | 1,hd,hq=>exact (hd (1,71) (by decide)).1.trans hq
    | 2,hd,hq=>exact (hd (2,72) (by decide)).1.trans hq
    | 3,hd,hq=>have e1:=(hd (3,73) (by decide)).1;show Is _ (u' 73) _;simp only [e1];exact Is.ext hq hxb
    | 4,hd,⟨a,b,q1,q2,q3⟩=>
      obtain ⟨e1,e2⟩:=hd (4,74) (by decide)
      simp only at e1 e2
      exact ⟨a,b,e1.trans q1,by rw [e2];exact q2.ext hxb,by rw [e2];exact q3.ext hxb⟩
    | 5,hd,⟨a,b,q1,q2,q3⟩=>
      have e1:=(hd (5,69) (by decide)).1
      have e2:=(hd (4,74) (by decide)).2
      simp only at e1 e2
      exact ⟨a,b,e1.trans q1,by rw [e2];exact q2.ext hxb,by rw [e2];exact q3.ext hxb⟩
    | 6,hd,⟨b,q1⟩=>
      have e1:=(hd (6,75) (by decide)).1
      have e2:=(hd (5,69) (by decide)).1
      simp only at e1 e2
      exact ⟨b,by rw [e1,e2];exact q1⟩
    | 7,hd,⟨b,q1⟩=>
      have e1:=(hd (7,76) (by decide)).1
      have e2:=(hd (5,69) (by decide)).1
      simp only at e1 e2
      exact ⟨b,by rw [e1,e2];exact q1⟩
    | 8,hd,⟨g,q1,q2,q3,q4⟩=>
      obtain ⟨e1,e2⟩:=hd (8,10) (by decide)
      simp only at e1 e2
      exact ⟨g,e1.trans q1,by rw [e2];exact q2,by rw [e2];exact q3,by rw [e2];exact q4.ext hxb⟩
    | n+9,_,_=>trivial
  · refine ⟨fun u T w' hx _ _=>?_,fun u T w' hx _ _=>?_,fun u T w' hx _ hp=>?_,fun u T w' hx _ hp=>?_,fun u T w' hx _ hp=>?_,fun u T w' hx _ hp=>?_,fun u T w' hx _ hp=>?_,fun u T w' hx _ hp=>?_,fun u T w' hx _ _=>?_,trivial⟩
    · exact zab zdW hA7 (hx7d.trans hx) fun v h=>⟨Ext.refl _,(h.ext hx7d:Is _ v c)⟩
    · exact ⟨Ext.refl _,rfl⟩
    · have q0:u 71=v62:=hp.1
      rw [q0]
      refine zae u33 h62 ?_
      rw [hplen]
      exact ⟨Ext.refl _,rfl⟩
    · have q0:u 72=.int .i64 ((70:Nat):Int):=hp.1
      rw [q0]
      exact zfE (α:=Int) u33 ty3 rfl rfl zwJ (by decide) (by decide) fun w7 hx7 hr7=>⟨hx7,(hr7.own.is:Is _ _ (List.replicate 70 (0:Int)))⟩
    · have q0:Is _ (u 70) c:=hp.1
      have q3:Is _ (u 73) (List.replicate 70 (0:Int)):=hp.2.1
      refine (zhU q0 hx q3 (Ext.refl _) hw).mono ?_
      rintro r w7 ⟨hx7,a,b,lo,hi,lo2,hi2,rfl,oa,ob,b1,b2,b3,b4,-⟩
      rw [hrun0] at oa ob
      exact ⟨hx7,⟨a,b,rfl,oa.mono b1 b3,ob.mono b2 b4⟩⟩
    · exact ⟨Ext.refl _,hp.1⟩
    · obtain ⟨a,b,q1,q2,q3⟩:=(hp.1:∃ a b,u 69=.tuple #[a,b]∧OwnI (T 4).1 (T 4).2 w' a E∧OwnI (T 4).1 (T 4).2 w' b G)
      rw [q1]
      exact za0 rfl ⟨Ext.refl _,⟨b,q1⟩⟩
    · obtain ⟨a,b,q1,q2,q3⟩:=(hp.1:∃ a b,u 69=.tuple #[a,b]∧OwnI (T 4).1 (T 4).2 w' a E∧OwnI (T 4).1 (T 4).2 w' b G)
      rw [q1]
      exact za0 rfl ⟨Ext.refl _,⟨a,q1⟩⟩
    refine zcB (α:=DState) zmT fun w7 hx7 hv7=>⟨hx7,⟨w'.heap.size,rfl,Nat.le_refl _,hv7.lt,hv7.mono hx7.size (Nat.le_refl _)⟩⟩
  rintro u13 T w15 hx15 hap ⟨-,-,-,-,-,⟨a,b,e5,oa,ob⟩,⟨b',e6⟩,⟨a',e7⟩,⟨g6,e8,hg0,hg1,hvz⟩,-⟩
  have t4:=hap.1 4 (by decide)
  have t8:=hap.1 8 (by decide)
  have d48:=hap.2 4 (by decide) 8 (by decide) (by decide)
  have f1:=(zvJ (e5.symm.trans e6)).1
  have f2:=(zvJ (e5.symm.trans e7)).2
  rw [←f1,e8]
  generalize u13 76=v76 at *
  subst f2
  refine zaF zck hvz oa (by omega) fun w16 hc16 hv10=>?_
  have ob':=ob.chg hc16 (by omega)
  have hx1416:Ext w14 w16:=hxd.trans (hx15.chgI hc16 (by omega))
  have hx716:=hx714.trans hx1416
  have hx1116:=(hx12.trans hx1214).trans hx1416
  refine zab zdW hA7 hx716 fun v78 h78=>?_
  refine (zms h78 hx716 h62 hx1116 hw).mono ?_
  rintro _ w17 ⟨hx17',v81,v82,lo',hi',lo2',hi2',rfl,o81,o82,c1,c2,c3,c4,-⟩
  rw [hrun] at o81 o82
  refine za0 rfl ?_
  refine za0 rfl ?_
  refine zcB (α:=DState) zmT fun w18 hx18 hv18=>?_
  refine zaF zck hv18 (o81.ext hx18) (.inr c3) fun w19 hc19 hv12=>?_
  have hx1719:Ext w17 w19:=hx18.chgI hc19 (Nat.le_refl _)
  have hx1619:=hx17'.trans hx1719
  have hx1419:=hx1416.trans hx1619
  have hx1219:=hx1214.trans hx1419
  refine zce zck hv8 hx1419 fun v83 h83=>?_
  refine zce zck hv12 (Ext.refl _) fun v84 h84=>?_
  refine (zhX h83.is hx1419 h84.is (Ext.refl _)).mono ?_
  rintro _ w20 ⟨hx20,rfl⟩
  refine zb4 (fun _=>?_) (fun h=>by simp at h)
  refine zce zck hv10 (hx1619.trans hx20) fun v87 h87=>?_
  refine zce zck hv12 hx20 fun v88 h88=>?_
  refine (zhX h87.is (hx1619.trans hx20) h88.is hx20).mono ?_
  rintro _ w21 ⟨hx21,rfl⟩
  refine zb4 (fun _=>?_) (fun h=>by simp at h)
  have hx1921:=hx20.trans hx21
  refine (zdw o68.is (hx1219.trans hx1921) o82.is (hx1719.trans hx1921)).mono ?_
  rintro _ w22 ⟨hx22,rfl⟩
  refine zb4 (fun _=>?_) (fun h=>by simp at h)
  have hx1922:=hx1921.trans hx22
  refine (zdw ob'.is (hx1619.trans hx1922) o82.is (hx1719.trans hx1922)).mono ?_
  rintro _ w23 ⟨hx23,rfl⟩
  refine zb4 (fun _=>?_) (fun h=>by simp at h)
  have hx1923:=hx1922.trans hx23
  refine zaa za6 ?_
  refine zab zes (zaN hv8.at) (hx1419.trans hx1923) fun v103 h103=>?_
  refine zae u44 h103 ?_
  rw [hst]
  refine zaf ?_
  exact ⟨hx1.trans (hx17.trans (hx714.trans (hx1419.trans hx1923))),rfl⟩
theorem zs9 {P:Program} {t:TypeId} (ht:P.underlying t=some (.int .u8)) (n:Nat):zlq P t UInt8 n:=by
 intro H enc w spare held cs y h
 obtain ⟨m,rfl,_,hw⟩:=DataW.trod_int ht h
 have hm:0≤m∧m≤255:=by simpa [Lit.wf,IntKind.min,IntKind.max,IntKind.signed,IntKind.bits] using hw
 refine ⟨[],UInt8.ofNat m.toNat,rfl,?_⟩
 have:((UInt8.ofNat m.toNat).toNat:Int)=m:=by
   have:(UInt8.ofNat m.toNat).toNat=m.toNat:=by simp;omega
   omega
 rw [this]
theorem zuK:∀ n,zlq Tryz.prog 22 (List UInt8) n:=ziv u22 (by kernel_rfl) (zs9 u5)
end Go.Proofs.YtcnglfeoglgebaaGreat
namespace Go.Proofs.YtcnglfeoglgebaaGreat
open Go
theorem zbC {a b:Bool} (h:a=true) (k:b=true):(a&&b)=true:=by rw [h,k];rfl
theorem zuL:laidOutB Tryz.prog=true:=by kernel_rfl
theorem zuM:mapsRowed Tryz.prog=true:=by kernel_rfl
theorem zta:(Rows.fnSerialRow.plainKeys == Tryz.prog.plainKeys)=true:=by kernel_rfl
theorem ztb:Tryz.prog.stopsHeard=true:=by kernel_rfl
theorem zvL:Tryz.prog.mayEnter=true:=by kernel_rfl
theorem zuN:(Rows.fnSerialRow.lifted == Tryz.prog.liftsFinal)=true:=by kernel_rfl
theorem zuO:(Tryz.prog.make == some Rows.fnSerialRow.make)=true:=by kernel_rfl
end Go.Proofs.YtcnglfeoglgebaaGreat
namespace Go.Proofs.YtcnglfeoglgebaaGreat.fnSerial
open Go.ChangeShapes Go.WideShapes Go.ChangeAt Go.RowKit Go.Sh
theorem own:ownKnob Tryz.prog.godebug=none:=by kernel_rfl
theorem zuP:laidOutB Tryz.prog=true:=by kernel_rfl
set_option maxRecDepth 100000 in
theorem lifted (os:Os) (started:os.Started) (H:Type) (enc:TypeId×Value→H) :
    ReturnsInHanded {} Tryz.checked os 3 .any (Rows.fnSerialSpec.pre6 enc Tryz.prog Tryz.f3 Rows.fnSerialRow.domain false) (Rows.fnSerialSpec.post enc Tryz.prog Tryz.f3 false true false false):=by
  refine returnsInHanded_of_change (C:=Tryz.checked) own started (by kernel_rfl) Tryz.func3
    (ChangeSpec.witness6 (enc:=enc) (C:=Tryz.checked) false ⟨#[],#[.slice none 0 0],[]⟩ 8 (by kernel_rfl) (by kernel_rfl) (by kernel_rfl) (by kernel_rfl)) ?_
  intro W base args ds gs before hval0 hW hcnd _
  have hval:∀ (j:Nat) t v,Tryz.f3.params[j]?=some t→args[j]?=some v→Value.okWide Tryz.prog W .any base t v:=hval0
  have hW':=hW
  obtain ⟨p,q,hA0,hV,rfl,hfz,hnd⟩:=hW
  have hA:DataW.TrodAll enc Tryz.prog W 0 (fun _=>true) true Tryz.f3.params.toList args.toList ds p:=hA0
  rw [Tryz.params3] at hA hval
  obtain ⟨v0,vs0,d0,ds0,p0,q0,hargs,rfl,rfl,h0,r0⟩:=trodAll_cons hA
  obtain ⟨rfl,rfl,rfl⟩:=trodAll_nil r0
  obtain rfl:args=#[v0]:=by cases args;simp_all
  obtain ⟨rfl,rfl⟩:=trodVars_none hV
  have lt0:∀ x∈p0,x.block<W.heap.size:=by obtain ⟨m,hm⟩:=h0;exact DataW.trod_lt m _ _ _ hm
  obtain ⟨x0,i0⟩:=zmW (α:=UInt8) u22 zuK (hval 0 22 v0 rfl rfl) h0
  clear hA0 hval0
  obtain ⟨hcall⟩:=zrZ i0 (Ext.refl W)
  refine hcall.mono fun e W' ⟨v,he,bel,hv⟩=>?_
  subst he hv
  exact ⟨_,rfl,_,_,_,[],_,[],hW',trodAll_mk1 (shut_bool Tryz.underlying4 _),(trodAll_cons_mk (Below.trod zuP (by kernel_rfl) (of_decide_eq_true (by kernel_rfl)) h0 bel lt0) trodAll_mk0),rfl,bel.frame _,fun h=>by cases h⟩
theorem zr0:(Rows.fnSerialRow.inPlace == Tryz.prog.inPlace 3)=true:=by kernel_rfl
theorem zmC:(Rows.fnSerialRow.unfollowed == Tryz.prog.unfollowed 3)=true:=by kernel_rfl
theorem zpV:(Rows.fnSerialRow.recurses == Tryz.prog.recurses 3)=true:=by kernel_rfl
theorem zuQ:(Rows.fnSerialRow.named == Tryz.prog.varsNamed 3)=true:=by kernel_rfl
theorem closed:joinedFacts Tryz.prog 3 Tryz.f3 Rows.fnSerialSpec Rows.fnSerialRow=true:=by
 unfold joinedFacts
 exact (zbC (zbC (zbC (zbC (zbC (zbC (zbC (zbC (zbC (zbC (zbC (zbC (zbC (zbC (zbC (zbC (zbC (zbC (zbC (zbC (zbC (zbC (zbC (zbC (zbC (zbC (zbC (zbC (zbC (zbC (zbC (by kernel_rfl) zuL) zuM) (by kernel_rfl)) (by kernel_rfl)) (by kernel_rfl)) (by kernel_rfl)) (by kernel_rfl)) (by kernel_rfl)) zr0) zmC) zpV) zuQ) (by kernel_rfl)) (by kernel_rfl)) (by kernel_rfl)) (by kernel_rfl)) (by kernel_rfl)) (by kernel_rfl)) (by kernel_rfl)) (by kernel_rfl)) (by kernel_rfl)) zta) (by kernel_rfl)) ztb) zvL) zuN) zuO) (by kernel_rfl)) (by kernel_rfl)) (by kernel_rfl)) (by kernel_rfl))
theorem over:Rows.fnSerialRow.holds Tryz.pinned (OpenSpec.ofChange Rows.fnSerialSpec):=
 OpenClaim.holds_of_wide 3 Tryz.f3 rfl rfl rfl rfl rfl rfl rfl ⟨rfl,rfl,rfl,rfl,rfl⟩ rfl rfl rfl rfl rfl (by kernel_rfl) Tryz.func3 closed
   (of_decide_eq_true (by kernel_rfl)) (by unfold Func.isWrapper;first | (rw [if_pos (by decide +kernel)];kernel_rfl) | (rw [if_neg (by decide +kernel)];exact ⟨rfl,rfl⟩))
   (fun os started H enc _=>lifted os started H enc)
theorem proved:Rows.FnSerialSaid:=over
end Go.Proofs.YtcnglfeoglgebaaGreat.fnSerial
