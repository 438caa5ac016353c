/-
  Parts of the proof, put together by program.
-/
import Derived.Test.YtbnjpfjjmhodnaaGreatPFnOrders5
set_option linter.unusedVariables false
set_option linter.unusedSimpArgs false
set_option linter.unusedSectionVars false
namespace Go.Sh
open Rep (rep)
theorem ChgI.one {w w':World} {g:Nat} (h:ChgI g (g+1) w w'):Chg [g] w w':=⟨h.os,h.tape,h.output,h.size,fun b hb hn=>h.block b hb (by simp at hn;omega)⟩
theorem OwnI.chgF {α:Type} [Rep α] {w w':World} {lo hi:Nat} {v:Value} {x:α} {F:List Nat} (h:OwnI lo hi w v x) (hc:Chg F w w') (hd:∀ b∈F,b<lo∨hi≤b):OwnI lo hi w' v x:=by
 obtain ⟨G,hm,hG⟩:=h
 exact ⟨G,hm.keep fun b hb=>hc.block b (hm.lt b hb) fun hF=>by have:=hG b hb;have:=hd b hF;omega,hG⟩
theorem Blk.chgF {w w':World} {g e:Nat} {cs:List Value} {F:List Nat} (h:Blk g e w cs) (hc:Chg F w w') (hd:g∉F):Blk g e w' cs:=h.keep (hc.block g h.lt hd)
theorem Ext.chgF {w0 w w':World} {F:List Nat} (h:Ext w0 w) (hc:Chg F w w') (hd:∀ b∈F,w0.heap.size≤b):Ext w0 w':=
 ⟨hc.os.trans h.os,hc.tape.trans h.tape,hc.output.trans h.output,Nat.le_trans h.size hc.size,fun b hb=>(hc.block b (Nat.lt_of_lt_of_le hb h.size) fun hF=>by have:=hd b hF;omega).trans (h.block b hb)⟩
end Go.Sh
namespace Go.Proofs.YtbnjpfjjmhodnaaGreat
open Go Go.Sh Go.Proofs
open Rep (rep)
def F188 (a0 a1 a2:Value) (w:World) (R:VW):Prop:=
 rL 135 a1 w fun x4=>
 rX 135 x4 a0 w fun x6=>
 rL 4 x6 w fun x7=>
 rD (Op.unary .not x7) w fun x8=>
 BR x8
 (rL 135 a1 w fun x9=>
 rX 135 x9 a0 w fun x11=>
 oS 4 x11 (Value.bool true) w fun w=>
 oS 4 a2 (Value.bool true) w fun w=>
 R (Value.tuple #[]) w)
 (R (Value.tuple #[]) w)
def cfg188:Cfg:=⟨extL,[],[],[],[],[],[]⟩
theorem F188_call {a0 a1 a2:Value} {w:World} {R:VW} (h:F188 a0 a1 a2 w R):cL 188 [a0,a1,a2] w R:=co (g:=cfg188) Tryz.func188 (by kernel_rfl) (by kernel_rfl) (by kernel_rfl) h
def F119 (a0:Value) (w:World) (R:VW):Prop:=
 NIL a0 <|
 rF 180 a0 0 w fun x14=>
 rF 28 x14 4 w fun x15=>
 rL 26 x15 w fun x16=>
 rN 26 3 x16 w fun x17=>
 oP (Instr.makeSlice 135 x17 x17) w fun x18 w=>
 oP (Instr.alloc 135 true (.tuple #[])) w fun x3 w=>
 oS 135 x3 x18 w fun w=>
 NIL a0 <|
 rF 180 a0 5 w fun x21=>
 rL 3 x21 w fun x22=>
 cL 97 [x22] w fun x23 w=>
 rN 25 3 x23 w fun x24=>
 LOOPI [25] [(iV 0)] w fun u3 w next3=>
 rC (u3 25) x24 w fun x26=>
 BR x26
 (rX 25 x23 (u3 25) w fun x27=>
 rL 3 x27 w fun x28=>
 (fun w=>rL 135 x3 w fun x29=>
 NIL a0 <|
 rF 180 a0 0 w fun x32=>
 rF 28 x32 3 w fun x33=>
 rL 25 x33 w fun x34=>
 rX 25 x34 x28 w fun x36=>
 rL 3 x36 w fun x37=>
 rX 135 x29 x37 w fun x38=>
 oS 4 x38 (Value.bool true) w fun w=>
 rA (u3 25) (iV 1) w fun x39=>
 next3 [x39] w) (World.drew1 w))
 (oP (Instr.alloc 4 true (.tuple #[])) w fun x6 w=>
 oS 4 x6 (Value.bool true) w fun w=>
 LOOPI [6] [x6] w fun u8 w next8=>
 rL 4 (u8 6) w fun x40=>
 BR x40
 (oS 4 (u8 6) (Value.bool false) w fun w=>
 rD (Instr.makeFunc (Go.Fn.func 188) [].toArray [x3,(u8 6)].toArray) w fun x41=>
 NIL a0 <|
 rF 180 a0 0 w fun x44=>
 rF 28 x44 4 w fun x45=>
 rL 26 x45 w fun x46=>
 rN 26 3 x46 w fun x47=>
 LOOPI [48] [(iV 0)] w fun u12 w next12=>
 rC (u12 48) x47 w fun x49=>
 BR x49
 (rX 26 x46 (u12 48) w fun x51=>
 rL 77 x51 w fun x52=>
 oP (Instr.alloc 77 true (.tuple #[])) w fun x9 w=>
 oS 77 x9 x52 w fun w=>
 rL 135 x3 w fun x53=>
 rX 135 x53 (u12 48) w fun x55=>
 rL 4 x55 w fun x56=>
 rD (Op.unary .not x56) w fun x57=>
 BR x57
 (rA (u12 48) (iV 1) w fun x96=>
 next12 [x96] w)
 (JOIN [] (fun J18=>
 rF 77 x9 0 w fun x58=>
 rL 3 x58 w fun x59=>
 rB .eql 3 T0 U0 x59 (iV 4) w fun x60=>
 BR x60
 ((fun w=>NIL a0 <|
 rF 180 a0 0 w fun x64=>
 rF 28 x64 3 w fun x65=>
 rL 25 x65 w fun x66=>
 rF 77 x9 1 w fun x67=>
 rL 3 x67 w fun x68=>
 rX 25 x66 x68 w fun x69=>
 rL 3 x69 w fun x70=>
 OPN tp (zja x41 [x70]) w fun x71 w=>
 (fun w=>rL 135 x3 w fun x72=>
 NIL a0 <|
 rF 180 a0 0 w fun x75=>
 rL 28 x75 w fun x76=>
 rF 77 x9 1 w fun x77=>
 rL 3 x77 w fun x78=>
 (fun w_=>cL 132 [x76,x78] w_ fun x79 w=>
 Ext w_ w ∧
 rB .sub 3 T0 U0 x79 (iV 1) w fun x80=>
 rX 135 x72 x80 w fun x81=>
 rL 4 x81 w fun x82=>
 rD (Op.unary .not x82) w fun x83=>
 BR x83
 (rA (u12 48) (iV 1) w fun x96=>
 next12 [x96] w)
 (J18 [] w)) w) (World.drew1 w)) (World.drew1 w))
 (J18 [] w)) (fun u18 w=>
 cL 187 [a0,(u12 48)] w fun x86 w=>
 rN 25 3 x86 w fun x87=>
 LOOPI [88] [(iV 0)] w fun u19 w next19=>
 rC (u19 88) x87 w fun x89=>
 BR x89
 (rX 25 x86 (u19 88) w fun x90=>
 rL 3 x90 w fun x91=>
 OPN tp (zja x41 [x91]) w fun x94 w=>
 rA (u19 88) (iV 1) w fun x95=>
 next19 [x95] w)
 (rA (u12 48) (iV 1) w fun x96=>
 next12 [x96] w))))
 (rL 4 (u8 6) w fun x97=>
 oP (Instr.alloc 4 true (.tuple #[])) w fun x6 w=>
 oS 4 x6 x97 w fun w=>
 next8 [x6] w))
 (rL 135 x3 w fun x98=>
 R x98 w))
def cfg119:Cfg:=⟨extL,[(18,19342812825603690643587072,[])],[(3,1099478073376,[25]),(8,316912650057057349274664176576,[6]),(12,158456325028528393712111192832,[48]),(19,78918677504442992524819171328,[88])],[(5,[0,1,2,3,4,5,6,7,8,9,10],0),(16,[0,1,2,3,4,5,6,7,8,9,10],0),(17,[0,1,2,3,4,5,6,7,8,9,10,11],128)],[],[],[]⟩
theorem F119_call {a0:Value} {w:World} {R:VW} (h:F119 a0 w R):cL 119 [a0] w R:=co (g:=cfg119) Tryz.func119 (by kernel_rfl) (by kernel_rfl) (by kernel_rfl) h
open Rep (rep)
theorem zoh {P:Program} {f:Nat} {args caps:List Value} {w:World} {K:Value→World→Prop} (hE:zdZ P f=true) (h:CALL P f (args++caps) w K):OPN P (zja (.func (.func f) #[] caps.toArray) args) w K:=by
 obtain ⟨h⟩:=h
 refine .enter f (args++caps).toArray w ?_ h
 simp [zja,Deferred.ofValue,invoke,zd0 hE]
theorem zti:zdZ Tryz.prog 188=true:=by kernel_rfl
theorem ztj:zdZ Tryz.prog 186=true:=by kernel_rfl
theorem zvQ:zcn Tryz.prog 135=some [.slice none 0 0]:=by kernel_rfl
theorem zvR:zcn Tryz.prog 25=some [.slice none 0 0]:=by kernel_rfl
theorem zb9 {w:World} {lo hi:Nat} {u:Value} (h:u.oneCell'=true):OwnI lo hi w u (⟨u⟩:Raw):=⟨[],⟨⟨[u],⟨rfl,rfl,h⟩,rfl⟩,List.nodup_nil,Wr.nil _⟩,by simp⟩
theorem zhb {t by_:Nat} {z u:Value} {w:World} {K:Value→World→Prop} (hz:zcn Tryz.prog t=some [z]) (ht:tyI Tryz.prog t=some (1,by_,false)) (hu:u.oneCell'=true) (k:∀ w',Ext w w'→Blk w.heap.size t w' [u]→K (.pointer (some ⟨w.heap.size,0,none⟩)) w') :
   OP Tryz.prog (Instr.alloc t true (.tuple #[])) w fun p w1=>OPU Tryz.prog (Instr.storeAt t p u) w1 fun w2=>K p w2:=by
 refine zcU hz fun w1 hx1 hB1=>?_
 refine zbq (α:=Raw) (lo:=0) (hi:=0) ht rfl rfl hB1 (by simp) (zb9 hu) fun w2 hc2 hB2=>?_
 exact k w2 (hx1.chgI hc2 (Nat.le_refl _)) hB2
structure MW (w1 w:World) (gv g ga n:Nat) (ms:List Bool) (ag:Bool):Prop where
 ext:Ext w1 w
 var:Blk gv 135 w [.slice (some ⟨g,0,none⟩) n n]
 mks:Mine [g] w (.slice (some ⟨g,0,none⟩) n n) ms
 agn:Blk ga 4 w [.bool ag]
 n1:gv≠g
 n2:gv≠ga
 n3:g≠ga
 g0:w1.heap.size≤g
 g1:w1.heap.size≤gv
 g2:w1.heap.size≤ga
section
variable {w1 w w':World} {gv g ga n:Nat} {ms:List Bool} {ag:Bool}
theorem MW.step (h:MW w1 w gv g ga n ms ag) (hx:Ext w w'):MW w1 w' gv g ga n ms ag:=⟨h.ext.trans hx,h.var.ext hx,h.mks.ext hx,h.agn.ext hx,h.n1,h.n2,h.n3,h.g0,h.g1,h.g2⟩
theorem MW.mark {ms':List Bool} (h:MW w1 w gv g ga n ms ag) (hc:Chg [g] w w') (hm:Mine [g] w' (.slice (some ⟨g,0,none⟩) n n) ms'):MW w1 w' gv g ga n ms' ag:=
 ⟨h.ext.chgF hc (by simp [h.g0]),h.var.chgF hc (by simp [h.n1]),hm,h.agn.chgF hc (by simp [Ne.symm h.n3]),h.n1,h.n2,h.n3,h.g0,h.g1,h.g2⟩
theorem MW.agains {ag':Bool} (h:MW w1 w gv g ga n ms ag) (hc:Chg [ga] w w') (hB:Blk ga 4 w' [.bool ag']):MW w1 w' gv g ga n ms ag':=
 ⟨h.ext.chgF hc (by simp [h.g2]),h.var.chgF hc (by simp [h.n2]),h.mks.keep fun b hb=>by
   simp only [List.mem_cons,List.not_mem_nil,or_false] at hb;subst hb
   exact hc.block b (h.mks.lt b (by simp)) (by simp [h.n3]),hB,h.n1,h.n2,h.n3,h.g0,h.g1,h.g2⟩
theorem MW.cell {ga':Nat} {ag':Bool} (h:MW w1 w gv g ga n ms ag) (hx:Ext w w') (hB:Blk ga' 4 w' [.bool ag']) (hg:w.heap.size≤ga'):MW w1 w' gv g ga' n ms ag':=
 ⟨h.ext.trans hx,h.var.ext hx,h.mks.ext hx,hB,h.n1,by have:=h.var.lt;omega,by have:=h.mks.lt g (by simp);omega,h.g0,h.g1,by have:=h.ext.size;omega⟩
theorem zq1 {i:Nat} (h:MW w1 w gv g ga n ms ag) (hi:i<n) (hl:ms.length=n) :
   CALL Tryz.prog 188 [.int .i64 (i:Int),.pointer (some ⟨gv,0,none⟩),.pointer (some ⟨ga,0,none⟩)] w fun r w'=>r=.tuple #[]∧MW w1 w' gv g ga n (ms.set i true) (zuB ms i ag)∧Chg [g,ga] w w':=by
 refine F188_call ?_
 unfold F188
 refine zas zc6 h.var rfl ?_
 refine zac zdX ty4 h.mks.is (by rw [hl];exact hi) fun b1 o1 hA1=>?_
 refine za3 ty4 hA1 (Ext.refl _) ?_
 have hmk:=zbk (ms:=ms) (i:=i) (by rw [hl];exact hi)
 refine zaC ?_
 refine zbH (fun hf=>?_) (fun hf=>?_)
 · have hn:¬mkd ms i:=by rw [hmk];simpa using hf
   rw [zog hn]
   refine zas zc6 h.var rfl ?_
   refine zcL (α:=Bool) rfl zdX ty4 hi ?_
   refine zbP (α:=Bool) rfl ty4 h.mks hl hi zbf fun w2 hc2 hm2=>?_
   have h2:=h.mark hc2 hm2
   refine zbq (α:=Raw) (lo:=0) (hi:=0) ty4 rfl rfl h2.agn (by simp) (zb9 rfl) fun w3 hc3 hB3=>?_
   exact ⟨rfl,h2.agains hc3.one hB3,(hc2.mono (by simp)).trans (hc3.one.mono (by simp))⟩
 have hy:mkd ms i:=by rw [hmk];simpa using hf
 rw [zof hy,ziJ hy]
 exact ⟨rfl,h,Chg.refl _ _⟩
end
theorem ztk {w W0:World} {b:Nat} {c:DCode} (hW:WAt W0 b c) (e0:Ext W0 w) (hc:CodeR c) :
   CALL Tryz.prog 119 [.pointer (some ⟨b,0,none⟩)] w fun r w'=>Ext w w'∧Own w.heap.size w' r (zgJ c):=by
 refine F119_call ?_
 unfold F119
 have h8:=hc.1.procs8
 have hil:=hc.f.ins
 have hcode:=hW.wl.code
 refine NIL.mk rfl ?_
 refine zaa zcd ?_
 refine zaa zaR ?_
 refine zab zdz (zao hcode) e0 fun v16 h16=>?_
 refine zae u26 h16 ?_
 have hz0:=(zhw hc h8.2).2.2
 have hn:c.ins.length=c.ins.length:=rfl
 generalize hnn:c.ins.length=n at hn
 rw [hnn] at hil
 refine zeP (by omega) (by omega) fun w1 hx1 hM1=>?_
 have hs1:=hx1.size
 have hg1:=hM1.lt _ (List.mem_singleton.2 rfl)
 generalize hg:w.heap.size=g at *
 refine zhb zvQ zc6 rfl fun w2 hx2 hB2=>?_
 have hs2:=hx2.size
 have hM2:=hM1.ext hx2
 generalize hgv:w1.heap.size=gv at *
 refine NIL.mk rfl ?_
 refine zaa zp9 ?_
 refine zad ty3 hW.roots (e0.trans (hx1.trans hx2)) fun _=>?_
 have hrs:zgD c<256:=zdI h8.1
 refine (ziE (m:=zgD c) (by omega)).mono ?_
 rintro v23 w3 ⟨hx3,ho3⟩
 unfold zgD at ho3
 rw [zo5 (by omega)] at ho3
 have hL:∀ p,p∈zby c.procs.length (RootP c)↔RootP c p:=fun p=>by rw [zaw];exact ⟨fun h=>h.2,fun h=>⟨h.lt hc,h⟩⟩
 have hLl:(zby c.procs.length (RootP c)).length≤8:=Nat.le_trans zcC h8.1
 generalize zby c.procs.length (RootP c)=L at *
 have hs3:=hx3.size
 have hgv2:=hB2.lt
 refine zae u25 ho3.is ?_
 rw [zag]
 refine zat L.length (fun k us w'=>∃ ms,us=[.int .i64 (k:Int)]∧k≤L.length∧Ext w w'∧Blk gv 135 w' [.slice (some ⟨g,0,none⟩) n n]∧Mine [g] w' (.slice (some ⟨g,0,none⟩) n n) ms∧OwnI w2.heap.size w3.heap.size w' v23 (zaI L)∧ms.length=n∧(∀ i,mkd ms i→MetP c i)∧∀ p∈L.take k,mkd ms (eN c p)) 0 (Nat.zero_le _) ⟨_,rfl,Nat.zero_le _,hx1.trans (hx2.trans hx3),hB2.ext hx3,hM2.ext hx3,ho3.toI,by simp,fun i h=>absurd h zbx,by simp⟩ ?_
 rintro k mk u w4 hkm ⟨ms,hu,hkl,hx4,hB4,hM4,hO4,hl4,hsn4,hrt4⟩
 simp only [List.map_cons,List.map_nil,List.cons.injEq,and_true] at hu
 rw [hu]
 refine zah ?_
 refine br (fun hlt=>?_) (fun hge=>?_)
 · have hk:k<L.length:=by omega
   refine zac u25 ty3 (i:=k) hO4.is (by rw [zag];exact hk) fun b2 o2 hA2=>?_
   rw [zbb] at hA2
   refine zad ty3 hA2 (Ext.refl _) fun _=>?_
   have htk:=fun x=>zcO hk (x:=x)
   have hrp:=(hL L[k]).1 (List.getElem_mem hk)
   generalize L[k]=p at *
   have hpe:p<c.entry.length:=by rw [hc.2.1.1];exact hrp.lt hc
   obtain ⟨he1,he2,_⟩:=zhB hc hpe
   have hxd:=zak w4
   have hx5:=hx4.trans hxd
   have hB5:=hB4.ext hxd
   have hM5:=hM4.ext hxd
   have hO5:=hO4.ext hxd
   generalize World.drew1 w4=w5 at *
   refine zas zc6 hB5 rfl ?_
   refine NIL.mk rfl ?_
   refine zaa zcd ?_
   refine zaa za6 ?_
   refine zab zbG (zaq hcode) (e0.trans hx5) fun v34 h34=>?_
   refine zac u25 ty3 h34 hpe fun b5 o5 hA5=>?_
   rw [zbs hpe,he1] at hA5
   refine zad ty3 hA5 (e0.trans hx5) fun _=>?_
   refine zcL (α:=Bool) rfl zdX ty4 (by omega) ?_
   refine zbP (α:=Bool) rfl ty4 hM5 hl4 (by omega) zbf fun w6 hc6 hm6=>?_
   refine zaf (by omega) ?_
   refine ⟨mk-1,by omega,k+1,by omega,_,rfl,by omega,hx5.chgF hc6 (by simp [hg]),hB5.chgF hc6 (by simp;omega),hm6,hO5.chgF hc6 (by simp;omega),by simp [hl4],fun i hi=>?_,fun q hq=>?_⟩
   · rcases (zb3 (by rw [hl4];omega)).1 hi with h | h
     · exact hsn4 i h
     rw [h];exact .root hrp
   rcases (htk q).1 hq with h | h
   · exact zd9 (hrt4 q h)
   rw [h];exact (zb3 (by rw [hl4];omega)).2 (.inr rfl)
 have hrt:∀ p,RootP c p→mkd ms (eN c p):=fun p hp=>hrt4 p (by rw [List.take_of_length_le (by omega)];exact (hL p).2 hp)
 have hT:TP c ms false ms 0:=⟨by rw [hl4,hnn],hsn4,hrt,fun e=>(by cases e),fun _=>⟨rfl,fun i hi=>by omega⟩⟩
 clear hu hkm hO4 ho3
 refine zhb zt3 ty4 rfl fun w5 hx5 hB5=>?_
 have hs4:=hx4.size
 have hMW:MW w w5 gv g w4.heap.size n ms true:=⟨hx4.trans hx5,hB4.ext hx5,hM4.ext hx5,hB5,by omega,by have:=hB4.lt;omega,by have:=hM4.lt g (by simp);omega,by omega,by omega,by omega⟩
 generalize w4.heap.size=ga at *
 refine LOOPI.mk (fun m us w'=>∃ (ga:Nat) (ms:List Bool) (ag:Bool),us=[.pointer (some ⟨ga,0,none⟩)]∧m=(n-zhM ms)+(if ag then 1 else 0)∧MW w w' gv g ga n ms ag∧TP c ms false ms 0∧(ag=false→ms=zgJ c)) (n-zhM ms+1) ⟨ga,ms,true,rfl,rfl,hMW,hT,fun e=>by cases e⟩ ?_
 rintro m u w6 ⟨ga,ms,ag,hu,hm,hW6,hT6,hend⟩
 simp only [List.map_cons,List.map_nil,List.cons.injEq,and_true] at hu
 rw [hu]
 have hcn:=zfb ms
 rw [hT6.len,hnn] at hcn
 refine zas ty4 hW6.agn rfl ?_
 refine zbH (fun hag=>?_) (fun hag=>?_)
 case refine_2=>
   refine zas zc6 hW6.var rfl ?_
   rw [←hend hag]
   exact ⟨hW6.ext,[g],hW6.mks,fun b hb=>by simp only [List.mem_cons,List.not_mem_nil,or_false] at hb;omega⟩
 rw [hag,if_pos rfl] at hm
 refine zbq (α:=Raw) (lo:=0) (hi:=0) ty4 rfl rfl hW6.agn (by simp) (zb9 rfl) fun w7 hc7 hB7=>?_
 have hW7:=hW6.agains hc7.one hB7
 refine zaM (v:=.func (.func 188) #[] #[.pointer (some ⟨gv,0,none⟩),.pointer (some ⟨ga,0,none⟩)]) (fun w' _=>by simp [Instr.makeFunc]) ?_
 refine NIL.mk rfl ?_
 refine zaa zcd ?_
 refine zaa zaR ?_
 refine zab zdz (zao hcode) (e0.trans hW7.ext) fun v46 h46=>?_
 refine zae u26 h46 ?_
 rw [hnn]
 refine zat n (fun k us w'=>∃ (ms':List Bool) (ag':Bool),us=[.int .i64 (k:Int)]∧k≤n∧MW w w' gv g ga n ms' ag'∧TP c ms ag' ms' k) 0 (Nat.zero_le _) ⟨ms,false,rfl,Nat.zero_le _,hW7,hT6⟩ ?_
 rintro k mk u w8 hkm ⟨ms8,ag8,hu,hkl,hW8,hT8⟩
 simp only [List.map_cons,List.map_nil,List.cons.injEq,and_true] at hu
 rw [hu]
 refine zah ?_
 refine br (fun hlt=>?_) (fun hge=>?_)
 case refine_2=>
   have hke:k=n:=by omega
   rw [hke] at hT8
   refine zas ty4 hW8.agn rfl ?_
   refine zhb zt3 ty4 rfl fun w9 hx9 hB9=>?_
   have hcn8:=zfb ms8
   rw [hT8.len,hnn] at hcn8
   refine ⟨(n-zhM ms8)+(if ag8 then 1 else 0),?_,_,ms8,ag8,rfl,rfl,hW8.cell hx9 hB9 (Nat.le_refl _),hT8.again,fun e=>?_⟩
   · cases ag8 with
     | true=>have:=hT8.yes rfl;simp;omega
     | false=>rw [(hT8.no rfl).1];simp;omega
   rw [e,←hnn] at hT8
   exact hT8.fin hc
 have hk:k<n:=by omega
 have hkn:k<c.ins.length:=by omega
 have hl8:ms8.length=n:=by rw [hT8.len,hnn]
 refine zac u26 zec h46 hkn fun b3 o3 hA3=>?_
 rw [zaS] at hA3
 refine zab zec hA3 (e0.trans hW8.ext) fun v52 h52=>?_
 refine zcc zrK rfl zec rfl h52 (e0.trans hW8.ext) fun w9 hx9 hAI hV9=>?_
 have hW9:=hW8.step hx9
 have hAB9:=ze5 h52 hV9 rfl
 refine zas zc6 hW9.var rfl ?_
 refine zac zdX ty4 (i:=k) hW9.mks.is (by rw [hl8];exact hk) fun b4 o4 hA4=>?_
 refine za3 ty4 hA4 (Ext.refl _) ?_
 refine zaC ?_
 have hmk8:=zbk (ms:=ms8) (i:=k) (by rw [hl8];exact hk)
 refine zbH (fun hf=>?_) (fun hf=>?_)
 · have hnm:¬mkd ms8 k:=by rw [hmk8];simpa using hf
   refine zaf (by omega) ?_
   exact ⟨mk-1,by omega,k+1,by omega,ms8,ag8,rfl,by omega,hW9,hT8.next fun h=>absurd h hnm⟩
 have hym:mkd ms8 k:=by rw [hmk8];simpa using hf
 have hMk:=hT8.snd k hym
 refine JOIN.mk (fun us w'=>∃ (ms':List Bool) (ag':Bool),MW w w' gv g ga n ms' ag'∧TP c ms ag' ms' k∧((zam c k).op=4→mkd ms' (eN c (agN c k)))∧∀ j∈zaD c k,MetP c j) ?_ ?_
 · refine zaa zbM ?_
   refine zad ty3 (zax hAI) (Ext.refl _) fun _=>?_
   refine zai ?_
   refine br (fun c4=>?_) (fun c4=>?_)
   · obtain ⟨ha1,ha2⟩:=zff hc hkn (.inl c4)
     have hpe:agN c k<c.entry.length:=by rw [hc.2.1.1];exact ha2
     obtain ⟨he1,he2,_⟩:=zhB hc hpe
     obtain ⟨hz1,hz2,hz3⟩:=zhw hc ha2
     have hxd:=zak w9
     have hW10:=hW9.step hxd
     generalize World.drew1 w9=w10 at *
     refine NIL.mk rfl ?_
     refine zaa zcd ?_
     refine zaa za6 ?_
     refine zab zbG (zaq hcode) (e0.trans hW10.ext) fun v66 h66=>?_
     refine zaa zcW ?_
     refine zad ty3 (zaX hAI) hxd fun _=>?_
     rw [ha1]
     refine zac u25 ty3 h66 hpe fun b5 o5 hA5=>?_
     rw [zbs hpe,he1] at hA5
     refine zad ty3 hA5 (e0.trans hW10.ext) fun _=>?_
     refine zoh (args:=[_]) (caps:=[_,_]) zti ((zq1 (i:=eN c (agN c k)) hW10 (by omega) hl8).mono ?_)
     rintro _ w11 ⟨rfl,hW11,hc11⟩
     have hT11:=hT8.meet he2 (.call hMk c4)
     have hme:mkd (ms8.set (eN c (agN c k)) true) (eN c (agN c k)):=(zb3 (by rw [hl8];omega)).2 (.inr rfl)
     have hx12:=zak w11
     have hW12:=hW11.step hx12
     have hgI:w8.heap.size<w10.heap.size:=by have:=hV9.lt;have:=hxd.size;omega
     have hne:w8.heap.size∉[g,ga]:=by have h1:=hW8.mks.lt g (by simp);have h2:=hW8.agn.lt;simp;omega
     have hAI11:=(hAB9.ext hxd).keep (hc11.block _ hgI hne)
     have hAI12:=(hAI11.ext hx12).at (e0.trans hW12.ext)
     generalize World.drew1 w11=w12 at *
     refine zas zc6 hW12.var rfl ?_
     refine NIL.mk rfl ?_
     refine zaa zcd ?_
     refine zab zcF hcode (e0.trans hW12.ext) fun v76 h76=>?_
     refine zaa zcW ?_
     refine zad ty3 (zaX hAI12) (Ext.refl _) fun _=>?_
     rw [ha1]
     refine (zd5 h76 (e0.trans hW12.ext) (by omega)).mono ?_
     rintro _ w13 ⟨hx13,rfl⟩
     refine ⟨hx13,?_⟩
     have hW13:=hW12.step hx13
     rw [hz1]
     refine za4 (by unfold I64;omega) ?_
     rw [show ((zN c (agN c k)+1:Nat):Int)-1=(zN c (agN c k):Int) by omega]
     have hl13:(ms8.set (eN c (agN c k)) true).length=n:=by rw [List.length_set,hl8]
     generalize ms8.set (eN c (agN c k)) true=ms13 at *
     refine zac zdX ty4 (i:=zN c (agN c k)) hW13.mks.is (by rw [hl13];omega) fun b6 o6 hA6=>?_
     refine za3 ty4 hA6 (Ext.refl _) ?_
     refine zaC ?_
     have hmk13:=zbk (ms:=ms13) (i:=zN c (agN c k)) (by rw [hl13];omega)
     refine zbH (fun hf13=>?_) (fun hf13=>?_)
     · have hnm:¬mkd ms13 (zN c (agN c k)):=by rw [hmk13];simpa using hf13
       refine zaf (by omega) ?_
       exact ⟨mk-1,by omega,k+1,by omega,ms13,_,rfl,by omega,hW13,hT11.next fun _=>⟨fun _=>⟨hme,fun h=>absurd h hnm⟩,fun h=>absurd c4 h⟩⟩
     have hyz:mkd ms13 (zN c (agN c k)):=by rw [hmk13];simpa using hf13
     exact ⟨ms13,_,hW13,hT11,fun _=>hme,fun j hj=>.back hMk c4 (hT11.snd _ hyz) hj⟩
   exact ⟨ms8,ag8,hW9,hT8,fun h=>absurd h c4,fun j hj=>.next hMk c4 hj⟩
 rintro us w14 ⟨ms14,ag14,hW14,hT14,hc14,hnx⟩
 refine (ziB hcode (e0.trans hW14.ext) hc hkn).mono ?_
 rintro v86 w15 ⟨hx15,ho15⟩
 have hW15:=hW14.step hx15
 have hl2:=zfc c k
 have hnl:=fun {j:Nat} (hj:j∈zaD c k)=>(zdF hc hkn hj).1
 generalize hNx:zaD c k=N at *
 refine zae u25 ho15.is ?_
 rw [zag]
 refine zat N.length (fun q us w'=>∃ (ms':List Bool) (ag':Bool),us=[.int .i64 (q:Int)]∧q≤N.length∧MW w w' gv g ga n ms' ag'∧TP c ms ag' ms' k∧((zam c k).op=4→mkd ms' (eN c (agN c k)))∧(∀ j∈N.take q,mkd ms' j)∧OwnI w14.heap.size w15.heap.size w' v86 (zaI N)) 0 (Nat.zero_le _) ⟨ms14,ag14,rfl,Nat.zero_le _,hW15,hT14,hc14,by simp,ho15.toI⟩ ?_
 rintro q mq u w16 hqm ⟨ms16,ag16,hu,hql,hW16,hT16,hc16,hq16,hO16⟩
 simp only [List.map_cons,List.map_nil,List.cons.injEq,and_true] at hu
 rw [hu]
 refine zah ?_
 refine br (fun hlt=>?_) (fun hge=>?_)
 case refine_2=>
   refine zaf (by omega) ?_
   rw [List.take_of_length_le (by omega)] at hq16
   exact ⟨mk-1,by omega,k+1,by omega,ms16,ag16,rfl,by omega,hW16,hT16.next fun _=>⟨fun h4=>⟨hc16 h4,fun _=>hNx▸hq16⟩,fun _=>hNx▸hq16⟩⟩
 have hq:q<N.length:=by omega
 refine zac u25 ty3 (i:=q) hO16.is (by rw [zag];exact hq) fun b7 o7 hA7=>?_
 rw [zbb] at hA7
 refine zad ty3 hA7 (Ext.refl _) fun _=>?_
 have htq:=fun x=>zcO hq (x:=x)
 have hj:=List.getElem_mem hq
 have hjl:=hnl hj
 have hjm:=hnx _ hj
 generalize N[q]=j at *
 have hl16:ms16.length=n:=by rw [hT16.len,hnn]
 refine zoh (args:=[_]) (caps:=[_,_]) zti ((zq1 (i:=j) hW16 (by omega) hl16).mono ?_)
 rintro _ w17 ⟨rfl,hW17,hc17⟩
 refine zaf (by omega) ?_
 have hg14:=hW14.mks.lt g (by simp)
 have hga14:=hW14.agn.lt
 refine ⟨mq-1,by omega,q+1,by omega,_,_,rfl,by omega,hW17,hT16.meet hjl hjm,fun h4=>zd9 (hc16 h4),fun i hi=>?_,hO16.chgF hc17 (by simp;omega)⟩
 rcases (htq i).1 hi with h | h
 · exact zd9 (hq16 i h)
 rw [h];exact (zb3 (by rw [hl16];omega)).2 (.inr rfl)
abbrev Raw5:=Raw×Raw×Raw×Raw×Raw
theorem zlR {w:World} {lo hi:Nat} {a b c d e:Value} (ha:a.oneCell'=true) (hb:b.oneCell'=true) (hc:c.oneCell'=true) (hd:d.oneCell'=true) (he:e.oneCell'=true):OwnI lo hi w (.agg #[a,b,c,d,e]) ((⟨a⟩,⟨b⟩,⟨c⟩,⟨d⟩,⟨e⟩):Raw5):=by
 refine ⟨[],⟨⟨[a,b,c,d,e],?_,rfl⟩,List.nodup_nil,Wr.nil _⟩,by simp⟩
 have r:∀ {v:Value},v.oneCell'=true→rep [] w [v] (⟨v⟩:Raw):=fun h=>⟨rfl,rfl,h⟩
 exact zaF (F:=[]) (r ha) (zaF (F:=[]) (r hb) (zaF (F:=[]) (r hc) (zaF (F:=[]) (r hd) (r he))))
theorem zq2 {w:World} {v:Value} {p:DProg} (h:Is w v p):∃ c0 c1 c2,v=.agg #[c0,c1,c2]∧c0.oneCell'=true∧c1.oneCell'=true∧c2.oneCell'=true:=by
 obtain ⟨F,cs,hr,rfl⟩:=h
 have hone:=Rep.one hr
 obtain ⟨F1,F2,x1,x2,rfl,rfl,h1,F3,F4,x3,x4,rfl,rfl,h2,h3⟩:=hr
 have e1:∃ a,x1=[a]:=by obtain ⟨a,cap,Fi,xs,rfl,_⟩:=h1;exact ⟨_,rfl⟩
 have e2:∃ a,x3=[a]:=by obtain ⟨a,cap,Fi,xs,rfl,_⟩:=h2;exact ⟨_,rfl⟩
 have e3:∃ a,x4=[a]:=by obtain ⟨a,cap,Fi,xs,rfl,_⟩:=h3;exact ⟨_,rfl⟩
 obtain ⟨a1,rfl⟩:=e1
 obtain ⟨a2,rfl⟩:=e2
 obtain ⟨a3,rfl⟩:=e3
 exact ⟨a1,a2,a3,rfl,hone a1 (by simp),hone a2 (by simp),hone a3 (by simp)⟩
theorem zq3 {α:Type} [Rep α] (ha:Rep.agg α=false) {lo hi:Nat} {w:World} {v:Value} {x:α} (h:OwnI lo hi w v x):v.oneCell'=true:=by
 obtain ⟨F,⟨hm,_,_⟩,_⟩:=h
 exact Rep.one (zcV ha hm) v (by simp)
def cdQ (p:DProg) (g1:Nat) (w0:World):ParQ:=fun i u T w=>match i with
 | 0=>∃ a,u 11=.slice (some a) 0 0
 | 1=>u 12=.pointer (some ⟨g1,0+0,none⟩)
 | 2=>Is w0 (u 13) p.globals
 | 3=>OwnI (T 3).1 (T 3).2 w (u 14) p.globals
 | 4=>∃ a,u 15=.slice (some a) 0 0
 | 5=>u 16=.pointer (some ⟨g1,0+1,none⟩)
 | 6=>Is w0 (u 17) p.locks
 | 7=>OwnI (T 7).1 (T 7).2 w (u 18) p.locks
 | 8=>u 19=.agg #[u 14,u 18,.slice none 0 0,.slice none 0 0,.slice none 0 0]
 | 9=>∃ g,u 4=.pointer (some ⟨g,0,none⟩)∧(T 9).1≤g∧g<(T 9).2∧Blk g 28 w [.slice none 0 0,.slice none 0 0,.slice none 0 0,.slice none 0 0,.slice none 0 0]
 | _=>True
structure CdS (W:World) (p:DProg) (gk ge bs x2 l3 h3 l7 h7:Nat) (v14 v18 vp ve:Value) (N:List ByteArray) (E:List Int) (L:List DIns) (Fp Fe Fi:List Nat) (w:World):Prop where
 bk:Blk gk 28 w [v14,v18,vp,ve,.slice none 0 0]
 g:OwnI l3 h3 w v14 p.globals
 l:OwnI l7 h7 w v18 p.locks
 n:RowG Fp 9 w vp N
 e:RowG Fe 3 w ve E
 nn:Fp.Nodup
 en:Fe.Nodup
 em:EmF W ge p L Fi w
 x:Blk x2 28 w [.slice none 0 0,.slice none 0 0,.slice none 0 0,.slice none 0 0,.slice none 0 0]
 dpe:∀ c∈Fp,c∉Fe
 dpi:∀ c∈Fp,c∉Fi
 dei:∀ c∈Fe,c∉Fi
 bp:∀ c∈Fp,bs≤c
 be:∀ c∈Fe,bs≤c
 bi:∀ c∈Fi,bs≤c
section
variable {W:World} {p:DProg} {gk ge bs x2 l3 h3 l7 h7:Nat} {v14 v18 vp ve:Value} {N:List ByteArray} {E:List Int} {L:List DIns} {Fp Fe Fi:List Nat} {w w':World}
theorem zdJ {α:Type} [Rep α] {lo hi:Nat} {v:Value} {x:α} {S:List Nat} (h:OwnI lo hi w v x) (hc:Chg S w w') (hd:∀ c∈S,c<lo∨hi≤c):OwnI lo hi w' v x:=by
 obtain ⟨F,hm,hF⟩:=h
 exact ⟨F,hm.keep fun c hcm=>hc.block c (hm.lt c hcm) fun hs=>by have:=hF c hcm;have:=hd c hs;omega,hF⟩
theorem CdS.ext (h:CdS W p gk ge bs x2 l3 h3 l7 h7 v14 v18 vp ve N E L Fp Fe Fi w) (hx:Ext w w'):CdS W p gk ge bs x2 l3 h3 l7 h7 v14 v18 vp ve N E L Fp Fe Fi w':=
 ⟨h.bk.ext hx,h.g.ext hx,h.l.ext hx,h.n.keep fun c hc=>hx.heap (h.n.lt c hc),h.e.keep fun c hc=>hx.heap (h.e.lt c hc),h.nn,h.en,h.em.ext hx,h.x.ext hx,h.dpe,h.dpi,h.dei,h.bp,h.be,h.bi⟩
variable (ho:gk<bs∧ge<bs∧gk≠ge∧x2<bs∧x2≠gk∧x2≠ge∧h3≤bs∧h7≤bs∧(gk<l3∨h3≤gk)∧(gk<l7∨h7≤gk)∧(ge<l3∨h3≤ge)∧(ge<l7∨h7≤ge)∧W.heap.size≤gk∧W.heap.size≤ge)
include ho
theorem CdS.names (h:CdS W p gk ge bs x2 l3 h3 l7 h7 v14 v18 vp ve N E L Fp Fe Fi w) {vp':Value} {N':List ByteArray} {Fp':List Nat} (hc:Chg (gk :: Fp) w w') (hB:Blk gk 28 w' [v14,v18,vp',ve,.slice none 0 0])
   (hR:RowG Fp' 9 w' vp' N') (hn:Fp'.Nodup) (hs:∀ c∈Fp',c∈Fp∨w.heap.size≤c) (hb:bs≤w.heap.size):CdS W p gk ge bs x2 l3 h3 l7 h7 v14 v18 vp' ve N' E L Fp' Fe Fi w':=by
 have hlt:=h.em.lt
 have hS:∀ c∈gk :: Fp,c=gk∨bs≤c:=fun c hc=>by
   rcases List.mem_cons.1 hc with e | hc
   · exact .inl e
   exact .inr (h.bp c hc)
 refine ⟨hB,zdJ h.g hc fun c hcm=>by have:=hS c hcm;omega,zdJ h.l hc fun c hcm=>by have:=hS c hcm;omega,hR,h.e.keep fun c hcm=>hc.block c (h.e.lt c hcm) fun hm=>?_,hn,h.en,h.em.keep (fun c hcm=>hc.block c ?_ fun hm=>?_) (h.em.old.chgL hc fun c hcm=>?_),h.x.chg hc fun hm=>?_,fun c hcm hce=>?_,fun c hcm hci=>?_,h.dei,fun c hcm=>?_,h.be,h.bi⟩
 · rcases List.mem_cons.1 hm with e | hm
   · have:=h.be c hcm;omega
   exact h.dpe c hm hcm
 · rcases List.mem_cons.1 hcm with rfl | hcm
   · exact hlt.1
   exact hlt.2.1 c hcm
 · rcases List.mem_cons.1 hcm with e1 | hcm
   · rcases List.mem_cons.1 hm with e | hm
     · omega
     have:=h.bp c hm;omega
   rcases List.mem_cons.1 hm with e | hm
   · have:=h.bi c hcm;omega
   exact h.dpi c hm hcm
 · rcases List.mem_cons.1 hcm with e | hcm
   · omega
   have:=h.bp c hcm;omega
 · have:=hS _ hm;omega
 · rcases hs c hcm with k | k
   · exact h.dpe c k hce
   have:=h.e.lt c hce;omega
 · rcases hs c hcm with k | k
   · exact h.dpi c k hci
   have:=hlt.2.1 c hci;omega
 rcases hs c hcm with k | k
 · exact h.bp c k
 omega
theorem CdS.ents (h:CdS W p gk ge bs x2 l3 h3 l7 h7 v14 v18 vp ve N E L Fp Fe Fi w) {ve':Value} {E':List Int} {Fe':List Nat} (hc:Chg (gk :: Fe) w w') (hB:Blk gk 28 w' [v14,v18,vp,ve',.slice none 0 0])
   (hR:RowG Fe' 3 w' ve' E') (hn:Fe'.Nodup) (hs:∀ c∈Fe',c∈Fe∨w.heap.size≤c) (hb:bs≤w.heap.size):CdS W p gk ge bs x2 l3 h3 l7 h7 v14 v18 vp ve' N E' L Fp Fe' Fi w':=by
 have hlt:=h.em.lt
 have hS:∀ c∈gk :: Fe,c=gk∨bs≤c:=fun c hc=>by
   rcases List.mem_cons.1 hc with e | hc
   · exact .inl e
   exact .inr (h.be c hc)
 refine ⟨hB,zdJ h.g hc fun c hcm=>by have:=hS c hcm;omega,zdJ h.l hc fun c hcm=>by have:=hS c hcm;omega,h.n.keep fun c hcm=>hc.block c (h.n.lt c hcm) fun hm=>?_,hR,h.nn,hn,h.em.keep (fun c hcm=>hc.block c ?_ fun hm=>?_) (h.em.old.chgL hc fun c hcm=>?_),h.x.chg hc fun hm=>?_,fun c hcm hce=>?_,h.dpi,fun c hcm hci=>?_,h.bp,fun c hcm=>?_,h.bi⟩
 · rcases List.mem_cons.1 hm with e | hm
   · have:=h.bp c hcm;omega
   exact h.dpe c hcm hm
 · rcases List.mem_cons.1 hcm with rfl | hcm
   · exact hlt.1
   exact hlt.2.1 c hcm
 · rcases List.mem_cons.1 hcm with e1 | hcm
   · rcases List.mem_cons.1 hm with e | hm
     · omega
     have:=h.be c hm;omega
   rcases List.mem_cons.1 hm with e | hm
   · have:=h.bi c hcm;omega
   exact h.dei c hm hcm
 · rcases List.mem_cons.1 hcm with e | hcm
   · omega
   have:=h.be c hcm;omega
 · have:=hS _ hm;omega
 · rcases hs c hce with k | k
   · exact h.dpe c hcm k
   have:=h.n.lt c hcm;omega
 · rcases hs c hcm with k | k
   · exact h.dei c k hci
   have:=hlt.2.1 c hci;omega
 rcases hs c hcm with k | k
 · exact h.be c k
 omega
theorem CdS.ems (h:CdS W p gk ge bs x2 l3 h3 l7 h7 v14 v18 vp ve N E L Fp Fe Fi w) {L':List DIns} {Fi':List Nat} (hc:Chg (ge :: Fi) w w') (hE:EmF W ge p L' Fi' w') (hs:∀ c∈Fi',c∈Fi∨w.heap.size≤c) (hb:bs≤w.heap.size) :
   CdS W p gk ge bs x2 l3 h3 l7 h7 v14 v18 vp ve N E L' Fp Fe Fi' w':=by
 have hS:∀ c∈ge :: Fi,c=ge∨bs≤c:=fun c hc=>by
   rcases List.mem_cons.1 hc with e | hc
   · exact .inl e
   exact .inr (h.bi c hc)
 refine ⟨h.bk.chg hc fun hm=>?_,zdJ h.g hc fun c hcm=>by have:=hS c hcm;omega,zdJ h.l hc fun c hcm=>by have:=hS c hcm;omega,h.n.keep fun c hcm=>hc.block c (h.n.lt c hcm) fun hm=>?_,h.e.keep fun c hcm=>hc.block c (h.e.lt c hcm) fun hm=>?_,h.nn,h.en,hE,h.x.chg hc fun hm=>?_,h.dpe,fun c hcm hci=>?_,fun c hcm hci=>?_,h.bp,h.be,fun c hcm=>?_⟩
 · have:=hS _ hm;omega
 · rcases List.mem_cons.1 hm with e | hm
   · have:=h.bp c hcm;omega
   exact h.dpi c hcm hm
 · rcases List.mem_cons.1 hm with e | hm
   · have:=h.be c hcm;omega
   exact h.dei c hcm hm
 · have:=hS _ hm;omega
 · rcases hs c hci with k | k
   · exact h.dpi c hcm k
   have:=h.n.lt c hcm;omega
 · rcases hs c hci with k | k
   · exact h.dei c hcm k
   have:=h.e.lt c hcm;omega
 rcases hs c hcm with k | k
 · exact h.bi c k
 omega
end
theorem zsv {G L P:List ByteArray} {l:List DProc} {k:Nat} (hk:k<l.length) (a:Nat):emP G L P (l.drop k) a=emL G L P l[k].body a++(ztV :: emP G L P (l.drop (k+1)) (a+(emL G L P l[k].body a).length+1)):=by
 rw [List.drop_eq_getElem_cons hk,emP]
theorem zq4 {G L P:List ByteArray} {l:List DProc} {k:Nat} (hk:k<l.length) (a:Nat):zlv G L P (l.drop k) a=(a:Int) :: zlv G L P (l.drop (k+1)) (a+(emL G L P l[k].body a).length+1):=by
 rw [List.drop_eq_getElem_cons hk,zlv]
theorem ziL {α:Type} [Rep α] {e:TypeId} {F:List Nat} {w:World} {v:Value} {l:List α} (h:RowG F e w v l) (hn:F.Nodup):Mine F w v l:=⟨h.own,hn,h.wr⟩
def F96 (a0:Value) (w:World) (R:VW):Prop:=
 oP (Instr.box 112 a0) w fun x1 w=>
 oP (Instr.alloc 28 true (.tuple #[])) w fun x2 w=>
 rL 112 x1 w fun x7=>
 cL 158 [x7] w fun x8 w=>
 rB .neq 3 T0 U0 x8 (iV 0) w fun x9=>
 BR x9
 (rD (Instr.build 28 #[]) w fun x10=>
 oS 28 x2 x10 w fun w=>
 rD (za2 28 x2) w fun r2=>R (Value.tuple #[r2,(Value.bool false)]) w)
 ((fun w0=>PAR w0 [[(0,11)],[(1,12)],[(2,13),(1,12)],[(3,14),(0,11),(2,13)],[(4,15)],[(5,16)],[(6,17),(5,16)],[(7,18),(4,15),(6,17),(3,14)],[(8,19),(3,14),(7,18)],[(9,4)]] (fun Q=>
 (∀ (u3:Env) (T:Nat→Nat×Nat) (w:World),Ext w0 w→zbh [] w0.heap.size w.heap.size T→(True)→(fun w1=>oP (Instr.buildSlice 24 0 #[]) w fun x11 w=>
 Ext w1 w∧Q 0 (upd u3 11 x11) (zcR T 0 (w1.heap.size,w.heap.size)) w) w) ∧
 (∀ (u3:Env) (T:Nat→Nat×Nat) (w:World),Ext w0 w→zbh [] w0.heap.size w.heap.size T→(True)→(fun w1=>rF 112 x1 0 w fun x12=>
 Ext w1 w∧Q 1 (upd u3 12 x12) (zcR T 1 (w1.heap.size,w.heap.size)) w) w) ∧
 (∀ (u3:Env) (T:Nat→Nat×Nat) (w:World),Ext w0 w→zbh [1] w0.heap.size w.heap.size T→(Q 1 u3 T w∧True)→(fun w1=>rL 24 (u3 12) w fun x13=>
 Ext w1 w∧Q 2 (upd u3 13 x13) (zcR T 2 (w1.heap.size,w.heap.size)) w) w) ∧
 (∀ (u3:Env) (T:Nat→Nat×Nat) (w:World),Ext w0 w→zbh [0,2] w0.heap.size w.heap.size T→(Q 0 u3 T w∧Q 2 u3 T w∧True)→(fun w1=>oP (Builtin.append_ #[24,24] 24 [(u3 11),(u3 13)].toArray) w fun x14 w=>
 Ext w1 w∧Q 3 (upd u3 14 x14) (zcR T 3 (w1.heap.size,w.heap.size)) w) w) ∧
 (∀ (u3:Env) (T:Nat→Nat×Nat) (w:World),Ext w0 w→zbh [] w0.heap.size w.heap.size T→(True)→(fun w1=>oP (Instr.buildSlice 24 0 #[]) w fun x15 w=>
 Ext w1 w∧Q 4 (upd u3 15 x15) (zcR T 4 (w1.heap.size,w.heap.size)) w) w) ∧
 (∀ (u3:Env) (T:Nat→Nat×Nat) (w:World),Ext w0 w→zbh [] w0.heap.size w.heap.size T→(True)→(fun w1=>rF 112 x1 1 w fun x16=>
 Ext w1 w∧Q 5 (upd u3 16 x16) (zcR T 5 (w1.heap.size,w.heap.size)) w) w) ∧
 (∀ (u3:Env) (T:Nat→Nat×Nat) (w:World),Ext w0 w→zbh [5] w0.heap.size w.heap.size T→(Q 5 u3 T w∧True)→(fun w1=>rL 24 (u3 16) w fun x17=>
 Ext w1 w∧Q 6 (upd u3 17 x17) (zcR T 6 (w1.heap.size,w.heap.size)) w) w) ∧
 (∀ (u3:Env) (T:Nat→Nat×Nat) (w:World),Ext w0 w→zbh [4,6,3] w0.heap.size w.heap.size T→(Q 4 u3 T w∧Q 6 u3 T w∧Q 3 u3 T w∧True)→(fun w1=>oP (Builtin.append_ #[24,24] 24 [(u3 15),(u3 17)].toArray) w fun x18 w=>
 Ext w1 w∧Q 7 (upd u3 18 x18) (zcR T 7 (w1.heap.size,w.heap.size)) w) w) ∧
 (∀ (u3:Env) (T:Nat→Nat×Nat) (w:World),Ext w0 w→zbh [3,7] w0.heap.size w.heap.size T→(Q 3 u3 T w∧Q 7 u3 T w∧True)→(fun w1=>rD (Instr.build 28 #[(0,(u3 14)),(1,(u3 18))]) w fun x19=>
 Ext w1 w∧Q 8 (upd u3 19 x19) (zcR T 8 (w1.heap.size,w.heap.size)) w) w) ∧
 (∀ (u3:Env) (T:Nat→Nat×Nat) (w:World),Ext w0 w→zbh [] w0.heap.size w.heap.size T→(True)→(fun w1=>oP (Instr.alloc 28 true (.tuple #[])) w fun x4 w=>
 Ext w1 w∧Q 9 (upd u3 4 x4) (zcR T 9 (w1.heap.size,w.heap.size)) w) w) ∧
 True)
 (fun Q=>∀ (u3:Env) (T:Nat→Nat×Nat) (w:World),Ext w0 w→zbh [0,1,2,3,4,5,6,7,8,9] w0.heap.size w.heap.size T→(Q 0 u3 T w∧Q 1 u3 T w∧Q 2 u3 T w∧Q 3 u3 T w∧Q 4 u3 T w∧Q 5 u3 T w∧Q 6 u3 T w∧Q 7 u3 T w∧Q 8 u3 T w∧Q 9 u3 T w∧True) →
 oS 28 (u3 4) (u3 19) w fun w=>
 rL 112 x1 w fun x20=>
 rD (Instr.build 169 #[(0,x20)]) w fun x21=>
 oP (Instr.box 169 x21) w fun x22 w=>
 LOOPI [6] [(iV 0)] w fun u6 w next6=>
 rF 112 x1 2 w fun x24=>
 rL 110 x24 w fun x25=>
 rN 110 3 x25 w fun x26=>
 rC (u6 6) x26 w fun x27=>
 BR x27
 ((fun w=>rF 28 (u3 4) 2 w fun x30=>
 rL 24 x30 w fun x31=>
 rF 112 x1 2 w fun x32=>
 rL 110 x32 w fun x33=>
 rX 110 x33 (u6 6) w fun x35=>
 rF 164 x35 0 w fun x36=>
 rL 9 x36 w fun x37=>
 (fun w_=>oP (Instr.buildSlice 24 1 #[(0,x37)]) w_ fun x38 w=>
 Ext w_ w ∧
 (oP (Builtin.append_ #[24,24] 24 [x31,x38].toArray) w fun x39 w=>
 rF 28 (u3 4) 2 w fun x40=>
 oS 24 x40 x39 w fun w=>
 (fun w=>rF 28 (u3 4) 3 w fun x41=>
 rL 25 x41 w fun x42=>
 NIL x22 <|
 rF 169 x22 1 w fun x45=>
 rL 26 x45 w fun x46=>
 rN 26 3 x46 w fun x47=>
 (fun w_=>oP (Instr.buildSlice 25 1 #[(0,x47)]) w_ fun x48 w=>
 Ext w_ w ∧
 (oP (Builtin.append_ #[25,25] 25 [x42,x48].toArray) w fun x49 w=>
 rF 28 (u3 4) 3 w fun x50=>
 oS 25 x50 x49 w fun w=>
 rF 112 x1 2 w fun x52=>
 rL 110 x52 w fun x53=>
 rX 110 x53 (u6 6) w fun x55=>
 rF 164 x55 1 w fun x56=>
 rL 162 x56 w fun x57=>
 cL 159 [x22,x57] w fun x58 w=>
 rD (Instr.build 77 #[(0,(iV 9))]) w fun x60=>
 cL 160 [x22,x60] w fun x61 w=>
 rA (u6 6) (iV 1) w fun x29=>
 next6 [x29] w)) w) (World.drew1 w))) w) (World.drew1 w))
 (NIL x22 <|
 rF 169 x22 1 w fun x64=>
 rL 26 x64 w fun x65=>
 rF 28 (u3 4) 4 w fun x66=>
 oS 26 x66 x65 w fun w=>
 rL 28 (u3 4) w fun x67=>
 oS 28 x2 x67 w fun w=>
 rD (za2 28 x2) w fun r2=>R (Value.tuple #[r2,(Value.bool true)]) w))) (World.drew1 w))
def cfg96:Cfg:=⟨extL,[],[(6,4611686018418999360,[6])],[(8,[0,1,2,3,4,5,6,7,8,9,10,11],256),(9,[0,1,2,3,4,5,6,7,8,9,10],128)],[(3,1046544,10)],[],[]⟩
theorem F96_call {a0:Value} {w:World} {R:VW} (h:F96 a0 w R):cL 96 [a0] w R:=co (g:=cfg96) Tryz.func96 (by kernel_rfl) (by kernel_rfl) (by kernel_rfl) h
open Rep (rep)
theorem zkB {w W:World} {v:Value} {p:DProg} (h:Is W v p) (e:Ext W w) (hp:ProgR p) :
   CALL Tryz.prog 96 [v] w fun r w'=>Ext w w'∧∃ a,r=.tuple #[a,.bool true]∧OwnI w.heap.size w'.heap.size w' a (zck p):=by
 have hcl:=(zjA hp).2
 obtain ⟨f1,f2,f3,f4⟩:=hp.facts
 refine F96_call ?_
 unfold F96
 refine zbS h e fun w1 hx1 hA=>?_
 have hs1:=hx1.size
 refine zcU ztI fun w2 hx2 hB2=>?_
 have hs2:=hx2.size
 have hg2:=hB2.lt
 refine zab ze3 hA hx2 fun v7 h7=>?_
 refine (zlA h7 hx2 hp).mono ?_
 rintro _ w3 ⟨hx3,rfl⟩
 have hs3:=hx3.size
 refine zaW ?_
 refine br (fun hc=>absurd rfl hc) (fun _=>?_)
 have hx13:=hx2.trans hx3
 have hx4:=zak w3
 have hs4:=hx4.size
 generalize World.drew1 w3=w4 at *
 have hx14:=hx13.trans hx4
 have hg1:w.heap.size<w1.heap.size:=by
   obtain ⟨F,cs,hr,hr2⟩:=hA
   exact zgL hr2 (by rw [Rep.len hr];decide)
 refine PAR.mk (cdQ p w.heap.size w4) ?_ ?_ ?_
 · intro i u u' T T' wa wb hxa hxb hd hq
   match i,hd,hq with
   | 0,hd,⟨a,hq⟩=>exact ⟨a,(hd (0,11) (by decide)).1.trans hq⟩
   | 1,hd,hq=>exact (hd (1,12) (by decide)).1.trans hq
   | 2,hd,hq=>have:=(hd (2,13) (by decide)).1;show Is _ (u' 13) _;simp only [this];exact hq
   | 3,hd,hq=>
     obtain ⟨e1,e2⟩:=hd (3,14) (by decide)
     simp only at e1 e2
     show OwnI (T' 3).1 (T' 3).2 wb (u' 14) p.globals
     rw [e1,e2];exact OwnI.ext hq hxb
   | 4,hd,⟨a,hq⟩=>exact ⟨a,(hd (4,15) (by decide)).1.trans hq⟩
   | 5,hd,hq=>exact (hd (5,16) (by decide)).1.trans hq
   | 6,hd,hq=>have:=(hd (6,17) (by decide)).1;show Is _ (u' 17) _;simp only [this];exact hq
   | 7,hd,hq=>
     obtain ⟨e1,e2⟩:=hd (7,18) (by decide)
     simp only at e1 e2
     show OwnI (T' 7).1 (T' 7).2 wb (u' 18) p.locks
     rw [e1,e2];exact OwnI.ext hq hxb
   | 8,hd,hq=>
     have e1:=(hd (8,19) (by decide)).1
     have e2:=(hd (3,14) (by decide)).1
     have e3:=(hd (7,18) (by decide)).1
     simp only at e1 e2 e3
     show u' 19=.agg #[u' 14,u' 18,.slice none 0 0,.slice none 0 0,.slice none 0 0]
     rw [e1,e2,e3];exact hq
   | 9,hd,⟨g,q1,q2,q3,q4⟩=>
     obtain ⟨e1,e2⟩:=hd (9,4) (by decide)
     simp only at e1 e2
     exact ⟨g,e1.trans q1,by rw [e2];exact q2,by rw [e2];exact q3,q4.ext hxb⟩
   | n+10,_,_=>trivial
 · refine ⟨fun u T w' hx _ _=>?_,fun u T w' hx _ _=>?_,fun u T w' hx _ hp'=>?_,fun u T w' hx _ hp'=>?_,fun u T w' hx _ _=>?_,fun u T w' hx _ _=>?_,fun u T w' hx _ hp'=>?_,fun u T w' hx _ hp'=>?_,fun u T w' hx _ hp'=>?_,fun u T w' hx _ _=>?_,trivial⟩
   · exact za1 (α:=ByteArray) u24 ty9 fun a w5 hx5 _=>⟨hx5,a,rfl⟩
   · exact zaa zgO ⟨Ext.refl _,rfl⟩
   · have q0:u 12=_:=hp'.1
     rw [q0]
     exact zab zc5 (zel hA) (hx14.trans hx) fun v6 h6=>⟨Ext.refl _,h6.ext hx14⟩
   · obtain ⟨a,q0⟩:∃ a,u 11=.slice (some a) 0 0:=hp'.1
     have q1:Is _ (u 13) p.globals:=hp'.2.1
     rw [q0]
     exact zjC (α:=ByteArray) u24 ty9 zc9 q1 hx (by rw [hp.g,zan];decide) (by rw [hp.g];decide) fun v5 w5 hx5 r5=>⟨hx5,r5.own⟩
   · exact za1 (α:=ByteArray) u24 ty9 fun a w5 hx5 _=>⟨hx5,a,rfl⟩
   · exact zaa zh5 ⟨Ext.refl _,rfl⟩
   · have q0:u 16=_:=hp'.1
     rw [q0]
     exact zab zc5 (zfn hA) (hx14.trans hx) fun v6 h6=>⟨Ext.refl _,h6.ext hx14⟩
   · obtain ⟨a,q0⟩:∃ a,u 15=.slice (some a) 0 0:=hp'.1
     have q1:Is _ (u 17) p.locks:=hp'.2.1
     rw [q0]
     exact zjC (α:=ByteArray) u24 ty9 zc9 q1 hx (by rw [hp.l,zan];decide) (by rw [hp.l];decide) fun v5 w5 hx5 r5=>⟨hx5,r5.own⟩
   · have o1:OwnI _ _ _ (u 14) p.globals:=hp'.1
     have o2:OwnI _ _ _ (u 18) p.locks:=hp'.2.1
     obtain ⟨a,n,cap,q1⟩:=zlG o1
     obtain ⟨a',n',cap',q1'⟩:=zlG o2
     rw [q1,q1']
     refine zaQ (cells:=#[.slice a n cap,.slice a' n' cap',.slice none 0 0,.slice none 0 0,.slice none 0 0]) (by kernel_rfl) ⟨Ext.refl _,?_⟩
     show _=Value.agg #[u 14,u 18,.slice none 0 0,.slice none 0 0,.slice none 0 0]
     rw [q1,q1'];rfl
   exact zcU ztI fun w5 hx5 hB=>⟨hx5,w'.heap.size,rfl,Nat.le_refl _,hB.lt,hB⟩
 rintro u T w5 hx5 hap ⟨-,-,-,o14,-,-,-,o18,q19,⟨gk,q4,hgk0,hgk1,hB5⟩,-⟩
 have o14:OwnI (T 3).1 (T 3).2 w5 (u 14) p.globals:=o14
 have o18:OwnI (T 7).1 (T 7).2 w5 (u 18) p.locks:=o18
 have q19:u 19=.agg #[u 14,u 18,.slice none 0 0,.slice none 0 0,.slice none 0 0]:=q19
 have t3:=hap.1 3 (by decide)
 have t7:=hap.1 7 (by decide)
 have t9:=hap.1 9 (by decide)
 have d37:=hap.2 3 (by decide) 7 (by decide) (by decide)
 have d39:=hap.2 3 (by decide) 9 (by decide) (by decide)
 have d79:=hap.2 7 (by decide) 9 (by decide) (by decide)
 have hs5:=hx5.size
 obtain ⟨l3,hl3⟩:∃ x,(T 3).1=x:=⟨_,rfl⟩
 obtain ⟨h3,hh3⟩:∃ x,(T 3).2=x:=⟨_,rfl⟩
 obtain ⟨l7,hl7⟩:∃ x,(T 7).1=x:=⟨_,rfl⟩
 obtain ⟨h7,hh7⟩:∃ x,(T 7).2=x:=⟨_,rfl⟩
 rw [hl3,hh3] at o14 t3 d37 d39
 rw [hl7,hh7] at o18 t7 d37 d79
 generalize u 14=v14 at *
 generalize u 18=v18 at *
 rw [q19,q4]
 have one14:=zq3 rfl o14
 have one18:=zq3 rfl o18
 refine zdD (α:=Raw5) (x:=(⟨v14⟩,⟨v18⟩,⟨.slice none 0 0⟩,⟨.slice none 0 0⟩,⟨.slice none 0 0⟩)) (lo:=0) (hi:=0) zcF rfl hB5 rfl (zlR one14 one18 rfl rfl rfl) fun w6 hc6 hB6=>?_
 have hs6:=hc6.size
 have hx16:Ext w1 w6:=Ext.chgI (hx14.trans hx5) hc6 (by omega)
 refine zab ze3 hA hx16 fun v20 h20=>?_
 obtain ⟨c0,c1,c2,rfl,one0,one1,one2⟩:=zq2 h20
 refine zaQ (cells:=#[c0,c1,c2,.slice none 0 0]) (by kernel_rfl) ?_
 refine zkm fun w7 hx7 hB7=>?_
 have hs7:=hx7.size
 have hg7:=hB7.lt
 have hE7:EmF w1 w6.heap.size p [] [] w7:=by
   refine ⟨c0,c1,c2,.slice none 0 0,h20,⟨[c0,c1,c2,.slice none 0 0],?_,hB7.range,List.nodup_nil,Wr.nil _,by simp,_,_,hB7⟩,hx16.trans hx7,by omega,by simp⟩
   have r:∀ {v:Value},v.oneCell'=true→rep [] w7 [v] (⟨v⟩:Raw):=fun h=>⟨rfl,rfl,h⟩
   exact zaF (F:=[]) (r one0) (zaF (F:=[]) (r one1) (zaF (F:=[]) (r one2) (show rep [] w7 [Value.slice none 0 0] (⟨.slice none 0 0,[]⟩:RIns) from ⟨rfl,.inl ⟨none,rfl,rfl,rfl⟩⟩)))
 have hord:gk<w7.heap.size∧w6.heap.size<w7.heap.size∧gk≠w6.heap.size∧w1.heap.size<w7.heap.size∧w1.heap.size≠gk∧w1.heap.size≠w6.heap.size∧h3≤w7.heap.size∧h7≤w7.heap.size∧(gk<l3∨h3≤gk)∧(gk<l7∨h7≤gk) ∧
     (w6.heap.size<l3∨h3≤w6.heap.size)∧(w6.heap.size<l7∨h7≤w6.heap.size)∧w1.heap.size≤gk∧w1.heap.size≤w6.heap.size:=by omega
 have hS7:CdS w1 p gk w6.heap.size w7.heap.size w1.heap.size l3 h3 l7 h7 v14 v18 (.slice none 0 0) (.slice none 0 0) [] [] [] [] [] [] w7:=
   ⟨hB6.ext hx7,(o14.chg hc6 (by omega)).ext hx7,(o18.chg hc6 (by omega)).ext hx7,.inl ⟨none,rfl,rfl,rfl⟩,.inl ⟨none,rfl,rfl,rfl⟩,List.nodup_nil,List.nodup_nil,hE7,((((hB2.ext hx3).ext hx4).ext hx5).chgI hc6 (by omega)).ext hx7,by simp,by simp,by simp,by simp,by simp,by simp⟩
 generalize hge:w6.heap.size=ge at *
 generalize hbs:w7.heap.size=bs at *
 obtain ⟨G,hG⟩:∃ G,G=p.globals:=⟨_,rfl⟩
 obtain ⟨Lk,hLk⟩:∃ G,G=p.locks:=⟨_,rfl⟩
 obtain ⟨Pn,hPn⟩:∃ G,G=p.procs.map DProc.name:=⟨_,rfl⟩
 have hcd:zck p=⟨G,Lk,Pn,zlv G Lk Pn p.procs 0,emP G Lk Pn p.procs 0⟩:=by rw [hG,hLk,hPn];rfl
 refine zat p.procs.length (fun k us w'=>us=[.int .i64 (k:Int)]∧∃ vp ve E L Fp Fe Fi,k≤p.procs.length∧E.length=k∧CdS w1 p gk ge bs w1.heap.size l3 h3 l7 h7 v14 v18 vp ve ((p.procs.take k).map DProc.name) E L Fp Fe Fi w'∧bs≤w'.heap.size ∧
     zlv G Lk Pn p.procs 0=E++zlv G Lk Pn (p.procs.drop k) L.length∧emP G Lk Pn p.procs 0=L++emP G Lk Pn (p.procs.drop k) L.length) 0 (Nat.zero_le _)
     ⟨rfl,_,_,[],[],[],[],[],Nat.zero_le _,rfl,by simpa using hS7,by omega,by simp,by simp⟩ ?_
 rintro k m uu w8 hkm ⟨hu,vp,ve,E,L,Fp,Fe,Fi,hkl,hEl,hS8,hb8,hent,hem⟩
 simp only [List.map_cons,List.map_nil,List.cons.injEq,and_true] at hu
 rw [hu]
 have hx18:=hS8.em.old
 refine zaa zcG ?_
 refine zab zfR (zbm hA) hx18 fun v25 h25=>?_
 refine zae znO h25 ?_
 refine zah ?_
 have hLl:L.length≤436:=by
   have h1:=congrArg List.length hem
   have h2:(zck p).ins.length=(emP G Lk Pn p.procs 0).length:=by rw [hcd]
   rw [List.length_append] at h1
   omega
 refine br (fun hlt=>?_) (fun hge'=>?_)
 · have hk:k<p.procs.length:=by omega
   have hbody:=hp.b _ (List.getElem_mem hk)
   rw [zq4 hk] at hent
   rw [zsv hk] at hem
   have hx9:=zak w8
   have hS9:=hS8.ext hx9
   have hs9:=hx9.size
   generalize World.drew1 w8=w9 at *
   have hx19:=hx18.trans hx9
   refine zaa zcJ ?_
   refine zas zc5 hS9.bk rfl ?_
   refine zaa zcG ?_
   refine zab zfR (zbm hA) hx19 fun v33 h33=>?_
   refine zac znO zld h33 hk fun b35 o35 hA35=>?_
   refine zaa zj4 ?_
   refine zar ty9 (zfm hA35) hx19 fun hS37=>?_
   have hnl:((p.procs.take k).map DProc.name).length=k:=by rw [List.length_map,List.length_take];omega
   refine zgn (β:=ByteArray) (G:=Fp) u24 ty9 z9 zc9 (by decide) hS9.n hS9.nn (zn1 hS37) (by simp) (by rw [zan,hnl];omega) (by rw [hnl];omega) (fun w10 v39 w11 Fp' hx10 hc11 hR11 hN11 hs11=>?_) fun s' w' hx' h'=>⟨hx',h'⟩
   have hs10:=hx10.size
   have hs11':=hc11.size
   have hgkF:gk∉Fp:=fun hm=>by have:=hS9.bp _ hm;omega
   have hB11:=(hS9.bk.ext hx10).chg hc11 hgkF
   refine zaa zcJ ?_
   refine zbq (α:=Raw) (lo:=0) (hi:=0) zc5 rfl rfl hB11 (by simp) (zb9 hR11.one) fun w12 hc12 hB12=>?_
   have hs12:=hc12.size
   have hgkF':gk∉Fp':=fun hm=>by
     rcases hs11 _ hm with h | h | h
     · exact hgkF h
     · simp at h
     omega
   have hS12:=hS9.names hord (vp':=v39) (N':=(p.procs.take (k+1)).map DProc.name) (Fp':=Fp') (w':=w12) ((((hx10.chg Fp).trans hc11).mono (by simp +contextual)).trans (hc12.toC.mono (by simp))) hB12
     (by rw [List.take_succ_eq_append_getElem hk,List.map_append];exact hR11.keep fun c hc=>hc12.block c (hR11.lt c hc) (by have:c≠gk:=fun e=>hgkF' (e▸hc);omega)) hN11 (fun c hc=>by
       rcases hs11 c hc with h | h | h
       · exact .inl h
       · simp at h
       exact .inr h) (by omega)
   have hx13:=zak w12
   have hS13:=hS12.ext hx13
   have hs13:=hx13.size
   generalize World.drew1 w12=w13 at *
   have hx113:=hS13.em.old
   refine zaa za6 ?_
   refine zas zbG hS13.bk rfl ?_
   refine NIL.mk rfl ?_
   obtain ⟨d0,d1,d2,rv,hd1,hd2,hd3,hd4,hd5⟩:=hS13.em
   refine zaa zfS ?_
   refine zab (α:=RIns) zdz (zks hd2.at) (Ext.refl _) fun v46 k46=>?_
   obtain ⟨q46,h46⟩:=ztS k46
   have q46:v46=rv:=q46
   have h46:Is w13 rv L:=h46
   rw [q46]
   refine zae u26 h46 ?_
   refine zgn (β:=Int) (G:=Fe) (x:=(L.length:Int)) u25 ty3 z3 zc3 (by decide) hS13.e hS13.en (zb7 (by unfold I64;omega)) (by simp) (by rw [zan,hEl];omega) (by rw [hEl];omega) (fun w14 v49 w15 Fe' hx14' hc15 hR15 hN15 hs15=>?_) fun s' w' hx' h'=>⟨hx',h'⟩
   have hs14:=hx14'.size
   have hs15':=hc15.size
   have hgkE:gk∉Fe:=fun hm=>by have:=hS13.be _ hm;omega
   have hB15:=(hS13.bk.ext hx14').chg hc15 hgkE
   refine zaa za6 ?_
   refine zbq (α:=Raw) (lo:=0) (hi:=0) zbG rfl rfl hB15 (by simp) (zb9 hR15.one) fun w16 hc16 hB16=>?_
   have hs16:=hc16.size
   have hgkE':gk∉Fe':=fun hm=>by
     rcases hs15 _ hm with h | h | h
     · exact hgkE h
     · simp at h
     omega
   have hS16:=hS13.ents hord (ve':=v49) (E':=E++[(L.length:Int)]) (Fe':=Fe') (w':=w16) ((((hx14'.chg Fe).trans hc15).mono (by simp +contextual)).trans (hc16.toC.mono (by simp))) hB16
     (hR15.keep fun c hc=>hc16.block c (hR15.lt c hc) (by have:c≠gk:=fun e=>hgkE' (e▸hc);omega)) hN15 (fun c hc=>by
       rcases hs15 c hc with h | h | h
       · exact .inl h
       · simp at h
       exact .inr h) (by omega)
   have hx116:=hS16.em.old
   refine zaa zcG ?_
   refine zab zfR (zbm hA) hx116 fun v53 h53=>?_
   refine zac znO zld h53 hk fun b55 o55 hA55=>?_
   refine zaa zmO ?_
   refine zab zcX (zgN hA55) hx116 fun v57 h57=>?_
   have hbl:=zg8 G Lk Pn (p.procs[k]).body L.length
   refine (ziA _ 2 _ hS16.em h57 hbody.1 (by have:=hbody.2;omega)).mono ?_
   rintro r58 w17 ⟨hc17,Fi',hE17,hF17⟩
   have hs17:=hc17.size
   rw [←hG,←hLk,←hPn] at hE17
   have hS17:=hS16.ems hord hc17 hE17 hF17 (by omega)
   obtain ⟨z1,z2,z3,z4,z5⟩:=hE17.lt
   refine ziz (lo:=w17.heap.size) (hi:=w17.heap.size) (by unfold I64;omega) fun v60 o60=>?_
   refine (zgt hE17 o60 z1 z2 (Nat.le_refl _) (by have:=hbody.2;rw [List.length_append];omega)).mono ?_
   rintro r61 w18 ⟨-,hc18,Fi'',hE18,hF18⟩
   have hs18:=hc18.size
   have hS18:=hS17.ems hord hc18 hE18 hF18 (by omega)
   refine zaf (by omega) ?_
   refine ⟨m-1,by omega,k+1,by omega,rfl,_,_,_,_,_,_,_,by omega,by simp [hEl],hS18,by omega,?_,?_⟩
   · rw [hent];simp [Nat.add_assoc]
   rw [hem];simp [Nat.add_assoc,ztV]
 have hk:k=p.procs.length:=by omega
 subst hk
 rw [List.drop_length,zlv,List.append_nil] at hent
 rw [List.drop_length,emP,List.append_nil] at hem
 rw [List.take_length] at hS8
 refine NIL.mk rfl ?_
 obtain ⟨d0,d1,d2,rv,hd1,hd2,hd3,hd4,hd5⟩:=hS8.em
 refine zaa zfS ?_
 refine zab (α:=RIns) zdz (zks hd2.at) (Ext.refl _) fun v65 k65=>?_
 obtain ⟨q65,-⟩:=ztS k65
 have q65:v65=rv:=q65
 rw [q65]
 obtain ⟨Gi,hLi⟩:=zg7 (Lens.var hd2)
 obtain ⟨cs1,⟨rfl,hrow⟩,hr1,hnG,_,hg1,_⟩:=hLi.here
 have hrow:RowG Gi 77 w8 rv L:=hrow
 have hGi:∀ c∈Gi,c∈Fi:=fun c hc=>by
   rcases List.mem_cons.1 (hLi.sub c (by simp [hc])) with e | h
   · exact absurd (e▸hc) hg1
   exact h
 refine zaa zaR ?_
 refine zbq (α:=Raw) (lo:=0) (hi:=0) zdz rfl rfl hS8.bk (by simp) (zb9 hrow.one) fun w9 hc9 hB9=>?_
 have hs9:=hc9.size
 refine zkn hB9 zcF ?_
 have hx9:=hS8.x.chgI hc9 (by omega)
 refine zdD (α:=Raw5) (x:=(⟨v14⟩,⟨v18⟩,⟨vp⟩,⟨ve⟩,⟨rv⟩)) (lo:=0) (hi:=0) zcF rfl hx9 rfl (zlR one14 one18 hS8.n.one hS8.e.one hrow.one) fun w10 hc10 hB10=>?_
 have hs10:=hc10.size
 refine ziq hB10 zcF ?_
 have hxf:Ext w w10:=Ext.chgI (Ext.chgI (hx1.trans hx18) hc9 (by omega)) hc10 (by omega)
 refine ⟨hxf,_,rfl,?_⟩
 obtain ⟨F3,M3,B3⟩:=(hS8.g.chg hc9 (by omega)).chg hc10 (by omega)
 obtain ⟨F7,M7,B7⟩:=(hS8.l.chg hc9 (by omega)).chg hc10 (by omega)
 have keep:∀ c,bs≤c→c<w8.heap.size→w10.heap[c]?=w8.heap[c]?:=fun c h1 h2=>(hc10.block c (by omega) (by omega)).trans (hc9.block c h2 (by omega))
 have Mp:=ziL (hS8.n.keep fun c hc=>keep c (hS8.bp c hc) (hS8.n.lt c hc)) hS8.nn
 have Me:=ziL (hS8.e.keep fun c hc=>keep c (hS8.be c hc) (hS8.e.lt c hc)) hS8.en
 have Mi:=ziL (hrow.keep fun c hc=>keep c (hS8.bi c (hGi c hc)) (hrow.lt c hc)) hnG
 rw [hcd,hent,hem,hG,hLk,hPn]
 refine ⟨F3++(F7++(Fp++(Fe++Gi))),⟨⟨[v14,v18,vp,ve,rv],zaF (zcV rfl M3.own) (zaF (zcV rfl M7.own) (zaF (zcV rfl Mp.own) (zaF (zcV rfl Me.own) (zcV rfl Mi.own)))),rfl⟩,?_,M3.wr.append (M7.wr.append (Mp.wr.append (Me.wr.append Mi.wr)))⟩,fun c hc=>?_⟩
 · simp only [List.nodup_append,List.mem_append]
   refine ⟨M3.nodup,⟨M7.nodup,⟨hS8.nn,⟨hS8.en,hnG,fun a ha b hb e=>?_⟩,fun a ha b hb e=>?_⟩,fun a ha b hb e=>?_⟩,fun a ha b hb e=>?_⟩
   · exact hS8.dei a ha (hGi a (e▸hb))
   · subst e
     rcases hb with h | h
     · exact hS8.dpe a ha h
     exact hS8.dpi a ha (hGi a h)
   · subst e
     have:=B7 a ha
     rcases hb with h | h | h
     · have:=hS8.bp a h;omega
     · have:=hS8.be a h;omega
     have:=hS8.bi a (hGi a h);omega
   subst e
   have:=B3 a ha
   rcases hb with h | h | h | h
   · have:=B7 a h;omega
   · have:=hS8.bp a h;omega
   · have:=hS8.be a h;omega
   have:=hS8.bi a (hGi a h);omega
 simp only [List.mem_append] at hc
 rcases hc with h | h | h | h | h
 · have:=B3 c h;omega
 · have:=B7 c h;omega
 · have:=hS8.bp c h;have:=hS8.n.lt c h;omega
 · have:=hS8.be c h;have:=hS8.e.lt c h;omega
 have:=hS8.bi c (hGi c h);have:=hrow.lt c h;omega
def F69 (a0:Value) (w:World) (R:VW):Prop:=
 rN 22 3 a0 w fun x6=>
 rB .add 3 U0 T0 (iV 94701) x6 w fun x7=>
 LOOPI [3,4] [x7,(iV 0)] w fun u3 w next3=>
 rN 22 3 a0 w fun x10=>
 rC (u3 4) x10 w fun x11=>
 BR x11
 (rB .lss 3 T0 U0 (u3 4) (iV 4000) w fun x14=>
 BR x14
 (rB .mul 3 T0 U0 (u3 3) (iV 131) w fun x19=>
 rX 22 a0 (u3 4) w fun x22=>
 rL 5 x22 w fun x23=>
 rD (convert 5 3 x23) w fun x24=>
 rB .add 3 T0 T0 x19 x24 w fun x25=>
 rA x25 (iV 7) w fun x26=>
 rB .and 3 T0 U0 x26 (iV 1073741823) w fun x27=>
 rA (u3 4) (iV 1) w fun x17=>
 next3 [x27,x17] w)
 (rD (Instr.build 144 #[(0,a0),(2,(u3 3))]) w fun x30=>
 oP (Instr.box 144 x30) w fun x31 w=>
 R x31 w))
 (rD (Instr.build 144 #[(0,a0),(2,(u3 3))]) w fun x30=>
 oP (Instr.box 144 x30) w fun x31 w=>
 R x31 w)
def cfg69:Cfg:=⟨extL,[],[(3,268435224,[3,4])],[],[],[],[]⟩
theorem F69_call {a0:Value} {w:World} {R:VW} (h:F69 a0 w R):cL 69 [a0] w R:=co (g:=cfg69) Tryz.func69 (by kernel_rfl) (by kernel_rfl) (by kernel_rfl) h
def F68 (a0:Value) (w:World) (R:VW):Prop:=
 oP (Instr.alloc 28 true (.tuple #[])) w fun x2 w=>
 cL 129 [a0] w fun x9 w=>
 cL 96 [x9] w fun x10 w=>
 rE x10 0 w fun x11=>
 rE x10 1 w fun x12=>
 oP (Instr.alloc 28 true (.tuple #[])) w fun x3 w=>
 oS 28 x3 x11 w fun w=>
 rD (Op.unary .not x12) w fun x14=>
 BR x14
 (cL 94 [(Value.string (ByteArray.mk #[103,108,111,98,97,108,115,32,120,59,32,108,111,99,107,115,32,97,59,32,112,114,111,99,32,109,97,105,110,32,123,32,108,111,99,107,32,97,59,32,120,32,61,32,49,59,32,117,110,108,111,99,107,32,97,59,32,115,112,97,119,110,32,112,59,32,125,32,112,114,111,99,32,112,32,123,32,120,32,61,32,50,59,32,125]))] w fun x16 w=>
 rE x16 0 w fun x17=>
 rE x16 1 w fun x18=>
 oP (Instr.alloc 112 true (.tuple #[])) w fun x5 w=>
 oP (Instr.alloc 114 true (.tuple #[])) w fun x6 w=>
 oS 112 x5 x17 w fun w=>
 oS 114 x6 x18 w fun w=>
 rL 112 x5 w fun x20=>
 cL 96 [x20] w fun x21 w=>
 rE x21 0 w fun x22=>
 rE x21 1 w fun x23=>
 oS 28 x3 x22 w fun w=>
 rL 28 x3 w fun x24=>
 oS 28 x2 x24 w fun w=>
 rD (za2 28 x2) w fun r2=>R r2 w)
 (rL 28 x3 w fun x24=>
 oS 28 x2 x24 w fun w=>
 rD (za2 28 x2) w fun r2=>R r2 w)
def cfg68:Cfg:=⟨extL,[],[],[],[],[],[]⟩
theorem F68_call {a0:Value} {w:World} {R:VW} (h:F68 a0 w R):cL 68 [a0] w R:=co (g:=cfg68) Tryz.func68 (by kernel_rfl) (by kernel_rfl) (by kernel_rfl) h
def F10 (a0:Value) (w:World) (R:VW):Prop:=
 oP (Instr.alloc 28 true (.tuple #[])) w fun x2 w=>
 cL 69 [a0] w fun x4 w=>
 cL 68 [x4] w fun x5 w=>
 oS 28 x2 x5 w fun w=>
 rD (za2 28 x2) w fun r2=>R r2 w
def cfg10:Cfg:=⟨extL,[],[],[],[],[],[]⟩
theorem F10_call {a0:Value} {w:World} {R:VW} (h:F10 a0 w R):cL 10 [a0] w R:=co (g:=cfg10) Tryz.func10 (by kernel_rfl) (by kernel_rfl) (by kernel_rfl) h
open Rep (rep)
theorem zq5 {bs:List UInt8} {k:Nat} (hk:k<(bs.take 4000).length) (h:Int):((bs.take 4000).take (k+1)).foldl (fun h (b:UInt8)=>zoI (h*131+(b.toNat:Int)+7) 1073741823) h =
   zoI (((bs.take 4000).take k).foldl (fun h (b:UInt8)=>zoI (h*131+(b.toNat:Int)+7) 1073741823) h*131+(((bs.take 4000)[k]).toNat:Int)+7) 1073741823:=by
 rw [List.take_succ_eq_append_getElem hk,List.foldl_append];rfl
set_option maxRecDepth 100000 in
theorem zq6 {w W:World} {v:Value} {bs:List UInt8} (h:Is W v bs) (e:Ext W w) (hl:bs.length≤1048576) :
    CALL Tryz.prog 69 [v] w fun r w'=>Ext w w'∧∃ g,r=.pointer (some ⟨g,0,none⟩)∧w.heap.size≤g∧CurAt w g bs (zhr bs) w':=by
  have fin:∀ {w1:World} {hh:Int},Ext w w1→hh=zvl bs→I64 hh→RD Tryz.prog (Instr.build 144 #[(0,v),(2,.int .i64 hh)]) w1 fun x30=>OP Tryz.prog (Instr.box 144 x30) w1 fun x31 w2=>
      Ext w w2∧∃ g,x31=.pointer (some ⟨g,0,none⟩)∧w.heap.size≤g∧CurAt w g bs (zhr bs) w2:=by
    intro w1 hh hx1 hh1 hI
    obtain ⟨a,cap,Fi,xs,rfl,_⟩:=zdb h
    refine zaQ (cells:=#[.slice a bs.length cap,.int .i64 0,.int .i64 hh]) (by kernel_rfl) ?_
    refine zkm fun w2 hx2 hB2=>?_
    refine ⟨hx1.trans hx2,_,rfl,hx1.size,.slice a bs.length cap,h.ext e,hx1.trans hx2,hx1.size,?_,Nat.zero_le _,hl⟩
    rw [hh1] at hB2
    exact hB2
  refine F69_call ?_
  unfold F69
  refine zae u22 h ?_
  refine zdw (by unfold I64;omega) ?_
  refine zat (bs.take 4000).length (fun k us w'=>∃ hh:Int,us=[.int .i64 hh,.int .i64 (k:Int)]∧Ext w w'∧k≤(bs.take 4000).length∧0≤hh∧hh≤1073741823∧hh=((bs.take 4000).take k).foldl (fun h (b:UInt8)=>zoI (h*131+(b.toNat:Int)+7) 1073741823) (94701+(bs.length:Int))) 0 (Nat.zero_le _)
    ⟨_,rfl,Ext.refl w,Nat.zero_le _,by omega,by omega,by simp⟩ ?_
  rintro k m u w1 hkm ⟨hh,hu,hx1,hkl,h0,h1,hf⟩
  obtain ⟨hu0,hu1⟩:=zdY hu
  rw [hu0,hu1]
  have htl:(bs.take 4000).length=min 4000 bs.length:=List.length_take
  have hdone:(bs.take 4000).length≤k→hh=zvl bs:=fun hk=>by
    rw [hf,List.take_of_length_le hk];rfl
  have hIh:I64 hh:=by unfold I64;omega
  refine zae u22 h ?_
  refine zah ?_
  refine br (fun hlt=>?_) (fun hge=>fin hx1 (hdone (by omega)) hIh)
  refine zah ?_
  refine br (fun hlt2=>?_) (fun hge=>fin hx1 (hdone (by omega)) hIh)
  have hk:k<(bs.take 4000).length:=by omega
  have hkb:k<bs.length:=by omega
  refine znJ (by unfold I64;omega) ?_
  refine zac u22 ty5 (i:=k) h hkb fun b o hA=>?_
  refine zn2 ty5 hA (e.trans hx1) ?_
  have h256:=UInt8.toNat_lt (bs[k])
  refine zp6 (by kernel_rfl) u3 (by omega) ?_
  refine zdw (by unfold I64;omega) ?_
  refine zdw (by unfold I64;omega) ?_
  refine zmN ?_
  refine zaf (by omega) ?_
  have hb:=zj0 (hh*131+((bs[k]).toNat:Int)+7) (n:=1073741823) (by omega)
  refine ⟨m-1,by omega,k+1,by omega,_,rfl,hx1,by omega,hb.1,hb.2,?_⟩
  rw [zq5 hk,←hf,List.getElem_take]
def zcD (bs:List UInt8):DCode:=zck (zcr bs (zhr bs)).1
theorem zhc (bs:List UInt8):CodeR (zcD bs)∧(zcD bs).ins.length≤436:=zjA (zg0 bs _)
set_option maxRecDepth 20000 in
theorem zo7 {W w:World} {g:Nat} {bs:List UInt8} {s:Cur} (hC:CurAt W g bs s w) :
    CALL Tryz.prog 68 [.pointer (some ⟨g,0,none⟩)] w fun r w'=>ChgI g (g+1) w w'∧OwnI w.heap.size w'.heap.size w' r (zck (zcr bs s).1)∧CurAt W g bs (zcr bs s).2 w':=by
  have hgl:=hC.lt
  refine F68_call ?_
  unfold F68
  refine zcU ztI fun w1 hx1 hB1=>?_
  have hs1:=hx1.size
  have hg1:=hB1.lt
  refine (zo1 (hC.ext hx1)).mono ?_
  rintro v9 w2 ⟨hc2,hC2,o9⟩
  have hs2:=hc2.size
  refine (zkB o9.is (Ext.refl _) (zg0 bs s)).mono ?_
  rintro _ w3 ⟨hx3,a,rfl,o10⟩
  have hs3:=hx3.size
  refine zaO rfl ?_
  refine zaO rfl ?_
  refine zcU ztI fun w4 hx4 hB4=>?_
  have hs4:=hx4.size
  have hg4:=hB4.lt
  have o10:=o10.ext hx4
  have hform:∃ us:Array Value,a=.agg us:=by
    obtain ⟨F,⟨⟨cs,hr,hv⟩,_⟩,_⟩:=o10
    exact ⟨cs.toArray,by simpa [mkv,Rep.agg] using hv⟩
  obtain ⟨us,rfl⟩:=hform
  have hB1':Blk w.heap.size 28 w4 _:=((hB1.chgI hc2 (by omega)).ext hx3).ext hx4
  have hul:us.toList.length=5:=by
    obtain ⟨F,⟨⟨cs,hr,hv⟩,_⟩,_⟩:=o10
    have:us=cs.toArray:=by simpa [mkv,Rep.agg] using hv
    rw [this];exact Rep.len hr
  refine zdD zcF rfl hB4 rfl o10 fun w5 hc5 hB5=>?_
  have hs5:=hc5.size
  have o10:=o10.chg hc5 (by omega)
  refine zaC ?_
  refine zbH (fun hc=>by simp at hc) (fun _=>?_)
  refine zkn hB5 (by rw [hul];exact zcF) ?_
  have hB15:=hB1'.chgI hc5 (by omega)
  refine zdD zcF rfl hB15 rfl o10 fun w6 hc6 hB6=>?_
  have hs6:=hc6.size
  refine ziq hB6 (by rw [hul];exact zcF) ?_
  refine ⟨?_,(o10.chg hc6 (by omega)).mono (by omega) (by omega),?_⟩
  · exact ChgI.out (ChgI.out (((hx1.toI.trans hc2).trans hx3.toI).trans hx4.toI) hc5 (by omega)) hc6 (by omega)
  exact (((hC2.ext hx3).ext hx4).chg hc5 (by omega) (by omega)).chg hc6 (by omega) (by omega)
theorem znh {w W:World} {v:Value} {bs:List UInt8} (h:Is W v bs) (e:Ext W w) (hl:bs.length≤1048576) :
   CALL Tryz.prog 10 [v] w fun r w'=>Ext w w'∧Own w.heap.size w' r (zcD bs):=by
 refine F10_call ?_
 unfold F10
 refine zcU ztI fun w1 hx1 hB1=>?_
 have hs1:=hx1.size
 have hg1:=hB1.lt
 refine (zq6 h (e.trans hx1) hl).mono ?_
 rintro _ w2 ⟨hx2,g,rfl,hg,hC2⟩
 have hs2:=hx2.size
 have hg2:=hC2.lt
 refine (zo7 hC2).mono ?_
 rintro v5 w3 ⟨hc3,o5,-⟩
 have hs3:=hc3.size
 have hform:∃ us:Array Value,v5=.agg us:=by
   obtain ⟨F,⟨⟨cs,hr,hv⟩,_⟩,_⟩:=o5
   exact ⟨cs.toArray,by simpa [mkv,Rep.agg] using hv⟩
 obtain ⟨us,rfl⟩:=hform
 have hul:us.toList.length=5:=by
   obtain ⟨F,⟨⟨cs,hr,hv⟩,_⟩,_⟩:=o5
   have:us=cs.toArray:=by simpa [mkv,Rep.agg] using hv
   rw [this];exact Rep.len hr
 have hB3:=(hB1.ext hx2).chgI hc3 (by omega)
 refine zdD zcF rfl hB3 rfl o5 fun w4 hc4 hB4=>?_
 refine ziq hB4 (by rw [hul];exact zcF) ?_
 exact ⟨Ext.chgI (Ext.chgI (hx1.trans hx2) hc3 (by omega)) hc4 (by omega),(o5.chg hc4 (by omega)).own.mono (by omega)⟩
theorem zvC {G L P:List ByteArray} {pr:List ByteArray} (hG:G=glb) (hL:L=lks) (hP:∀ x∈pr,x∈P):∀ (l:List DProc) (a:Nat),(∀ x∈l,zoR pr x.body)→∀ y∈emP G L P l a,wT y.term≤24
 | [],_,_,y,h=>by rw [emP] at h;cases h
 | x :: l,a,hb,y,h=>by
   have w0:wT term0≤24:=by decide
   rw [emP] at h
   rcases List.mem_append.1 h with h | h
   · have:=((zvo hG hL hP 2).2 x.body a (hb x (by simp)).1).1 y h
     obtain ⟨_,_,_,q4,_⟩:=this
     split at q4
     · exact q4.2.2
     rw [q4];exact w0
   rcases List.mem_cons.1 h with rfl | h
   · exact w0
   exact zvC hG hL hP l _ (fun z hz=>hb z (by simp [hz])) y h
theorem ztl {α:Type} {f:α→Nat} {b:Nat}:∀ {l:List α},(∀ x∈l,f x≤b)→sm f l≤l.length*b
 | [],_=>by simp [sm]
 | x :: l,h=>by
   have h1:=ztl (l:=l) fun y hy=>h y (List.mem_cons_of_mem _ hy)
   have h2:=h x List.mem_cons_self
   simp only [sm,List.map_cons,List.sum_cons,List.length_cons,Nat.add_mul] at h1 ⊢
   omega
theorem zo8 (bs:List UInt8):zqg (zcD bs)≤1048576:=by
 have hp:=zg0 bs (zhr bs)
 have hl:=(zhc bs).2
 obtain ⟨f1,f2,f3,f4⟩:=hp.facts
 obtain ⟨k,hk,hn⟩:=hp.n
 have h1:zr7 (zcD bs).globals≤100:=by
   show zr7 (zcr bs (zhr bs)).1.globals≤100
   rw [hp.g];decide
 have h2:zr7 (zcD bs).locks≤100:=by
   show zr7 (zcr bs (zhr bs)).1.locks≤100
   rw [hp.l];decide
 have h3:zr7 (zcD bs).procs≤100:=by
   show zr7 ((zcr bs (zhr bs)).1.procs.map DProc.name)≤100
   rw [hn]
   match k,hk with
   | 0,_=>decide
   | 1,_=>decide
   | 2,_=>decide
 have h4:(zcD bs).entry.length≤4:=by
   have:(zcD bs).entry.length=(zcr bs (zhr bs)).1.procs.length:=zhK _ _ _ _ _
   omega
 have h5:zu9 (zcD bs).ins≤20000:=by
   have:=ztl (f:=fun i:DIns=>wT i.term) (b:=24) (l:=(zcD bs).ins) (zvC hp.g hp.l (fun x hx=>List.mem_of_mem_drop hx) _ _ hp.b)
   unfold zu9
   omega
 unfold zqg
 omega
end Go.Proofs.YtbnjpfjjmhodnaaGreat
namespace Go.Proofs.YtbnjpfjjmhodnaaGreat
open Go.Shelf
def Tryz.sortOrder_ren:Go.Shelf.Ren:=⟨fun | 6=>173 | 15=>238 | 14=>237 | 28=>286 | 29=>287 | 20=>278 | 21=>279 | 22=>280 | 23=>281 | 24=>282 | 25=>283 | 26=>284 | 27=>285 | 46=>326 | 47=>327 | 48=>328 | 49=>329 | 50=>330 | 57=>344 | n=>n,fun | 22=>65 | 24=>72 | 25=>184 | 3=>3 | 39=>97 | 0=>0 | 53=>266 | 55=>193 | 4=>4 | 46=>260 | 45=>259 | 50=>250 | 5=>5 | 9=>9 | 66=>291 | 70=>295 | 76=>305 | 77=>306 | n=>n,fun | n=>n⟩
theorem Tryz.sortOrder:SlLaysF0.n6 Tryz.prog Tryz.sortOrder_ren:={
 mixed:=by kernel_rfl,
 f6:=⟨Tryz.f173.name,by kernel_rfl,Tryz.func173.trans (congrArg some (by kernel_rfl))⟩,
 f14:=⟨Tryz.f237.name,by kernel_rfl,Tryz.func237.trans (congrArg some (by kernel_rfl))⟩,
 f15:=Tryz.func238.trans (congrArg some (by kernel_rfl)),
 f20:=⟨Tryz.f278.name,by kernel_rfl,Tryz.func278.trans (congrArg some (by kernel_rfl))⟩,
 f21:=⟨Tryz.f279.name,by kernel_rfl,Tryz.func279.trans (congrArg some (by kernel_rfl))⟩,
 f22:=⟨Tryz.f280.name,by kernel_rfl,Tryz.func280.trans (congrArg some (by kernel_rfl))⟩,
 f23:=⟨Tryz.f281.name,by kernel_rfl,Tryz.func281.trans (congrArg some (by kernel_rfl))⟩,
 f24:=⟨Tryz.f282.name,by kernel_rfl,Tryz.func282.trans (congrArg some (by kernel_rfl))⟩,
 f25:=⟨Tryz.f283.name,by kernel_rfl,Tryz.func283.trans (congrArg some (by kernel_rfl))⟩,
 f26:=⟨Tryz.f284.name,by kernel_rfl,Tryz.func284.trans (congrArg some (by kernel_rfl))⟩,
 f27:=⟨Tryz.f285.name,by kernel_rfl,Tryz.func285.trans (congrArg some (by kernel_rfl))⟩,
 f28:=Tryz.func286.trans (congrArg some (by kernel_rfl)),
 f29:=Tryz.func287.trans (congrArg some (by kernel_rfl)),
 f46:=⟨Tryz.f326.name,by kernel_rfl,Tryz.func326.trans (congrArg some (by kernel_rfl))⟩,
 f47:=Tryz.func327.trans (congrArg some (by kernel_rfl)),
 f48:=Tryz.func328.trans (congrArg some (by kernel_rfl)),
 f49:=⟨Tryz.f329.name,by kernel_rfl,Tryz.func329.trans (congrArg some (by kernel_rfl))⟩,
 f50:=⟨Tryz.f330.name,by kernel_rfl,Tryz.func330.trans (congrArg some (by kernel_rfl))⟩,
 f57:=⟨Tryz.f344.name,by kernel_rfl,Tryz.func344.trans (congrArg some (by kernel_rfl))⟩,
 t0:=Tryz.underlying0,
 a0:=Tryz.isAgg0,
 z0:=Tryz.sizeOf0,
 v0:=Tryz.zeroValue0,
 t3:=Tryz.underlying3,
 a3:=Tryz.isAgg3,
 z3:=Tryz.sizeOf3,
 v3:=Tryz.zeroValue3,
 t4:=Tryz.underlying4,
 a4:=Tryz.isAgg4,
 z4:=Tryz.sizeOf4,
 v4:=Tryz.zeroValue4,
 t5:=Tryz.underlying5,
 a5:=Tryz.isAgg5,
 z5:=Tryz.sizeOf5,
 v5:=Tryz.zeroValue5,
 t9:=Tryz.underlying9,
 a9:=Tryz.isAgg9,
 z9:=Tryz.sizeOf9,
 v9:=Tryz.zeroValue9,
 t22:=Tryz.underlying65,
 a22:=Tryz.isAgg65,
 z22:=Tryz.sizeOf65,
 v22:=Tryz.zeroValue65,
 t25:=Tryz.underlying184,
 a25:=Tryz.isAgg184,
 z25:=Tryz.sizeOf184,
 v25:=Tryz.zeroValue184,
 t39:=Tryz.underlying97,
 a39:=Tryz.isAgg97,
 z39:=Tryz.sizeOf97,
 v39:=Tryz.zeroValue97,
 t45:=Tryz.underlying259,
 a45:=Tryz.isAgg259,
 z45:=Tryz.sizeOf259,
 v45:=Tryz.zeroValue259,
 t46:=Tryz.underlying260,
 a46:=Tryz.isAgg260,
 z46:=Tryz.sizeOf260,
 v46:=Tryz.zeroValue260,
 t50:=Tryz.underlying250,
 a50:=Tryz.isAgg250,
 z50:=Tryz.sizeOf250,
 v50:=Tryz.zeroValue250,
 t53:=Tryz.underlying266,
 a53:=Tryz.isAgg266,
 z53:=Tryz.sizeOf266,
 v53:=Tryz.zeroValue266,
 t55:=Tryz.underlying193,
 a55:=Tryz.isAgg193,
 z55:=Tryz.sizeOf193,
 v55:=Tryz.zeroValue193,
 t66:=Tryz.underlying291,
 a66:=Tryz.isAgg291,
 z66:=Tryz.sizeOf291,
 v66:=Tryz.zeroValue291,
 t70:=Tryz.underlying295,
 a70:=Tryz.isAgg295,
 z70:=Tryz.sizeOf295,
 v70:=Tryz.zeroValue295,
 t76:=Tryz.underlying305,
 a76:=Tryz.isAgg305,
 z76:=Tryz.sizeOf305,
 v76:=Tryz.zeroValue305,
 t77:=Tryz.underlying306,
 a77:=Tryz.isAgg306,
 z77:=Tryz.sizeOf306,
 v77:=Tryz.zeroValue306 }
def Tryz.sortInts_ren:Go.Shelf.Ren:=⟨fun | 6=>179 | 15=>238 | 14=>246 | 28=>286 | 29=>287 | 20=>290 | 21=>291 | 22=>292 | 23=>293 | 24=>294 | 25=>295 | 26=>296 | 27=>297 | 46=>331 | 47=>327 | 48=>328 | 49=>332 | 50=>333 | 57=>345 | n=>n,fun | 22=>31 | 24=>25 | 25=>183 | 3=>3 | 39=>97 | 0=>0 | 53=>266 | 55=>193 | 4=>4 | 46=>260 | 45=>259 | 50=>250 | 5=>5 | 9=>9 | 66=>291 | 70=>295 | 76=>305 | 77=>306 | n=>n,fun | n=>n⟩
theorem Tryz.sortInts:SlLaysF.n6 Tryz.prog Tryz.sortInts_ren:={
 mixed:=by kernel_rfl,
 f6:=⟨Tryz.f179.name,by kernel_rfl,Tryz.func179.trans (congrArg some (by kernel_rfl))⟩,
 f14:=⟨Tryz.f246.name,by kernel_rfl,Tryz.func246.trans (congrArg some (by kernel_rfl))⟩,
 f15:=Tryz.func238.trans (congrArg some (by kernel_rfl)),
 f20:=⟨Tryz.f290.name,by kernel_rfl,Tryz.func290.trans (congrArg some (by kernel_rfl))⟩,
 f21:=⟨Tryz.f291.name,by kernel_rfl,Tryz.func291.trans (congrArg some (by kernel_rfl))⟩,
 f22:=⟨Tryz.f292.name,by kernel_rfl,Tryz.func292.trans (congrArg some (by kernel_rfl))⟩,
 f23:=⟨Tryz.f293.name,by kernel_rfl,Tryz.func293.trans (congrArg some (by kernel_rfl))⟩,
 f24:=⟨Tryz.f294.name,by kernel_rfl,Tryz.func294.trans (congrArg some (by kernel_rfl))⟩,
 f25:=⟨Tryz.f295.name,by kernel_rfl,Tryz.func295.trans (congrArg some (by kernel_rfl))⟩,
 f26:=⟨Tryz.f296.name,by kernel_rfl,Tryz.func296.trans (congrArg some (by kernel_rfl))⟩,
 f27:=⟨Tryz.f297.name,by kernel_rfl,Tryz.func297.trans (congrArg some (by kernel_rfl))⟩,
 f28:=Tryz.func286.trans (congrArg some (by kernel_rfl)),
 f29:=Tryz.func287.trans (congrArg some (by kernel_rfl)),
 f46:=⟨Tryz.f331.name,by kernel_rfl,Tryz.func331.trans (congrArg some (by kernel_rfl))⟩,
 f47:=Tryz.func327.trans (congrArg some (by kernel_rfl)),
 f48:=Tryz.func328.trans (congrArg some (by kernel_rfl)),
 f49:=⟨Tryz.f332.name,by kernel_rfl,Tryz.func332.trans (congrArg some (by kernel_rfl))⟩,
 f50:=⟨Tryz.f333.name,by kernel_rfl,Tryz.func333.trans (congrArg some (by kernel_rfl))⟩,
 f57:=⟨Tryz.f345.name,by kernel_rfl,Tryz.func345.trans (congrArg some (by kernel_rfl))⟩,
 t0:=Tryz.underlying0,
 a0:=Tryz.isAgg0,
 z0:=Tryz.sizeOf0,
 v0:=Tryz.zeroValue0,
 t3:=Tryz.underlying3,
 a3:=Tryz.isAgg3,
 z3:=Tryz.sizeOf3,
 v3:=Tryz.zeroValue3,
 t4:=Tryz.underlying4,
 a4:=Tryz.isAgg4,
 z4:=Tryz.sizeOf4,
 v4:=Tryz.zeroValue4,
 t5:=Tryz.underlying5,
 a5:=Tryz.isAgg5,
 z5:=Tryz.sizeOf5,
 v5:=Tryz.zeroValue5,
 t9:=Tryz.underlying9,
 a9:=Tryz.isAgg9,
 z9:=Tryz.sizeOf9,
 v9:=Tryz.zeroValue9,
 t22:=Tryz.underlying31,
 a22:=Tryz.isAgg31,
 z22:=Tryz.sizeOf31,
 v22:=Tryz.zeroValue31,
 a24:=Tryz.isAgg25,
 z24:=Tryz.sizeOf25,
 t25:=Tryz.underlying183,
 a25:=Tryz.isAgg183,
 z25:=Tryz.sizeOf183,
 v25:=Tryz.zeroValue183,
 t39:=Tryz.underlying97,
 a39:=Tryz.isAgg97,
 z39:=Tryz.sizeOf97,
 v39:=Tryz.zeroValue97,
 t45:=Tryz.underlying259,
 a45:=Tryz.isAgg259,
 z45:=Tryz.sizeOf259,
 v45:=Tryz.zeroValue259,
 t46:=Tryz.underlying260,
 a46:=Tryz.isAgg260,
 z46:=Tryz.sizeOf260,
 v46:=Tryz.zeroValue260,
 t50:=Tryz.underlying250,
 a50:=Tryz.isAgg250,
 z50:=Tryz.sizeOf250,
 v50:=Tryz.zeroValue250,
 t53:=Tryz.underlying266,
 a53:=Tryz.isAgg266,
 z53:=Tryz.sizeOf266,
 v53:=Tryz.zeroValue266,
 t55:=Tryz.underlying193,
 a55:=Tryz.isAgg193,
 z55:=Tryz.sizeOf193,
 v55:=Tryz.zeroValue193,
 t66:=Tryz.underlying291,
 a66:=Tryz.isAgg291,
 z66:=Tryz.sizeOf291,
 v66:=Tryz.zeroValue291,
 t70:=Tryz.underlying295,
 a70:=Tryz.isAgg295,
 z70:=Tryz.sizeOf295,
 v70:=Tryz.zeroValue295,
 t76:=Tryz.underlying305,
 a76:=Tryz.isAgg305,
 z76:=Tryz.sizeOf305,
 v76:=Tryz.zeroValue305,
 t77:=Tryz.underlying306,
 a77:=Tryz.isAgg306,
 z77:=Tryz.sizeOf306,
 v77:=Tryz.zeroValue306 }
end Go.Proofs.YtbnjpfjjmhodnaaGreat
namespace Go.Proofs.YtbnjpfjjmhodnaaGreat
open Go Go.Sh Go.Proofs
open Rep (rep)
def F288 (a0:Value) (w:World) (R:VW):Prop:=
 rB .neq 3 T0 T0 a0 a0 w fun x5=>
 R x5 w
def cfg288:Cfg:=⟨extL,[],[],[],[],[],[]⟩
theorem F288_call {a0:Value} {w:World} {R:VW} (h:F288 a0 w R):cL 288 [a0] w R:=co (g:=cfg288) Tryz.func288 (by kernel_rfl) (by kernel_rfl) (by kernel_rfl) h
def F239 (a0 a1:Value) (w:World) (R:VW):Prop:=
 cL 288 [a0] w fun x8 w=>
 cL 288 [a1] w fun x10 w=>
 BR x8
 (BR x10
 (R (iV 0) w)
 (R (iV (-1)) w))
 (BR x10
 (R (iV 1) w)
 (rC a0 a1 w fun x16=>
 BR x16
 (R (iV (-1)) w)
 (rB .gtr 3 T0 T0 a0 a1 w fun x19=>
 BR x19
 (R (iV 1) w)
 (R (iV 0) w))))
def cfg239:Cfg:=⟨extL,[],[],[],[],[],[]⟩
theorem F239_call {a0 a1:Value} {w:World} {R:VW} (h:F239 a0 a1 w R):cL 239 [a0,a1] w R:=co (g:=cfg239) Tryz.func239 (by kernel_rfl) (by kernel_rfl) (by kernel_rfl) h
def F175 (a0 a1:Value) (w:World) (R:VW):Prop:=
 rN 25 3 a0 w fun x10=>
 LOOPI [11] [(iV 0)] w fun u2 w next2=>
 rC (u2 11) x10 w fun x12=>
 BR x12
 (rX 25 a0 (u2 11) w fun x14=>
 rL 3 x14 w fun x15=>
 rN 25 3 a1 w fun x18=>
 rB .geq 3 T0 T0 (u2 11) x18 w fun x19=>
 BR x19
 (R (iV 1) w)
 (rX 25 a1 (u2 11) w fun x22=>
 rL 3 x22 w fun x23=>
 cL 239 [x15,x23] w fun x26 w=>
 rB .neq 3 T0 U0 x26 (iV 0) w fun x28=>
 BR x28
 (R x26 w)
 (rA (u2 11) (iV 1) w fun x30=>
 next2 [x30] w)))
 (rN 25 3 a0 w fun x32=>
 rN 25 3 a1 w fun x34=>
 rC x32 x34 w fun x35=>
 BR x35
 (R (iV (-1)) w)
 (R (iV 0) w))
def cfg175:Cfg:=⟨extL,[],[(2,2147482096,[11])],[],[],[],[]⟩
theorem F175_call {a0 a1:Value} {w:World} {R:VW} (h:F175 a0 a1 w R):cL 175 [a0,a1] w R:=co (g:=cfg175) Tryz.func175 (by kernel_rfl) (by kernel_rfl) (by kernel_rfl) h
theorem zvD:zcn Tryz.prog 3=some [.int .i64 0]:=by kernel_rfl
def zoi (x y:Int):Int:=if x<y then -1 else if y<x then 1 else 0
def zsw:List Int→List Int→Int
 | [],[]=>0
 | [],_ :: _=>-1
 | _ :: _,[]=>1
 | x :: l,y :: m=>if zoi x y≠0 then zoi x y else zsw l m
theorem isNaN_ok {w:World} {x:Int}:CALL Tryz.prog 288 [.int .i64 x] w fun r w'=>w'=w∧r=.bool false:=by
 refine F288_call ?_
 unfold F288
 exact zaW ⟨rfl,by simp⟩
theorem compareI_ok {w:World} {x y:Int}:CALL Tryz.prog 239 [.int .i64 x,.int .i64 y] w fun r w'=>w'=w∧r=.int .i64 (zoi x y):=by
 refine F239_call ?_
 unfold F239
 refine isNaN_ok.mono ?_
 rintro _ _ ⟨rfl,rfl⟩
 refine isNaN_ok.mono ?_
 rintro _ _ ⟨rfl,rfl⟩
 refine zbH (fun h=>by cases h) (fun _=>?_)
 refine zbH (fun h=>by cases h) (fun _=>?_)
 refine zah ?_
 refine br (fun h=>⟨rfl,by rw [zoi,if_pos h]⟩) (fun h=>?_)
 refine zcu ?_
 refine br (fun h2=>⟨rfl,by rw [zoi,if_neg h,if_pos h2]⟩) (fun h2=>⟨rfl,by rw [zoi,if_neg h,if_neg h2]⟩)
theorem zkC {P:Program} {w:World} {K:Value→Prop} {t ty e:TypeId} {a:Option Addr} {n c:Nat} (ht:P.underlying t=some (.slice e)) (k:K (.int .i64 (n:Int))) :
   RD P (Builtin.len_ #[t] ty [Value.slice a n c].toArray) w K:=zaM (fun w' _=>by simp [Builtin.len_,run_underlying ht];rfl) k
def vI (l:List Int):List Value:=l.map fun x=>.int .i64 x
theorem ztm {l:List Int} {k:Nat} (h:k<l.length):(vI l)[k]?=some (.int .i64 l[k]):=by simp [vI,h]
theorem zq7 {l m:List Int} {k:Nat} (h1:k<l.length) (h2:k<m.length):zsw (l.drop k) (m.drop k)=if zoi l[k] m[k]≠0 then zoi l[k] m[k] else zsw (l.drop (k+1)) (m.drop (k+1)):=by
 rw [List.drop_eq_getElem_cons h1,List.drop_eq_getElem_cons h2,zsw]
theorem zni {w:World} {g1 g2 e1 e2 c1 c2:Nat} {l m:List Int} (h1:Blk g1 e1 w (vI l)) (h2:Blk g2 e2 w (vI m)) (hl:l.length≤1000) (hm:m.length≤1000) :
   CALL Tryz.prog 175 [.slice (some ⟨g1,0,none⟩) l.length c1,.slice (some ⟨g2,0,none⟩) m.length c2] w fun r w'=>w'=w∧r=.int .i64 (zsw l m):=by
 refine F175_call ?_
 unfold F175
 refine zkC u25 ?_
 refine zat l.length (fun k us w'=>us=[.int .i64 (k:Int)]∧w'=w∧k≤m.length∧zsw l m=zsw (l.drop k) (m.drop k)) 0 (Nat.zero_le _) ⟨rfl,rfl,Nat.zero_le _,rfl⟩ ?_
 rintro k mk u w2 hkm ⟨hu,rfl,hkl,hc⟩
 simp only [List.map_cons,List.map_nil,List.cons.injEq,and_true] at hu
 rw [hu]
 refine zah ?_
 refine br (fun hlt=>?_) (fun hge=>?_)
 · have hk1:k<l.length:=by omega
   refine zhX u25 ty3 hk1 ?_
   rw [Nat.mul_one]
   refine zas ty3 h1 (ztm hk1) ?_
   refine zkC u25 ?_
   refine zbF ?_
   refine br (fun hge=>?_) (fun hlt2=>?_)
   · refine ⟨rfl,?_⟩
     have e0:m.drop k=[]:=List.drop_eq_nil_of_le (by omega)
     rw [hc,List.drop_eq_getElem_cons hk1,e0];rfl
   have hk2:k<m.length:=by omega
   refine zhX u25 ty3 hk2 ?_
   rw [Nat.mul_one]
   refine zas ty3 h2 (ztm hk2) ?_
   refine compareI_ok.mono ?_
   rintro _ _ ⟨rfl,rfl⟩
   have hst:=zq7 hk1 hk2
   refine zaW ?_
   refine br (fun hne=>?_) (fun heq=>?_)
   · exact ⟨rfl,by rw [hc,hst,if_pos hne]⟩
   refine zaf (by omega) ?_
   exact ⟨mk-1,by omega,k+1,by omega,rfl,rfl,by omega,by rw [hc,hst,if_neg heq]⟩
 have hk:k=l.length:=by omega
 subst hk
 refine zkC u25 ?_
 refine zkC u25 ?_
 refine zah ?_
 rw [List.drop_length] at hc
 refine br (fun hlt2=>⟨rfl,?_⟩) (fun hge2=>⟨rfl,?_⟩)
 · rw [hc,List.drop_eq_getElem_cons (by omega)];rfl
 rw [hc,List.drop_eq_nil_of_le (by omega)];rfl
section
variable {P:Program} {w:World} {K:Value→World→Prop}
theorem zq8 {t:TypeId} {cs:Array Value} (k:K (.pointer (some ⟨w.heap.size,0,none⟩)) (w.alloc (.cells cs t))):OP P (Instr.box t (.agg cs)) w K:=
 ⟨_,w.alloc (.cells cs t),by simp [Instr.box,newVar,newRow,Value.cells],k⟩
theorem zjI {t e:TypeId} {by_:Nat} {x y z:Int} (ht:P.underlying t=some (.slice e)) (he:tyI P e=some (1,by_,false)) (hz:zcn P e=some [.int .i64 0])
   (k:K (.slice (some ⟨w.heap.size,0,none⟩) 3 3) (w.alloc (.cells (vI [x,y,z]).toArray e))):OP P (Instr.buildSlice t 3 #[(0,.int .i64 x),(1,.int .i64 y),(2,.int .i64 z)]) w K:=by
 unfold zcn at hz
 cases hi:P.info? e with
 | none=>simp [hi] at hz
 | some i=>
   simp only [hi] at hz
   obtain ⟨v,hv,hvc⟩:=Option.map_eq_some_iff.1 hz
   refine ⟨_,w.alloc (.cells (vI [x,y,z]).toArray e),?_,k⟩
   have hvc':v.cells=#[.int .i64 0]:=Array.ext' (by simpa using hvc)
   have e1:∀ n:Int,(Value.int .i64 n).cells=#[.int .i64 n]:=fun _=>rfl
   simp only [Instr.buildSlice,Sem.run_bind,run_underlying ht,Result.andThen_ok,zaB he]
   have e2:Array.range 3=#[0,1,2]:=by decide
   simp [zeroValue,typeInfo,hi,hv,newRow,Instr.fill,hvc',vI,e1,e2]
end
def i3 (a b c:Int):Array Value:=#[.int .i64 a,.int .i64 b,.int .i64 c]
def ziM (w w':World):Prop:=∃ q os,w'=Go.Sort.grow (w.drewN q) os
theorem zlS {w:World} (o1 o2 o3 o4:Obj):ziM w ((((w.alloc o1).alloc o2).alloc o3).alloc o4):=
 ⟨0,#[o1]++#[o2]++#[o3]++#[o4],by
   rw [Go.Sort.alloc_eq_grow,Go.Sort.alloc_eq_grow,Go.Sort.alloc_eq_grow,Go.Sort.alloc_eq_grow,Go.Sort.grow_grow,Go.Sort.grow_grow,Go.Sort.grow_grow];rfl⟩
def ltR (x y:DRace):Prop:=x.g<y.g∨(x.g=y.g∧(x.a<y.a∨(x.a=y.a∧x.b<y.b)))
theorem znj {x y:Int} (h:x<y):zoi x y=-1:=by rw [zoi,if_pos h]
theorem znk {x y:Int} (h:y<x):zoi x y=1:=by rw [zoi,if_neg (by omega),if_pos h]
theorem znl {x y:Int} (h:x=y):zoi x y=0:=by rw [zoi,if_neg (by omega),if_neg (by omega)]
end Go.Proofs.YtbnjpfjjmhodnaaGreat
namespace Go.Proofs.YtbnjpfjjmhodnaaGreat
open Go Go.Sh Go.Proofs Go.Sort
open Rep (rep)
def F174 (a0 a1:Value) (w:World) (R:VW):Prop:=
 oP (Instr.box 72 a0) w fun x2 w=>
 oP (Instr.box 72 a1) w fun x3 w=>
 rF 72 x2 0 w fun x5=>
 rL 3 x5 w fun x6=>
 rF 72 x2 1 w fun x7=>
 rL 3 x7 w fun x8=>
 rF 72 x2 2 w fun x9=>
 rL 3 x9 w fun x10=>
 oP (Instr.buildSlice 25 3 #[(0,x6),(1,x8),(2,x10)]) w fun x11 w=>
 rF 72 x3 0 w fun x12=>
 rL 3 x12 w fun x13=>
 rF 72 x3 1 w fun x14=>
 rL 3 x14 w fun x15=>
 rF 72 x3 2 w fun x16=>
 rL 3 x16 w fun x17=>
 oP (Instr.buildSlice 25 3 #[(0,x13),(1,x15),(2,x17)]) w fun x18 w=>
 cL 175 [x11,x18] w fun x19 w=>
 R x19 w
def cfg174:Cfg:=⟨extL,[],[],[],[],[],[]⟩
theorem F174_call {a0 a1:Value} {w:World} {R:VW} (h:F174 a0 a1 w R):cL 174 [a0,a1] w R:=co (g:=cfg174) Tryz.func174 (by kernel_rfl) (by kernel_rfl) (by kernel_rfl) h
open Rep (rep)
structure DOrder where
 fr:Int
 to:Int
 at_:Int
theorem DOrder.ext_iff {x y:DOrder}:x=y↔(x.fr=y.fr∧x.to=y.to∧x.at_=y.at_):=⟨fun h=>by rw [h];exact ⟨rfl,rfl,rfl⟩,fun h=>by obtain ⟨h0,h1,h2⟩:=h;cases x;cases y;simp only at h0 h1 h2;simp only [h0,h1,h2]⟩
instance:DecidableEq DOrder:=fun x y=>decidable_of_iff (x.fr=y.fr∧x.to=y.to∧x.at_=y.at_) DOrder.ext_iff.symm
instance:Rep DOrder:=Rep.via fun x=>(x.fr,x.to,x.at_)
theorem zdT {w:World} {b o:Nat} {x:DOrder} (h:At w b o x):At w b (o+0) x.fr:=zcH (α:=Int) (β:=Int×Int) (p:=(x.fr,x.to,x.at_)) h
theorem zdU {w:World} {b o:Nat} {x:DOrder} (h:At w b o x):At w b (o+1) x.to:=zcH (α:=Int) (β:=Int) (p:=(x.to,x.at_)) (za5 (α:=Int) (β:=Int×Int) (p:=(x.fr,x.to,x.at_)) h)
theorem zeQ {w:World} {b o:Nat} {x:DOrder} (h:At w b o x):At w b (o+2) x.at_:=za5 (α:=Int) (β:=Int) (p:=(x.to,x.at_)) (za5 (α:=Int) (β:=Int×Int) (p:=(x.fr,x.to,x.at_)) h)
instance:RepZ DOrder:=⟨⟨(RepZ.zv:Int),(RepZ.zv:Int),(RepZ.zv:Int)⟩,RepZ.zc (Int×Int×Int),fun w=>RepZ.zr (α:=Int×Int×Int) w⟩
instance:Flat DOrder:=⟨fun h=>Flat.flat (α:=Int×Int×Int) h⟩
def zq9 (x:DOrder):List Int:=[x.fr,x.to,x.at_]
def zsx (x y:DOrder):Int:=zsw (zq9 x) (zq9 y)
theorem zra {w:World} {x y:DOrder}:CALL Tryz.prog 174 [.agg (i3 x.fr x.to x.at_),.agg (i3 y.fr y.to y.at_)] w fun r w'=>r=.int .i64 (zsx x y)∧ziM w w':=by
 refine F174_call ?_
 unfold F174
 refine zq8 ?_
 have hB1:Blk w.heap.size 72 (w.alloc (.cells (i3 x.fr x.to x.at_) 72)) (vI (zq9 x)):=heap_alloc_new w _
 refine zq8 ?_
 generalize hw1:w.alloc (.cells (i3 x.fr x.to x.at_) 72)=w1 at *
 have hB2:Blk w1.heap.size 72 (w1.alloc (.cells (i3 y.fr y.to y.at_) 72)) (vI (zq9 y)):=heap_alloc_new w1 _
 have hx2:=zay w1 (.cells (i3 y.fr y.to y.at_) 72)
 generalize hw2:w1.alloc (.cells (i3 y.fr y.to y.at_) 72)=w2 at *
 have hB12:=hB1.ext hx2
 refine zaa zh3 ?_
 refine zas ty3 hB12 rfl ?_
 refine zaa zh4 ?_
 refine zas ty3 hB12 rfl ?_
 refine zaa zjp ?_
 refine zas ty3 hB12 rfl ?_
 refine zjI u25 ty3 zvD ?_
 have hx3:=zay w2 (.cells (vI [x.fr,x.to,x.at_]).toArray 3)
 have hB3:Blk w2.heap.size 3 (w2.alloc (.cells (vI [x.fr,x.to,x.at_]).toArray 3)) (vI (zq9 x)):=heap_alloc_new w2 _
 generalize hw3:w2.alloc (.cells (vI [x.fr,x.to,x.at_]).toArray 3)=w3 at *
 have hB23:=hB2.ext hx3
 refine zaa zh3 ?_
 refine zas ty3 hB23 rfl ?_
 refine zaa zh4 ?_
 refine zas ty3 hB23 rfl ?_
 refine zaa zjp ?_
 refine zas ty3 hB23 rfl ?_
 refine zjI u25 ty3 zvD ?_
 have hx4:=zay w3 (.cells (vI [y.fr,y.to,y.at_]).toArray 3)
 have hB4:Blk w3.heap.size 3 (w3.alloc (.cells (vI [y.fr,y.to,y.at_]).toArray 3)) (vI (zq9 y)):=heap_alloc_new w3 _
 have hg:ziM w (w3.alloc (.cells (vI [y.fr,y.to,y.at_]).toArray 3)):=by rw [←hw3,←hw2,←hw1];exact zlS _ _ _ _
 refine (zni (l:=zq9 x) (m:=zq9 y) (hB3.ext hx4) hB4 (by simp [zq9]) (by simp [zq9])).mono ?_
 rintro _ _ ⟨rfl,rfl⟩
 exact ⟨rfl,hg⟩
def ltO (x y:DOrder):Prop:=x.fr<y.fr∨(x.fr=y.fr∧(x.to<y.to∨(x.to=y.to∧x.at_<y.at_)))
theorem zt9 {x y:DOrder}:zsx x y<0↔ltO x y:=by
 unfold zsx zq9 ltO
 simp only [zsw]
 rcases Int.lt_trichotomy x.fr y.fr with h | h | h
 · rw [znj h];simp;omega
 · rw [znl h]
   rcases Int.lt_trichotomy x.to y.to with h2 | h2 | h2
   · rw [znj h2];simp;omega
   · rw [znl h2]
     rcases Int.lt_trichotomy x.at_ y.at_ with h3 | h3 | h3
     · rw [znj h3];simp;omega
     · rw [znl h3];simp;omega
     rw [znk h3];simp;omega
   rw [znk h2];simp;omega
 rw [znk h];simp;omega
instance (x y:DOrder):Decidable (ltO x y):=by unfold ltO;infer_instance
theorem zfx (x:DOrder):¬ltO x x:=by unfold ltO;omega
theorem zlT {x y z:DOrder} (h:ltO x y) (k:ltO y z):ltO x z:=by unfold ltO at *;omega
theorem zlU {x y:DOrder} (h:¬ltO x y) (k:¬ltO y x):x=y:=by
 unfold ltO at *
 exact DOrder.ext_iff.2 ⟨by omega,by omega,by omega⟩
theorem ziN:∀ {l m:List DOrder},l.Pairwise ltO→m.Pairwise ltO→(∀ x,x∈l↔x∈m)→l=m
 | [],[],_,_,_=>rfl
 | [],y :: m,_,_,h=>by have:=(h y).2 (by simp);cases this
 | x :: l,[],_,_,h=>by have:=(h x).1 (by simp);cases this
 | x :: l,y :: m,h1,h2,h=>by
   rw [List.pairwise_cons] at h1 h2
   have hxy:x=y:=by
     rcases List.mem_cons.1 ((h x).1 (by simp)) with e | hm
     · exact e
     rcases List.mem_cons.1 ((h y).2 (by simp)) with e | hl
     · exact e.symm
     exact absurd (zlT (h1.1 y hl) (h2.1 x hm)) (zfx x)
   subst hxy
   congr 1
   refine ziN h1.2 h2.2 fun z=>⟨fun hz=>?_,fun hz=>?_⟩
   · rcases List.mem_cons.1 ((h z).1 (by simp [hz])) with rfl | h'
     · exact absurd (h1.1 z hz) (zfx z)
     exact h'
   rcases List.mem_cons.1 ((h z).2 (by simp [hz])) with rfl | h'
   · exact absurd (h2.1 z hz) (zfx z)
   exact h'
instance:Inhabited DOrder:=⟨⟨0,0,0⟩⟩
def zuC (x:DOrder):List Value:=[.int .i64 x.fr,.int .i64 x.to,.int .i64 x.at_]
theorem zsy:∀ {F:List Nat} {w:World} {cs:List Value} {x:DOrder},Rep.rep F w cs x→cs=zuC x:=by
 intro F w cs x h
 obtain ⟨F1,F2,c1,c2,rfl,rfl,⟨rfl,rfl,_⟩,⟨F3,F4,c3,c4,rfl,rfl,⟨rfl,rfl,_⟩,⟨rfl,rfl,_⟩⟩⟩:=h
 rfl
theorem zdV {x y:DOrder}:ltOf zsx x y=decide (ltO x y):=by
 unfold ltOf
 rw [decide_eq_decide]
 exact zt9
theorem zua:SWO (ltOf zsx):=by
 refine ⟨fun x=>?_,fun x y z h k=>?_,fun x y z h k=>?_⟩
 · rw [zdV,decide_eq_false_iff_not];exact zfx x
 · rw [zdV,decide_eq_true_eq] at *;exact zlT h k
 rw [zdV,decide_eq_false_iff_not] at *
 intro hc
 unfold ltO at *
 omega
def zub (l:List DOrder):List DOrder:=l.mergeSort fun x y=>!(ltOf zsx) y x
theorem ziO (l:List DOrder):(zub l).Perm l:=List.mergeSort_perm l _
theorem zsz (l:List DOrder):(zub l).length=l.length:=(ziO l).length_eq
theorem zuc (l:List DOrder):(zub l).Pairwise fun x y=>¬ltO y x:=by
 have:=List.pairwise_mergeSort (le:=fun x y=>!(ltOf zsx) y x) (fun a b c h1 h2=>by
   simp only [zdV,Bool.not_eq_true',decide_eq_false_iff_not] at *
   unfold ltO at *;omega) (fun a b=>by
   simp only [zdV,Bool.or_eq_true,Bool.not_eq_true',decide_eq_false_iff_not]
   unfold ltO;omega) l
 exact this.imp fun h=>by simpa [zdV] using h
theorem zsA {w:World} {lo hi:Nat} {v:Value} {l:List DOrder} (h:OwnI lo hi w v l) (hn:l.length≤1073741824) :
   CALL Tryz.prog 173 [v,.func (.func 174) #[] #[]] w fun r w'=>ChgI lo hi w w'∧OwnI lo hi w' v (zub l):=by
 obtain ⟨F,hM,hF⟩:=h
 by_cases hne:l=[]
 · subst hne
   obtain ⟨a,cap,hv⟩:∃ a cap,v=.slice a 0 cap:=by
     obtain ⟨cs,⟨a,cap,G,xs,h,_⟩,hv⟩:=hM.own
     exact ⟨a,cap,by rw [hv,h];rfl⟩
   subst hv
   refine ⟨(AnyF.slices_SortFunc_none Tryz.sortOrder a cap _ w).mono ?_⟩
   rintro e w' ⟨he,rfl⟩
   refine ⟨_,he,ChgI.refl _,F,?_,hF⟩
   have:zub []=[]:=List.eq_nil_of_length_eq_zero (by rw [zsz];rfl)
   rw [this];exact hM
 obtain ⟨b,o,cap,xs,rfl,rfl,h1,h2,hcc,hrr,hww⟩:=zoW hM hne
 have henc:=@zsy
 have hk:∀ x,(zuC x).length=Rep.size DOrder:=fun _=>rfl
 obtain ⟨c,e,hbe⟩:=hww
 have hb:b<w.heap.size:=(Array.getElem?_eq_some_iff.1 hbe).1
 have hcmp:CmpLays Tryz.prog 174 #[] zuC 3 zsx b o l.toArray.size w:=fun m os dk _ x y=>by
   have:=zra (w:=sortWorldK zuC 3 w b o m dk os) (x:=x) (y:=y)
   obtain ⟨h⟩:=this
   refine h.mono ?_
   rintro e w' ⟨v,he,hv,q,os',hw'⟩
   exact ⟨by rw [he,hv],q,os',hw'⟩
 refine ⟨(AnyQ.slices_SortFunc_total Tryz.sortOrder 3 Tryz.isAgg72 Tryz.sizeOf72 zuC (fun _=>rfl) (fun x v hv=>by
     simp only [zuC,List.mem_cons,List.not_mem_nil,or_false] at hv
     rcases hv with rfl | rfl | rfl<;>rfl) zsx zua 174 #[] b o cap l.toArray w (zd0 (ent 174 (by decide) (by kernel_rfl))) hcmp (zlF henc hk ⟨c,e,hbe⟩ hcc hrr) hb (by simp;omega) (fun x y h k=>by
     rw [zdV,decide_eq_false_iff_not] at *;exact zlU h k)).mono ?_⟩
 rintro ex w' ⟨he,n,os,hw'⟩
 have hs:=zm7 henc hk (cap:=cap) hw' ⟨c,e,hbe⟩ hcc hrr h1 h2 (by simp) (fun x hx=>by simpa [List.mem_mergeSort] using hx)
 refine ⟨_,he,?_,[b],?_,hF⟩
 · exact hs.1.toI (fun i hi=>hF i hi)
 exact hs.2
def F116 (a0:Value) (w:World) (R:VW):Prop:=
 rB .geq 3 T0 U0 a0 (iV 0) w fun x4=>
 BR x4
 (rB .leq 3 T0 U0 a0 (iV 63) w fun x7=>
 R x7 w)
 (R (Value.bool false) w)
def cfg116:Cfg:=⟨extL,[],[],[],[],[],[]⟩
theorem F116_call {a0:Value} {w:World} {R:VW} (h:F116 a0 w R):cL 116 [a0] w R:=co (g:=cfg116) Tryz.func116 (by kernel_rfl) (by kernel_rfl) (by kernel_rfl) h
theorem zsB {w:World} {n:Int}    :
   CALL Tryz.prog 116 [.int .i64 n] w fun r w'=>Ext w w'∧(r=.bool (decide (0≤n∧n≤63))):=by
 refine F116_call ?_
 unfold F116
 refine zbF ?_
 refine br (fun c1=>?_) (fun c1=>?_)
 · refine zdv ?_
   refine ⟨Ext.refl w,?_⟩
   simp [c1]
 refine ⟨Ext.refl w,?_⟩
 simp [c1]
def zrb (a b:DTouch):Prop:=a.global=b.global∧(a.write=true∨b.write=true)∧(0≤a.held∧a.held≤63)∧(0≤b.held∧b.held≤63)∧a.held.toNat &&& b.held.toNat=0
instance (a b:DTouch):Decidable (zrb a b):=by unfold zrb;infer_instance
def zu1 (a b:DTouch):DRace:=⟨a.global,min a.at_ b.at_,max a.at_ b.at_⟩
instance (x y:DRace):Decidable (ltR x y):=by unfold ltR;infer_instance
end Go.Proofs.YtbnjpfjjmhodnaaGreat
namespace Go.Proofs.YtbnjpfjjmhodnaaGreat
open Go Go.Sh Go.Proofs Go.Sort
open Rep (rep)
instance:Inhabited DRace:=⟨⟨0,0,0⟩⟩
theorem zhO {α:Type} [Rep α] [Flat α] {w:World} {lo hi:Nat} {v:Value} {x:α} (h:Is w v x):OwnI lo hi w v x:=by
 obtain ⟨F,cs,hr,hv⟩:=h
 have hF:=Flat.flat hr
 subst hF
 exact ⟨[],⟨⟨cs,hr,hv⟩,List.nodup_nil,Wr.nil w⟩,by simp⟩
def clR (a b:DTouch):List DRace:=if zrb a b then [zu1 a b] else []
def gB (a:DTouch) (bs:List DTouch):List DRace:=bs.flatMap (clR a)
def hA (bs xs:List DTouch):List DRace:=xs.flatMap fun a=>gB a bs
def hU (T:Nat→List DTouch) (xs:List DTouch) (t:Nat):List DRace:=(List.range t).flatMap fun u=>hA (T u) xs
def hT (T:Nat→List DTouch) (n:Nat):List DRace:=(List.range n).flatMap fun t=>hU T (T t) t
theorem zfy {β:Type} {f:Nat→List β} (n:Nat):(List.range (n+1)).flatMap f=(List.range n).flatMap f++f n:=by
 rw [List.range_succ,List.flatMap_append];simp
def OrdP (c:DCode) (fr to i:Nat):Prop:=MetP c i∧(zam c i).op=6∧agN c i=to∧MayP c i fr
def mkO (fr to i:Nat):DOrder:=⟨fr,to,i⟩
theorem MayP.locks {c:DCode} (hc:CodeR c) {i l:Nat} (h:MayP c i l):l<c.locks.length:=by
 induction h with
 | lock hm ho ha hj=>subst ha;exact (zdg hc (hm.lt hc) (.inl ho)).2.1
 | pass _ _ _ _ _ ih=>exact ih
 | call _ _ _ ih=>exact ih
 | back _ _ _ _ _ ih=>exact ih
open Classical in
noncomputable def zeX (c:DCode) (fr to i:Nat):List DOrder:=if OrdP c fr to i then [mkO fr to i] else []
noncomputable def ziP (c:DCode) (fr to:Nat):List DOrder:=(List.range c.ins.length).flatMap (zeX c fr to)
noncomputable def zgE (c:DCode) (fr:Nat):List DOrder:=(List.range c.locks.length).flatMap (ziP c fr)
noncomputable def zdp (c:DCode):List DOrder:=(List.range c.locks.length).flatMap (zgE c)
theorem zfg {c:DCode} {fr to i:Nat} {x:DOrder}:x∈zeX c fr to i↔OrdP c fr to i∧x=mkO fr to i:=by
 unfold zeX;split
 · rename_i h;simp [h]
 rename_i h;simp [h]
theorem zea {c:DCode} (hc:CodeR c) {x:DOrder}:x∈zdp c↔∃ fr to i,OrdP c fr to i∧x=mkO fr to i:=by
 unfold zdp zgE ziP
 simp only [List.mem_flatMap,List.mem_range,zfg]
 constructor
 · rintro ⟨fr,_,to,_,i,_,h⟩;exact ⟨fr,to,i,h⟩
 rintro ⟨fr,to,i,h,e⟩
 have hi:=h.1.lt hc
 exact ⟨fr,h.2.2.2.locks hc,to,h.2.2.1▸(zdg hc hi (.inl h.2.1)).2.1,i,hi,h,e⟩
theorem zhd {α β:Type} {f:α→List β} {B:Nat}:∀ {l:List α},(∀ a∈l,(f a).length≤B)→(l.flatMap f).length≤l.length*B
 | [],_=>by simp
 | a :: l,h=>by
   have h1:=h a (by simp)
   have h2:=zhd (l:=l) fun b hb=>h b (by simp [hb])
   simp only [List.flatMap_cons,List.length_append,List.length_cons,Nat.add_mul]
   omega
theorem zrc (c:DCode) (fr to i:Nat):(zeX c fr to i).length≤1:=by unfold zeX;split<;>simp
theorem zlV (c:DCode) (fr to k:Nat):((List.range k).flatMap (zeX c fr to)).length≤k:=by
 have:=zhd (l:=List.range k) fun a _=>zrc c fr to a
 simpa using this
theorem zlW {c:DCode} (hn:c.ins.length≤1500) (fr k:Nat):((List.range k).flatMap (ziP c fr)).length≤k*1500:=by
 have:=zhd (l:=List.range k) (f:=ziP c fr) (B:=1500) fun a _=>Nat.le_trans (zlV c fr a _) hn
 rw [List.length_range] at this;exact this
theorem zlX {c:DCode} (hn:c.ins.length≤1500) (hl:c.locks.length≤6) (k:Nat):((List.range k).flatMap (zgE c)).length≤k*9000:=by
 have:=zhd (l:=List.range k) (f:=zgE c) (B:=9000) fun a _=>by
   have:=zlW hn a c.locks.length
   unfold zgE;omega
 rw [List.length_range] at this;exact this
theorem zkD {c:DCode} (hc:CodeR c):(zdp c).length≤54000:=by
 have h6:=hc.1.locks6
 exact Nat.le_trans (zlX hc.f.ins h6 _) (by omega)
theorem znm (c:DCode):(zdp c).Pairwise ltO:=by
 unfold zdp zgE ziP
 have hr:∀ n,(List.range n).Pairwise (fun a b=>a<b):=fun n=>List.pairwise_lt_range
 refine List.pairwise_flatMap.2 ⟨fun fr _=>List.pairwise_flatMap.2 ⟨fun to _=>List.pairwise_flatMap.2 ⟨fun i _=>?_,(hr _).imp ?_⟩,(hr _).imp ?_⟩,(hr _).imp ?_⟩
 · unfold zeX;split<;>simp
 · intro a b hab x hx y hy
   obtain ⟨_,rfl⟩:=zfg.1 hx
   obtain ⟨_,rfl⟩:=zfg.1 hy
   exact .inr ⟨rfl,.inr ⟨rfl,Int.ofNat_lt.2 hab⟩⟩
 · intro a b hab x hx y hy
   simp only [List.mem_flatMap,zfg] at hx hy
   obtain ⟨_,_,_,rfl⟩:=hx
   obtain ⟨_,_,_,rfl⟩:=hy
   exact .inr ⟨rfl,.inl (Int.ofNat_lt.2 hab)⟩
 intro a b hab x hx y hy
 simp only [List.mem_flatMap,zfg] at hx hy
 obtain ⟨_,_,_,_,_,rfl⟩:=hx
 obtain ⟨_,_,_,_,_,rfl⟩:=hy
 exact .inl (Int.ofNat_lt.2 hab)
def ztn (c:DCode) (i:Nat) (l:Int):DOrder:=⟨l,agN c i,i⟩
open Classical in
noncomputable def zpH (c:DCode) (i:Nat):List DOrder:=if MetP c i∧(zam c i).op=6 then (zbo (zaK (zkV c) i)).map (ztn c i) else []
noncomputable def zmx (c:DCode) (k:Nat):List DOrder:=(List.range k).flatMap (zpH c)
theorem zlY {m:Nat} (hm:m<64) {x:Int}:x∈zbo m↔∃ i:Nat,x=(i:Int)∧m.testBit i=true:=by
 unfold zbo
 rw [zcN]
 constructor
 · rintro ⟨i,_,h⟩;exact ⟨i,h⟩
 rintro ⟨i,h,hb⟩;exact ⟨i,by have:=zfe hm hb;omega,h,hb⟩
theorem ziQ (m:Nat):∀ k,(zcM m k).Pairwise (fun a b=>a<b)
 | 0=>by simp [zcM]
 | k+1=>by
   rw [zcM]
   split
   · refine List.pairwise_append.2 ⟨ziQ m k,by simp,fun a ha b hb=>?_⟩
     obtain ⟨i,hi,rfl,_⟩:=zcN.1 ha
     simp only [List.mem_singleton] at hb
     omega
   exact ziQ m k
theorem zoj {c:DCode} {i:Nat} {x:DOrder} (hi:i<c.ins.length):x∈zpH c i↔∃ fr to,OrdP c fr to i∧fr<6∧x=mkO fr to i:=by
 unfold zpH
 split
 · rename_i h
   rw [zkw hi]
   simp only [List.mem_map,zlY zt5,zqS]
   constructor
   · rintro ⟨_,⟨l,rfl,h6,hm⟩,rfl⟩;exact ⟨l,agN c i,⟨h.1,h.2,rfl,hm⟩,h6,rfl⟩
   rintro ⟨fr,to,hp,h6,rfl⟩
   refine ⟨fr,⟨fr,rfl,h6,hp.2.2.2⟩,?_⟩
   unfold ztn mkO
   rw [hp.2.2.1]
 rename_i h
 constructor
 · intro h;cases h
 rintro ⟨fr,to,hp,_⟩;exact absurd ⟨hp.1,hp.2.1⟩ h
theorem zsC {c:DCode} {i:Nat}:(zpH c i).length≤64:=by
 unfold zpH;split
 · rw [List.length_map];exact zez _ 64
 simp
theorem zsD (c:DCode) (k:Nat):(zmx c k).length≤k*64:=by
 have:=zhd (l:=List.range k) fun a _=>zsC (c:=c) (i:=a)
 rw [List.length_range] at this;exact this
theorem zo9 (x y:DOrder):ltO x y∨x=y∨ltO y x:=by
 by_cases h1:ltO x y
 · exact .inl h1
 by_cases h2:ltO y x
 · exact .inr (.inr h2)
 exact .inr (.inl (zlU h1 h2))
theorem zrd {c:DCode} (hc:CodeR c):zub (zmx c c.ins.length)=zdp c:=by
 have hmem:∀ x,x∈zmx c c.ins.length↔x∈zdp c:=fun x=>by
   rw [zea hc]
   unfold zmx
   simp only [List.mem_flatMap,List.mem_range]
   constructor
   · rintro ⟨i,hi,hx⟩
     obtain ⟨fr,to,h,_,e⟩:=(zoj hi).1 hx
     exact ⟨fr,to,i,h,e⟩
   rintro ⟨fr,to,i,h,e⟩
   have hi:=h.1.lt hc
   have:=h.2.2.2.locks hc
   have h6:=hc.1.locks6
   exact ⟨i,hi,(zoj hi).2 ⟨fr,to,h,by omega,e⟩⟩
 have hnd:(zmx c c.ins.length).Pairwise (fun x y=>x≠y):=by
   unfold zmx
   refine List.pairwise_flatMap.2 ⟨fun i _=>?_,List.pairwise_lt_range.imp ?_⟩
   · unfold zpH;split
     · refine List.pairwise_map.2 ((ziQ _ _).imp fun {a b} h e=>?_)
       have:=congrArg DOrder.fr e
       unfold ztn at this;simp only at this;omega
     simp
   intro a b hab x hx y hy e
   have h1:∀ {i:Nat} {x:DOrder},x∈zpH c i→x.at_=i:=fun {i x} hx=>by
     unfold zpH at hx;split at hx
     · obtain ⟨l,_,rfl⟩:=List.mem_map.1 hx;rfl
     cases hx
   have:=h1 hx
   have h2:=h1 hy
   rw [e,h2] at this
   omega
 refine ziN ?_ (znm c) fun x=>(ziO _).mem_iff.trans (hmem x)
 have h1:=zuc (zmx c c.ins.length)
 have h2:(zub (zmx c c.ins.length)).Pairwise (fun x y=>x≠y):=(ziO _).symm.pairwise hnd (fun h e=>h e.symm)
 refine (List.pairwise_and_iff.2 ⟨h1,h2⟩).imp fun {x y} h=>?_
 rcases zo9 x y with h3 | h3 | h3
 · exact h3
 · exact absurd h3 h.2
 exact absurd h3 h.1
end Go.Proofs.YtbnjpfjjmhodnaaGreat
namespace Go.Sh
def FWy (nx:Nat→List Nat):Nat→Nat→Nat→Prop
 | 0,i,j=>j∈nx i
 | m+1,i,j=>FWy nx m i j∨(FWy nx m i m∧FWy nx m m j)
section
variable {nx:Nat→List Nat} {n m i j k:Nat}
theorem FWy.rp:∀ {m i j:Nat},FWy nx m i j→RP nx i j
 | 0,_,_,h=>.one h
 | m+1,_,_,h=>by
   rcases h with h | ⟨h1,h2⟩
   · exact FWy.rp h
   exact (FWy.rp h1).trans (FWy.rp h2)
theorem FWy.up (h:j∈nx i):∀ m,FWy nx m i j
 | 0=>h
 | m+1=>.inl (FWy.up h m)
theorem FWy.old {m i:Nat} (h:FWy nx (m+1) i m):FWy nx m i m:=by
 rcases h with h | ⟨h,_⟩<;>exact h
theorem FWy.old' {m j:Nat} (h:FWy nx (m+1) m j):FWy nx m m j:=by
 rcases h with h | ⟨_,h⟩<;>exact h
theorem FWy.cat:∀ {m i j k:Nat},j<m→FWy nx m i j→FWy nx m j k→FWy nx m i k
 | m+1,i,j,k,hj,h1,h2=>by
   rcases Nat.lt_or_eq_of_le (Nat.lt_succ_iff.1 hj) with hl | rfl
   · rcases h1 with a | ⟨a,b⟩
     · rcases h2 with c | ⟨c,d⟩
       · exact .inl (FWy.cat hl a c)
       exact .inr ⟨FWy.cat hl a c,d⟩
     rcases h2 with c | ⟨c,d⟩
     · exact .inr ⟨a,FWy.cat hl b c⟩
     exact .inr ⟨a,d⟩
   exact .inr ⟨h1.old,h2.old'⟩
theorem FWy.iff (hn:∀ i j,j∈nx i→i<n∧j<n):FWy nx n i j↔RP nx i j:=by
 refine ⟨FWy.rp,fun h=>?_⟩
 induction h with
 | one h=>exact FWy.up h n
 | more _ h2 ih=>exact FWy.cat (hn _ _ h2).1 ih (FWy.up h2 n)
end
theorem ziR {p q:Nat→Prop}:∀ n,(zby n p).length=(zby n fun i=>p i∧q i).length+(zby n fun i=>p i∧¬q i).length
 | 0=>rfl
 | n+1=>by
   have ih:=ziR (p:=p) (q:=q) n
   by_cases hp:p n
   · by_cases hq:q n
     · rw [zdE hp,zdE (p:=fun i=>p i∧q i) ⟨hp,hq⟩,zeg (p:=fun i=>p i∧¬q i) fun h=>h.2 hq]
       simp only [List.length_append,List.length_singleton];omega
     rw [zdE hp,zeg (p:=fun i=>p i∧q i) fun h=>hq h.2,zdE (p:=fun i=>p i∧¬q i) ⟨hp,hq⟩]
     simp only [List.length_append,List.length_singleton];omega
   rw [zeg hp,zeg (p:=fun i=>p i∧q i) fun h=>hp h.1,zeg (p:=fun i=>p i∧¬q i) fun h=>hp h.1]
   exact ih
theorem zeR {n i:Nat} {p:Nat→Prop} (hi:i<n) (hp:p i):0<(zby n p).length:=List.length_pos_of_mem (zaw.2 ⟨hi,hp⟩)
theorem zlZ {n x:Nat} {p q:Nat→Prop} (h:∀ i,i<n→p i→q i) (hx:x<n) (hq:q x) (hp:¬p x):(zby n p).length<(zby n q).length:=by
 have h1:=ziR (p:=q) (q:=p) n
 have h2:(zby n fun i=>q i∧p i)=zby n p:=zfu fun i hi=>⟨fun h=>h.2,fun k=>⟨h i hi k,k⟩⟩
 have h3:=zeR (p:=fun i=>q i∧¬p i) hx ⟨hq,hp⟩
 rw [h2] at h1
 omega
section
variable (n:Nat) (way:Nat→Nat→Prop)
def zbg (i j:Nat):Prop:=j=i∨(way i j∧way j i)
def OkC (told:Nat→Prop) (i:Nat):Prop:=i<n∧¬told i∧∀ j,j<n→way i j→way j i∨told j
open Classical in
noncomputable def zeA (told:Nat→Prop):Option Nat:=(List.range n).find? fun i=>decide (OkC n way told i)
def zfC (told:Nat→Prop) (i j:Nat):Prop:=told j∨zbg way i j
noncomputable def zc1:Nat→(Nat→Prop)→List (List Nat)
 | 0,_=>[]
 | f+1,told=>match zeA n way told with
   | none=>[]
   | some i=>zby n (zbg way i) :: zc1 f (zfC way told i)
noncomputable def zcz (told:Nat→Prop):Nat:=(zby n fun i=>¬told i).length
noncomputable def zjJ:List (List Nat):=zc1 n way n fun _=>False
def Whole (told:Nat→Prop):Prop:=∀ i j,told j→way i j→way j i→told i
end
section
variable {n:Nat} {way:Nat→Nat→Prop} {told:Nat→Prop} {i f:Nat}
theorem zfz:zeA n way told=none↔∀ i,¬OkC n way told i:=by
 unfold zeA
 rw [List.find?_eq_none]
 simp only [List.mem_range,decide_eq_true_eq]
 exact ⟨fun h i hi=>h i hi.1 hi,fun h i _=>h i⟩
theorem zeS (h:zeA n way told=some i):OkC n way told i:=by
 unfold zeA at h
 simpa using List.find?_some h
theorem zhe (h:OkC n way told i) (hm:∀ j,j<i→¬OkC n way told j):zeA n way told=some i:=by
 cases e:zeA n way told with
 | none=>exact absurd h (zfz.1 e i)
 | some k=>
   have hk:=zeS e
   unfold zeA at e
   rw [List.find?_eq_some_iff_append] at e
   obtain ⟨_,l1,l2,hr,ha⟩:=e
   rcases Nat.lt_trichotomy i k with hl | rfl | hl
   · exfalso
     have h1:(List.range n)[l1.length]?=some k:=by rw [hr];simp
     have h2:l1.length=k:=by
       obtain ⟨h3,h4⟩:=List.getElem?_eq_some_iff.1 h1
       simpa using h4
     have h3:i∈l1:=by
       have h4:(List.range n)[i]?=some i:=by simp [h.1]
       rw [hr,List.getElem?_append_left (by omega)] at h4
       exact List.mem_of_getElem? h4
     simpa [h] using ha i h3
   · rfl
   exact absurd hk (hm k hl)
theorem zpa (hi:i<n) (h:¬told i):zcz n (zfC way told i)<zcz n told:=
 zlZ (fun j _ hj=>fun hj'=>hj (.inl hj')) hi h fun hj=>hj (.inr (.inl rfl))
theorem zf2 (h:zeA n way told=none):zc1 n way f told=[]:=by
 cases f with
 | zero=>rfl
 | succ f=>simp only [zc1,h]
theorem zeT (hf:zcz n told≤f) (h:zeA n way told=some i):∃ f',zc1 n way f told=zby n (zbg way i) :: zc1 n way f' (zfC way told i)∧zcz n (zfC way told i)≤f'∧f=f'+1:=by
 have ho:=zeS h
 have h1:=zpa (way:=way) ho.1 ho.2.1
 cases f with
 | zero=>omega
 | succ f=>exact ⟨f,by simp only [zc1,h],by omega,rfl⟩
theorem zfA:zcz n told≤n:=zcC
theorem zpb (h:zcz n told=0):zeA n way told=none:=zfz.2 fun i hi=>by
 have:=zeR (p:=fun i=>¬told i) hi.1 hi.2.1
 unfold zcz at h;omega
theorem Whole.start:Whole way fun _=>False:=fun _ _ h _ _=>h
theorem Whole.more (ht:∀ i j k,way i j→way j k→way i k) (h:Whole way told):Whole way (zfC way told i):=fun a b hb h1 h2=>by
 rcases hb with hb | rfl | ⟨h3,h4⟩
 · exact .inl (h a b hb h1 h2)
 · exact .inr (.inr ⟨h2,h1⟩)
 exact .inr (.inr ⟨ht _ _ _ h3 h2,ht _ _ _ h1 h4⟩)
theorem zok (h:Whole way told) (hi:¬told i):zcz n told=zcz n (zfC way told i)+(zby n (zbg way i)).length:=by
 have h1:=ziR (p:=fun j=>¬told j) (q:=zbg way i) n
 have h2:(zby n fun j=>¬told j∧zbg way i j)=zby n (zbg way i):=zfu fun j _=>⟨fun h=>h.2,fun hp=>⟨fun hj=>by
   rcases hp with rfl | ⟨h3,h4⟩
   · exact hi hj
   exact hi (h i j hj h3 h4),hp⟩⟩
 have h3:(zby n fun j=>¬told j∧¬zbg way i j)=zby n fun j=>¬zfC way told i j:=zfu fun j _=>by
   unfold zfC;exact not_or.symm
 rw [h2,h3] at h1
 unfold zcz;omega
theorem zl0 (ht:∀ i j k,way i j→way j k→way i k):∀ (m i:Nat),(zby n fun j=>j=i∨way i j).length≤m→i<n→¬told i→∃ j,OkC n way told j
 | 0,i,hm,hi,hti=>by have:=zeR (p:=fun j=>j=i∨way i j) hi (.inl rfl);omega
 | m+1,i,hm,hi,hti=>by
   by_cases ho:OkC n way told i
   · exact ⟨i,ho⟩
   have:∃ j,j<n∧way i j∧¬way j i∧¬told j:=by
     refine Classical.byContradiction fun hne=>ho ⟨hi,hti,fun j hj hw=>?_⟩
     refine Classical.byContradiction fun hx=>hne ⟨j,hj,hw,fun h=>hx (.inl h),fun h=>hx (.inr h)⟩
   obtain ⟨j,hj,hw,hb,htj⟩:=this
   have hlt:(zby n fun k=>k=j∨way j k).length<(zby n fun k=>k=i∨way i k).length:=by
     refine zlZ (x:=i) (fun k _ hk=>?_) hi (.inl rfl) ?_
     · rcases hk with rfl | hk
       · exact .inr hw
       exact .inr (ht _ _ _ hw hk)
     rintro (rfl | h)
     · exact hb hw
     exact hb h
   exact zl0 ht m j (by omega) hj htj
theorem zhf (ht:∀ i j k,way i j→way j k→way i k) (h:0<zcz n told):∃ i,zeA n way told=some i:=by
 unfold zcz at h
 obtain ⟨i,hi⟩:=List.exists_mem_of_length_pos h
 obtain ⟨h1,h2⟩:=zaw.1 hi
 obtain ⟨j,hj⟩:=zl0 ht _ i (Nat.le_refl _) h1 h2
 cases e:zeA n way told with
 | none=>exact absurd hj (zfz.1 e j)
 | some k=>exact ⟨k,rfl⟩
theorem zhg:∀ {f:Nat} {told:Nat→Prop},Whole way told→(ht:∀ i j k,way i j→way j k→way i k)→∀ p∈zc1 n way f told,∃ i,i<n∧¬told i∧p=zby n (zbg way i)
 | 0,_,_,_,p,hp=>by cases hp
 | f+1,told,hw,ht,p,hp=>by
   simp only [zc1] at hp
   cases e:zeA n way told with
   | none=>rw [e] at hp;cases hp
   | some i=>
     rw [e] at hp
     have ho:=zeS e
     rcases List.mem_cons.1 hp with rfl | hp
     · exact ⟨i,ho.1,ho.2.1,rfl⟩
     obtain ⟨j,h1,h2,h3⟩:=zhg (hw.more ht) ht p hp
     exact ⟨j,h1,fun h=>h2 (.inl h),h3⟩
theorem zl1:∀ {f:Nat} {told:Nat→Prop},Whole way told→(ht:∀ i j k,way i j→way j k→way i k)→(zc1 n way f told).Pairwise fun a b=>∀ x∈a,x∉b
 | 0,_,_,_=>.nil
 | f+1,told,hw,ht=>by
   simp only [zc1]
   cases e:zeA n way told with
   | none=>exact .nil
   | some i=>
     refine List.pairwise_cons.2 ⟨fun p hp x hx hxp=>?_,zl1 (hw.more ht) ht⟩
     obtain ⟨j,h1,h2,rfl⟩:=zhg (hw.more ht) ht p hp
     have h3:=(zaw.1 hx).2
     have h4:=(zaw.1 hxp).2
     rcases h4 with rfl | ⟨h5,h6⟩
     · exact h2 (.inr h3)
     exact h2 ((hw.more (i:=i) ht) j x (.inr h3) h5 h6)
theorem zjK:∀ {f:Nat} {told:Nat→Prop},(zc1 n way f told).length≤f
 | 0,_=>Nat.le_refl _
 | f+1,told=>by
   simp only [zc1]
   cases zeA n way told with
   | none=>simp
   | some i=>simp only [List.length_cons];have:=zjK (f:=f) (told:=zfC way told i);omega
theorem zud (h:i<n):zby n (zbg way i)≠[]:=List.ne_nil_of_mem (zaw.2 ⟨h,.inl rfl⟩)
end
end Go.Sh
namespace Go.Proofs.YtbnjpfjjmhodnaaGreat
open Go Go.Sh Go.Proofs
open Rep (rep)
structure DArc where
 fr:Int
 to:Int
theorem DArc.ext_iff {x y:DArc}:x=y↔(x.fr=y.fr∧x.to=y.to):=⟨fun h=>by rw [h];exact ⟨rfl,rfl⟩,fun h=>by obtain ⟨h0,h1⟩:=h;cases x;cases y;simp only at h0 h1;simp only [h0,h1]⟩
instance:DecidableEq DArc:=fun x y=>decidable_of_iff (x.fr=y.fr∧x.to=y.to) DArc.ext_iff.symm
instance:Rep DArc:=Rep.via fun x=>(x.fr,x.to)
theorem zfh {w:World} {b o:Nat} {x:DArc} (h:At w b o x):At w b (o+0) x.fr:=zcH (α:=Int) (β:=Int) (p:=(x.fr,x.to)) h
theorem zfi {w:World} {b o:Nat} {x:DArc} (h:At w b o x):At w b (o+1) x.to:=za5 (α:=Int) (β:=Int) (p:=(x.fr,x.to)) h
instance:RepZ DArc:=⟨⟨(RepZ.zv:Int),(RepZ.zv:Int)⟩,RepZ.zc (Int×Int),fun w=>RepZ.zr (α:=Int×Int) w⟩
instance:Flat DArc:=⟨fun h=>Flat.flat (α:=Int×Int) h⟩
noncomputable def nxA (n:Nat) (A:List DArc) (i:Nat):List Nat:=zby n fun j=>i<n∧(⟨i,j⟩:DArc)∈A
theorem zto {n:Nat} {A:List DArc}:∀ i j,j∈nxA n A i→i<n∧j<n:=fun i j h=>by
 obtain ⟨h1,h2⟩:=zaw.1 h
 exact ⟨h2.1,h1⟩
def zol (nx:Nat→List Nat) (p:List Nat):Prop:=∃ x∈p,RP nx x x
end Go.Proofs.YtbnjpfjjmhodnaaGreat
namespace Go.Proofs.YtbnjpfjjmhodnaaGreat
open Go Go.Sh Go.Proofs Go.Sort
open Rep (rep)
def F180 (a0 a1:Value) (w:World) (R:VW):Prop:=
 (fun w=>rX 25 a0 (iV 0) w fun x6=>
 rL 3 x6 w fun x7=>
 rX 25 a1 (iV 0) w fun x9=>
 rL 3 x9 w fun x10=>
 rB .sub 3 T0 T0 x7 x10 w fun x11=>
 R x11 w) (World.drew1 w)
def cfg180:Cfg:=⟨extL,[],[],[(1,[0,1,2,3,4,5,6,7],0)],[],[],[]⟩
theorem F180_call {a0 a1:Value} {w:World} {R:VW} (h:F180 a0 a1 w R):cL 180 [a0,a1] w R:=co (g:=cfg180) Tryz.func180 (by kernel_rfl) (by kernel_rfl) (by kernel_rfl) h
open Rep (rep)
def hd0 (l:List Int):Int:=l.headD 0
theorem zf3 {w:World}:∀ {l:List (List Int)} {F:List Nat} {xs:List Value},Cells F w xs l→∃ Z:List (List Nat×Value×List Int),F=Z.flatMap (·.1)∧xs=Z.map (·.2.1)∧l=Z.map (·.2.2)∧∀ z∈Z,rep z.1 w [z.2.1] z.2.2
 | [],_,_,⟨h1,h2⟩=>⟨[],h1,h2,rfl,by simp⟩
 | y :: ys,_,_,⟨F1,F2,c1,c2,hF,hx,h1,h2⟩=>by
   obtain ⟨Z,e1,e2,e3,e4⟩:=zf3 h2
   obtain ⟨v,rfl⟩:∃ v,c1=[v]:=List.length_eq_one_iff.1 (Rep.len h1)
   refine ⟨(F1,v,y) :: Z,by simp [hF,e1],by simp [hx,e2],by simp [e3],fun z hz=>?_⟩
   rcases List.mem_cons.1 hz with rfl | hz
   · exact h1
   exact e4 z hz
theorem ziS {w:World}:∀ {Z:List (List Nat×Value×List Int)},(∀ z∈Z,rep z.1 w [z.2.1] z.2.2)→Cells (Z.flatMap (·.1)) w (Z.map (·.2.1)) (Z.map (·.2.2))
 | [],_=>⟨rfl,rfl⟩
 | z :: Z,h=>⟨z.1,Z.flatMap (·.1),[z.2.1],Z.map (·.2.1),by simp,by simp,h z (by simp),ziS fun y hy=>h y (by simp [hy])⟩
theorem znn {l:List Int} (h:l≠[]):hd0 l=l[0]'(List.length_pos_iff.2 h):=by
 cases l with
 | nil=>exact absurd rfl h
 | cons x l=>rfl
theorem zl2 {w:World} {x y:Value} {a b:List Int} (hx:Is w x a) (hy:Is w y b) (ha:a≠[]) (hb:b≠[]) (h1:0≤hd0 a∧hd0 a<1000) (h2:0≤hd0 b∧hd0 b<1000) :
   CALL Tryz.prog 180 [x,y] w fun r w'=>r=.int .i64 (hd0 a-hd0 b)∧ziM w w':=by
 refine F180_call ?_
 unfold F180
 have hg:ziM w (World.drew1 w):=⟨1,#[],by simp only [Go.Sort.grow,World.drewN,World.drew1,Array.append_empty]⟩
 have hxd:=zak w
 generalize World.drew1 w=w1 at *
 have e1:=znn ha
 have e2:=znn hb
 refine zac (i:=0) u25 ty3 hx (List.length_pos_iff.2 ha) fun b1 o1 hA1=>?_
 refine zad ty3 hA1 hxd fun _=>?_
 refine zac (i:=0) u25 ty3 hy (List.length_pos_iff.2 hb) fun b2 o2 hA2=>?_
 refine zad ty3 hA2 hxd fun _=>?_
 rw [←e1,←e2]
 refine za4 (by unfold I64;omega) ?_
 exact ⟨rfl,hg⟩
set_option maxHeartbeats 4000000 in
theorem zsE {w:World} {lo hi:Nat} {v:Value} {cs:List (List Int)} (h:OwnI lo hi w v cs) (hn:cs.length≤1000) (hne:∀ c∈cs,c≠[]) (hb:∀ c∈cs,0≤hd0 c∧hd0 c<1000) (hd:cs.Pairwise fun a b=>hd0 a≠hd0 b) :
    CALL Tryz.prog 179 [v,.func (.func 180) #[] #[]] w fun r w'=>ChgI lo hi w w'∧∃ cs':List (List Int),OwnI lo hi w' v cs'∧cs'.Perm cs∧cs'.Pairwise fun a b=>hd0 a<hd0 b:=by
  obtain ⟨F,hM,hF⟩:=h
  by_cases hne0:cs=[]
  · subst hne0
    obtain ⟨a,cap,hv⟩:∃ a cap,v=.slice a 0 cap:=by
      obtain ⟨cs,⟨a,cap,G,xs,h,_⟩,hv⟩:=hM.own
      exact ⟨a,cap,by rw [hv,h];rfl⟩
    subst hv
    refine ⟨(AnyF.slices_SortFunc_none { Tryz.sortInts with } a cap _ w).mono ?_⟩
    rintro e w' ⟨he,rfl⟩
    exact ⟨_,he,ChgI.refl _,[],⟨F,hM,hF⟩,.refl _,.nil⟩
  obtain ⟨⟨c0,⟨a,cap,Fi,xs,rfl,h1,h2,hc,h4⟩,rfl⟩,hnd,hw⟩:=hM
  rcases h4 with ⟨h4,_⟩ | ⟨b,o,rfl,rfl,hr,hbl⟩
  · exact absurd h4 hne0
  obtain ⟨Z,rfl,rfl,rfl,hZ⟩:=zf3 hc
  obtain ⟨c,e,hbe⟩:=hw b (by simp)
  have hbF:∀ z∈Z,b∉z.1:=fun z hz hm=>(List.nodup_cons.1 hnd).1 (List.mem_flatMap.2 ⟨z,hz,hm⟩)
  have hnZ:Z.length≤1000:=by simpa using hn
  have hn0:0<Z.length:=by
    rcases Nat.eq_zero_or_pos Z.length with h | h
    · exact absurd (by rw [List.eq_nil_of_length_eq_zero h];rfl) hne0
    exact h
  haveI:Inhabited (Fin Z.length):=⟨⟨0,hn0⟩⟩
  obtain ⟨enc,henc⟩:∃ enc:Fin Z.length→Value,enc=fun i=>Z[i].2.1:=⟨_,rfl⟩
  obtain ⟨cf,hcf⟩:∃ cf:Fin Z.length→Fin Z.length→Int,cf=fun i j=>hd0 Z[i].2.2-hd0 Z[j].2.2:=⟨_,rfl⟩
  obtain ⟨d,hdd⟩:∃ d:Array (Fin Z.length),d=(List.finRange Z.length).toArray:=⟨_,rfl⟩
  have hds:d.size=Z.length:=by rw [hdd];simp
  have hfin:(List.finRange Z.length).map (fun i=>Z[i])=Z:=List.ext_getElem (by simp) fun i h1 h2=>by simp
  have hdg:∀ j (hj:j<Z.length),d[j]! = ⟨j,hj⟩:=fun j hj=>by
    rw [getElem!_pos d j (by rw [hds];exact hj)]
    simp [hdd]
  have hone:OneCell enc:=fun i=>by
    have h:=Rep.one (hZ _ (List.getElem_mem i.2)) Z[i.1].2.1 (by simp)
    rw [henc];exact h
  have hHo:Holds enc w b o d:=fun j hj=>by
    rw [hds] at hj
    rw [hdg j hj]
    refine ⟨hr j _ ?_,?_⟩
    · rw [henc,List.getElem?_map,List.getElem?_eq_getElem hj];rfl
    simp [World.frozen?,hbe]
  have hmem:∀ i:Fin Z.length,Z[i].2.2∈Z.map (·.2.2):=fun i=>List.mem_map.2 ⟨_,List.getElem_mem _,rfl⟩
  have hdis:∀ i j:Fin Z.length,hd0 Z[i].2.2=hd0 Z[j].2.2→i=j:=fun i j hij=>by
    rw [List.pairwise_map,List.pairwise_iff_getElem] at hd
    rcases Nat.lt_trichotomy i.1 j.1 with h | h | h
    · exact absurd hij (hd i.1 j.1 i.2 j.2 h)
    · exact Fin.ext h
    exact absurd hij.symm (hd j.1 i.1 j.2 i.2 h)
  have hlt:∀ i j,ltOf cf i j=decide (hd0 Z[i].2.2<hd0 Z[j].2.2):=fun i j=>by
    unfold ltOf;rw [hcf,decide_eq_decide]
    show hd0 Z[i].2.2-hd0 Z[j].2.2<0↔_
    omega
  have hswo:SWO (ltOf cf):=by
    refine ⟨fun x=>?_,fun x y z h k=>?_,fun x y z h k=>?_⟩
    · rw [hlt,decide_eq_false_iff_not];omega
    · rw [hlt,decide_eq_true_eq] at *;omega
    rw [hlt,decide_eq_false_iff_not] at *;omega
  have hbw:b<w.heap.size:=(Array.getElem?_eq_some_iff.1 hbe).1
  have hblk:∀ (m:Nat) (dk:Array (Fin Z.length)) (os:Array Obj) i,i<w.heap.size→i≠b→(sortWorld enc w b o m dk os).heap[i]?=w.heap[i]?:=fun m dk os i hi hne=>by
    unfold sortWorld
    rw [heap_grow_old _ _ (by simpa [putRow,mapBlock,Sort.ahead] using hi)]
    simp [putRow,mapBlock,Sort.ahead,Array.getElem?_modify,hne.symm]
  have hrep:∀ (m:Nat) (dk:Array (Fin Z.length)) (os:Array Obj),∀ z∈Z,rep z.1 (sortWorld enc w b o m dk os) [z.2.1] z.2.2:=fun m dk os z hz=>
    Rep.keep (hZ z hz) fun i hi=>hblk m dk os i (Rep.lt (hZ z hz) i hi) fun e=>hbF z hz (e▸hi)
  have hcmp:CmpLays1 Tryz.prog 180 #[] enc cf b o d.size w:=fun m os dk _ i j=>by
    have hI:∀ k:Fin Z.length,Is (sortWorld enc w b o m dk os) (enc k) Z[k].2.2:=fun k=>⟨_,_,hrep m dk os _ (List.getElem_mem k.2),by rw [henc];rfl⟩
    obtain ⟨h⟩:=zl2 (hI i) (hI j) (hne _ (hmem i)) (hne _ (hmem j)) (hb _ (hmem i)) (hb _ (hmem j))
    refine h.mono ?_
    rintro e w' ⟨v,he,hv,q,os',hw'⟩
    exact ⟨by rw [he,hv,hcf],q,os',hw'⟩
  have hlen:(Z.map (·.2.2)).length=d.size:=by rw [hds,List.length_map]
  show CALL Tryz.prog 179 [.slice (some ⟨b,o,none⟩) (Z.map (·.2.2)).length cap,_] w _
  rw [hlen]
  refine ⟨(Any.slices_SortFunc_total Tryz.sortInts enc hone cf hswo 180 #[] b o cap d w (zd0 (ent 180 (by decide) (by kernel_rfl))) hcmp hHo hbw (by omega) (fun x y h k=>by
      rw [hlt,decide_eq_false_iff_not] at *;exact hdis x y (by omega))).mono ?_⟩
  rintro ex w' ⟨he,n,os,hw'⟩
  generalize hd':(d.toList.mergeSort fun x y=>!(ltOf cf) y x)=d' at hw'
  have hperm:d'.Perm (List.finRange Z.length):=by
    rw [←hd',hdd];exact List.mergeSort_perm _ _
  have hsrt:d'.Pairwise fun i j=>¬hd0 Z[j].2.2<hd0 Z[i].2.2:=by
    rw [←hd']
    have:=List.pairwise_mergeSort (le:=fun x y=>!(ltOf cf) y x) (fun a b c h1 h2=>by
      simp only [hlt,Bool.not_eq_true',decide_eq_false_iff_not] at *
      omega) (fun a b=>by
      simp only [hlt,Bool.or_eq_true,Bool.not_eq_true',decide_eq_false_iff_not]
      omega) d.toList
    exact this.imp fun h=>by simpa [hlt] using h
  have hZp:(d'.map fun i=>Z[i]).Perm Z:=by
    have:=hperm.map fun i=>Z[i]
    rwa [hfin] at this
  have hl':d'.length=Z.length:=by rw [hperm.length_eq];simp
  subst hw'
  have hsz2:w.heap.size≤(sortWorld enc w b o n d'.toArray os).heap.size:=by
    unfold sortWorld Go.Sort.grow
    rw [Array.size_append];simp [putRow,mapBlock,Sort.ahead]
  have hbb:∃ c',(sortWorld enc w b o n d'.toArray os).heap[b]?=some (.cells c' e (0,0)):=by
    unfold sortWorld
    rw [heap_grow_old _ _ (by simpa [putRow,mapBlock,Sort.ahead] using hbw)]
    exact ⟨_,by simp [putRow,mapBlock,Sort.ahead,Array.getElem?_modify,hbe,onCells];rfl⟩
  have hchg:Chg [b] w (sortWorld enc w b o n d'.toArray os):=⟨rfl,rfl,rfl,hsz2,fun i hi hm=>hblk _ _ _ i hi fun e=>hm (by simp [e])⟩
  generalize hZ':(d'.map fun i=>Z[i])=Z' at *
  have hmZ:∀ z∈Z',z∈Z:=fun z hz=>hZp.mem_iff.1 hz
  have hFp:(Z'.flatMap (·.1)).Perm (Z.flatMap (·.1)):=hZp.flatMap_right _
  have hxs:Z'.map (·.2.1)=d'.map enc:=by rw [←hZ',henc,List.map_map];rfl
  refine ⟨_,he,?_,Z'.map (·.2.2),⟨b :: Z'.flatMap (·.1),⟨⟨_,⟨some ⟨b,o,none⟩,cap,Z'.flatMap (·.1),Z'.map (·.2.1),rfl,?_,h2,ziS fun z hz=>hrep _ _ _ z (hmZ z hz),.inr ⟨b,o,rfl,rfl,?_,by omega⟩⟩,?_⟩,?_,?_⟩,?_⟩,hZp.map _,?_⟩
  · exact hchg.toI fun i hi=>hF i (by simp only [List.mem_cons,List.not_mem_nil,or_false] at hi;simp [hi])
  · have:=hZp.length_eq;simp only [List.length_map] at h1 ⊢;omega
  · rw [hxs]
    intro j v hv
    have hj:j<d'.length:=by
      have:=(List.getElem?_eq_some_iff.1 hv).1
      simpa using this
    have:=cell?_putRow enc (Sort.ahead w n) b o d d'.toArray hHo (by simp [hds,hl']) j (by simpa using hj)
    unfold sortWorld
    rw [cell?_grow _ _ _ (by simpa [putRow,mapBlock,Sort.ahead] using hbw),this]
    rw [List.getElem?_map,List.getElem?_eq_getElem hj] at hv
    rw [getElem!_pos d'.toArray j (by simpa using hj)]
    simpa using hv
  · have:=hZp.length_eq
    simp only [mkv,Rep.agg,cond_false,List.headD_cons,List.length_map,hds,this]
  · rw [List.nodup_cons] at hnd ⊢
    exact ⟨fun h=>hnd.1 (hFp.mem_iff.1 h),(hFp.nodup_iff).2 hnd.2⟩
  · intro i hi
    rcases List.mem_cons.1 hi with rfl | hi
    · obtain ⟨c',hc'⟩:=hbb;exact ⟨c',e,hc'⟩
    have hi':=hFp.mem_iff.1 hi
    obtain ⟨z,hz,hzi⟩:=List.mem_flatMap.1 hi'
    have hne:i≠b:=fun e=>hbF z hz (e▸hzi)
    obtain ⟨c',e',h'⟩:=hw i (by simp [hi'])
    exact ⟨c',e',by rw [hblk _ _ _ i (Array.getElem?_eq_some_iff.1 h').1 hne];exact h'⟩
  · intro i hi
    rcases List.mem_cons.1 hi with rfl | hi
    · exact hF _ (by simp)
    exact hF i (by simp [hFp.mem_iff.1 hi])
  have hs1:Z'.Pairwise fun x y=>¬hd0 y.2.2<hd0 x.2.2:=by
    rw [←hZ',List.pairwise_map];exact hsrt
  have hs2:Z'.Pairwise fun x y=>hd0 x.2.2≠hd0 y.2.2:=by
    rw [List.pairwise_map] at hd
    exact hZp.symm.pairwise hd fun h e=>h e.symm
  rw [List.pairwise_map]
  exact (List.pairwise_and_iff.2 ⟨hs1,hs2⟩).imp fun h=>by have:=h.1;have:=h.2;omega
def zfD (x:DOrder):DArc:=⟨x.fr,x.to⟩
def ltA (a b:DArc):Prop:=a.fr<b.fr∨(a.fr=b.fr∧a.to<b.to)
structure AInv (L:List DOrder) (A:List DArc):Prop where
 mem:∀ a,a∈A↔∃ x∈L,a=zfD x
 pw:A.Pairwise ltA
section
variable {L:List DOrder} {A:List DArc} {x:DOrder}
theorem AInv.start:AInv [] []:=⟨by simp,.nil⟩
theorem AInv.le (h:AInv L A) (hs:(L++[x]).Pairwise ltO):∀ a∈A,a=zfD x∨ltA a (zfD x):=fun a ha=>by
 obtain ⟨y,hy,rfl⟩:=(h.mem a).1 ha
 have:=(List.pairwise_append.1 hs).2.2 y hy x (by simp)
 unfold ltO at this
 unfold ltA zfD
 rcases this with h1 | ⟨h1,h2 | ⟨h2,_⟩⟩
 · exact .inr (.inl h1)
 · exact .inr (.inr ⟨h1,h2⟩)
 exact .inl (DArc.ext_iff.2 ⟨h1,h2⟩)
theorem AInv.old (h:AInv L A) (hm:zfD x∈A):AInv (L++[x]) A:=⟨fun a=>by
 rw [h.mem]
 constructor
 · rintro ⟨y,hy,e⟩;exact ⟨y,by simp [hy],e⟩
 rintro ⟨y,hy,rfl⟩
 rcases List.mem_append.1 hy with hy | hy
 · exact ⟨y,hy,rfl⟩
 simp only [List.mem_singleton] at hy
 subst hy
 exact (h.mem _).1 hm,h.pw⟩
theorem AInv.new (h:AInv L A) (hs:(L++[x]).Pairwise ltO) (hm:zfD x∉A):AInv (L++[x]) (A++[zfD x]):=⟨fun a=>by
 simp only [List.mem_append,List.mem_singleton,h.mem]
 constructor
 · rintro (⟨y,hy,e⟩ | rfl)
   · exact ⟨y,.inl hy,e⟩
   exact ⟨x,.inr rfl,rfl⟩
 · rintro ⟨y,hy | rfl,rfl⟩
   · exact .inl ⟨y,hy,rfl⟩
   exact .inr rfl,List.pairwise_append.2 ⟨h.pw,by simp,fun a ha b hb=>by
 simp only [List.mem_singleton] at hb
 subst hb
 rcases h.le hs a ha with rfl | h1
 · exact absurd ha hm
 exact h1⟩⟩
theorem zpc (a:DArc):¬ltA a a:=by unfold ltA;omega
theorem zre {a b:DArc} (h:ltA a b) (k:ltA b a):False:=by unfold ltA at *;omega
theorem AInv.last (h:AInv L A) (hs:(L++[x]).Pairwise ltO) (hA:0<A.length):A[A.length-1]'(by omega)=zfD x↔zfD x∈A:=by
 constructor
 · intro e;rw [←e];exact List.getElem_mem _
 intro hm
 obtain ⟨i,hi,e⟩:=List.getElem_of_mem hm
 rcases h.le hs _ (List.getElem_mem (by omega:A.length-1<A.length)) with h1 | h1
 · exact h1
 exfalso
 rcases Nat.lt_or_ge i (A.length-1) with hl | hl
 · have:=List.pairwise_iff_getElem.1 h.pw i (A.length-1) hi (by omega) hl
   rw [e] at this
   exact zre this h1
 have:i=A.length-1:=by omega
 subst this
 rw [e] at h1
 exact zpc _ h1
end
theorem zrf {N:Nat}:∀ {l:List Nat},l.Pairwise (fun a b=>a<b)→(∀ x∈l,x<N)→l.length≤N
 | l,h,hb=>by
   have h1:=List.pairwise_iff_getElem.1 h
   have:∀ i (hi:i<l.length),i≤l[i]:=fun i=>by
     induction i with
     | zero=>intro _;exact Nat.zero_le _
     | succ i ih=>
       intro hi
       have h2:=ih (by omega)
       have h3:=h1 i (i+1) (by omega) hi (by omega)
       omega
   rcases Nat.eq_zero_or_pos l.length with h0 | h0
   · omega
   have h2:=this (l.length-1) (by omega)
   have h3:=hb _ (List.getElem_mem (by omega:l.length-1<l.length))
   omega
theorem zkE {n:Nat} {A:List DArc} (hn:n≤6) (hp:A.Pairwise ltA) (hb:∀ a∈A,(0≤a.fr∧a.fr<n)∧0≤a.to∧a.to<n):A.length≤36:=by
 have h1:(A.map fun a=>(a.fr*6+a.to).toNat).Pairwise (fun a b=>a<b):=by
   rw [List.pairwise_map]
   refine hp.imp_of_mem fun {a b} ha hb' h=>?_
   have h2:=hb a ha
   have h3:=hb b hb'
   unfold ltA at h
   omega
 have:=zrf (N:=36) h1 fun x hx=>by
   obtain ⟨a,ha,rfl⟩:=List.mem_map.1 hx
   have:=hb a ha
   omega
 simpa using this
noncomputable def nxL (c:DCode) (i:Nat):List Nat:=zby c.locks.length fun j=>∃ k,OrdP c i j k
theorem OrdP.in {c:DCode} (hc:CodeR c) {i j k:Nat} (h:OrdP c i j k):i<c.locks.length∧j<c.locks.length:=
 ⟨h.2.2.2.locks hc,h.2.2.1▸(zdg hc (h.1.lt hc) (.inl h.2.1)).2.1⟩
theorem zgF {c:DCode} (hc:CodeR c) {A:List DArc} (h:AInv (zdp c) A):nxA c.locks.length A=nxL c:=by
 funext i
 refine zfu fun j hj=>?_
 rw [h.mem]
 constructor
 · rintro ⟨_,x,hx,e⟩
   obtain ⟨fr,to,k,ho,rfl⟩:=(zea hc).1 hx
   have e1:(i:Int)=fr:=congrArg DArc.fr e
   have e2:(j:Int)=to:=congrArg DArc.to e
   have e1:=Int.ofNat_inj.1 e1
   have e2:=Int.ofNat_inj.1 e2
   subst e1;subst e2
   exact ⟨k,ho⟩
 rintro ⟨k,ho⟩
 exact ⟨(ho.in hc).1,mkO i j k,(zea hc).2 ⟨i,j,k,ho,rfl⟩,rfl⟩
theorem zu2 {c:DCode} (hc:CodeR c):∀ i j,j∈nxL c i→i<c.locks.length∧j<c.locks.length:=fun i j h=>by
 obtain ⟨h1,k,h2⟩:=zaw.1 h
 exact ⟨(h2.in hc).1,h1⟩
theorem AInv.rng {c:DCode} (hc:CodeR c) {k:Nat} {A:List DArc} (h:AInv ((zdp c).take k) A):∀ a∈A,(0≤a.fr∧a.fr<c.locks.length)∧0≤a.to∧a.to<c.locks.length:=fun a ha=>by
 obtain ⟨x,hx,rfl⟩:=(h.mem a).1 ha
 obtain ⟨fr,to,i,ho,rfl⟩:=(zea hc).1 (List.mem_of_mem_take hx)
 have:=ho.in hc
 show (0≤(fr:Int)∧(fr:Int)<_)∧0≤(to:Int)∧(to:Int)<_
 omega
noncomputable def zaN (c:DCode):List (List Nat):=zjJ c.locks.length (RP (nxL c))
open Classical in
noncomputable def zcA (c:DCode):List (List Nat):=(List.range c.locks.length).flatMap fun n=>(zaN c).filter fun p=>decide (p.head?=some n∧zol (nxL c) p)
theorem zc2 {p:List Nat} {n:Nat}:p.head?=some n→hd0 (zaI p)=n:=by
 cases p with
 | nil=>intro h;cases h
 | cons x l=>intro h;cases h;rfl
theorem ziT:∀ {l m:List (List Int)},l.Pairwise (fun a b=>hd0 a<hd0 b)→m.Pairwise (fun a b=>hd0 a<hd0 b)→(∀ x,x∈l↔x∈m)→l=m
 | [],[],_,_,_=>rfl
 | [],y :: m,_,_,h=>by have:=(h y).2 (by simp);cases this
 | x :: l,[],_,_,h=>by have:=(h x).1 (by simp);cases this
 | x :: l,y :: m,h1,h2,h=>by
   rw [List.pairwise_cons] at h1 h2
   have hxy:x=y:=by
     rcases List.mem_cons.1 ((h x).1 (by simp)) with e | hm
     · exact e
     rcases List.mem_cons.1 ((h y).2 (by simp)) with e | hl
     · exact e.symm
     have:=h1.1 y hl
     have:=h2.1 x hm
     omega
   subst hxy
   congr 1
   refine ziT h1.2 h2.2 fun z=>⟨fun hz=>?_,fun hz=>?_⟩
   · rcases List.mem_cons.1 ((h z).1 (by simp [hz])) with rfl | h'
     · have:=h1.1 z hz;omega
     exact h'
   rcases List.mem_cons.1 ((h z).2 (by simp [hz])) with rfl | h'
   · have:=h2.1 z hz;omega
   exact h'
theorem zgG {c:DCode}:∀ p∈zaN c,∃ i,i<c.locks.length∧p=zby c.locks.length (zbg (RP (nxL c)) i):=fun p hp=>by
 obtain ⟨i,h1,_,h2⟩:=zhg (way:=RP (nxL c)) Whole.start (fun _ _ _=>RP.trans) p hp
 exact ⟨i,h1,h2⟩
theorem zsF (c:DCode):(zaN c).Pairwise fun a b=>∀ x∈a,x∉b:=zl1 Whole.start fun _ _ _=>RP.trans
theorem zeB (c:DCode):(zaN c).length≤c.locks.length:=zjK
theorem zdk {c:DCode} {p:List Nat} (hp:p∈zaN c):∃ n,p.head?=some n∧n∈p∧n<c.locks.length:=by
 obtain ⟨i,hi,rfl⟩:=zgG p hp
 have hne:=zud (way:=RP (nxL c)) hi
 cases e:zby c.locks.length (zbg (RP (nxL c)) i) with
 | nil=>exact absurd e hne
 | cons x l=>
   have hx:x∈zby c.locks.length (zbg (RP (nxL c)) i):=by rw [e];simp
   exact ⟨x,rfl,by simp,(zaw.1 hx).1⟩
theorem zcP {c:DCode} {p:List Nat} (hp:p∈zaN c):p.length≤c.locks.length∧∀ x∈p,x<c.locks.length:=by
 obtain ⟨i,hi,rfl⟩:=zgG p hp
 exact ⟨zcC,fun x hx=>(zaw.1 hx).1⟩
theorem zl3 (c:DCode):(zaN c).Pairwise fun a b=>hd0 (zaI a)≠hd0 (zaI b):=by
 refine (zsF c).imp_of_mem fun {a b} ha hb h e=>?_
 obtain ⟨n,h1,h2,_⟩:=zdk ha
 obtain ⟨m,k1,k2,_⟩:=zdk hb
 rw [zc2 h1,zc2 k1] at e
 have e:=Int.ofNat_inj.1 e
 subst e
 exact h n h2 k2
theorem zcQ {c:DCode} {p:List Nat}:p∈zcA c↔p∈zaN c∧zol (nxL c) p:=by
 unfold zcA
 simp only [List.mem_flatMap,List.mem_range,List.mem_filter,decide_eq_true_eq]
 constructor
 · rintro ⟨n,_,h1,_,h2⟩;exact ⟨h1,h2⟩
 rintro ⟨h1,h2⟩
 obtain ⟨n,h3,_,h4⟩:=zdk h1
 exact ⟨n,h4,h1,h3,h2⟩
theorem zl4 (c:DCode):(zcA c).Pairwise fun a b=>hd0 (zaI a)<hd0 (zaI b):=by
 unfold zcA
 refine List.pairwise_flatMap.2 ⟨fun n _=>?_,List.pairwise_lt_range.imp ?_⟩
 · refine ((zl3 c).filter _).imp_of_mem fun {a b} ha hb h=>?_
   have h2:=(List.mem_filter.1 ha).2
   have h3:=(List.mem_filter.1 hb).2
   simp only [decide_eq_true_eq] at h2 h3
   exact absurd (by rw [zc2 h2.1,zc2 h3.1]) h
 intro n m hnm a ha b hb
 have h2:=(List.mem_filter.1 ha).2
 have h3:=(List.mem_filter.1 hb).2
 simp only [decide_eq_true_eq] at h2 h3
 rw [zc2 h2.1,zc2 h3.1]
 exact Int.ofNat_lt.2 hnm
theorem zl5 {c:DCode} {p:List Nat} (hp:p∈zcA c):p.length≤c.locks.length∧(∀ x∈p,x<c.locks.length)∧p≠[]:=by
 have h1:=(zcQ.1 hp).1
 obtain ⟨n,_,h2,_⟩:=zdk h1
 exact ⟨(zcP h1).1,(zcP h1).2,List.ne_nil_of_mem h2⟩
theorem zpd (c:DCode):(zcA c).length≤c.locks.length:=by
 have h1:=zrf (N:=c.locks.length) (l:=(zcA c).map fun p=>(hd0 (zaI p)).toNat) (by
   rw [List.pairwise_map]
   refine (zl4 c).imp_of_mem fun {a b} ha hb h=>?_
   obtain ⟨n,k1,_,k2⟩:=zdk (zcQ.1 ha).1
   obtain ⟨m,j1,_,j2⟩:=zdk (zcQ.1 hb).1
   rw [zc2 k1,zc2 j1] at h ⊢
   omega) fun x hx=>by
   obtain ⟨p,hp,rfl⟩:=List.mem_map.1 hx
   obtain ⟨n,k1,_,k2⟩:=zdk (zcQ.1 hp).1
   rw [zc2 k1];omega
 simpa using h1
noncomputable def ziU (c:DCode):List Nat:=(zaN c).flatten
theorem ziV {m:Nat}:∀ {l:List (List Nat)},(∀ p∈l,p.length≤m)→l.flatten.length≤l.length*m
 | [],_=>by simp
 | a :: l,h=>by
   have h1:=h a (by simp)
   have h2:=ziV (l:=l) fun b hb=>h b (by simp [hb])
   simp only [List.flatten_cons,List.length_append,List.length_cons,Nat.add_mul]
   omega
def F186 (a0 a1 a2 a3 a4:Value) (w:World) (R:VW):Prop:=
 rL 135 a2 w fun x7=>
 rX 135 x7 a0 w fun x9=>
 rL 4 x9 w fun x10=>
 BR x10
 (rL 25 a3 w fun x13=>
 rX 25 x13 a0 w fun x15=>
 rL 3 x15 w fun x16=>
 rB .andNot 3 T0 T0 a1 x16 w fun x17=>
 rB .neq 3 T0 U0 x17 (iV 0) w fun x18=>
 BR x18
 (rL 25 a3 w fun x20=>
 rX 25 x20 a0 w fun x22=>
 rL 3 x22 w fun x23=>
 rB .or 3 T0 T0 x23 a1 w fun x25=>
 rX 25 x20 a0 w fun x26=>
 oS 3 x26 x25 w fun w=>
 oS 4 a4 (Value.bool true) w fun w=>
 R (Value.tuple #[]) w)
 (R (Value.tuple #[]) w))
 (R (Value.tuple #[]) w)
def cfg186:Cfg:=⟨extL,[],[],[],[],[],[]⟩
theorem F186_call {a0 a1 a2 a3 a4:Value} {w:World} {R:VW} (h:F186 a0 a1 a2 a3 a4 w R):cL 186 [a0,a1,a2,a3,a4] w R:=co (g:=cfg186) Tryz.func186 (by kernel_rfl) (by kernel_rfl) (by kernel_rfl) h
def F118 (a0 a1:Value) (w:World) (R:VW):Prop:=
 oP (Instr.box 135 a1) w fun x3 w=>
 NIL a0 <|
 rF 180 a0 0 w fun x15=>
 rF 28 x15 4 w fun x16=>
 rL 26 x16 w fun x17=>
 rN 26 3 x17 w fun x18=>
 oP (Instr.makeSlice 25 x18 x18) w fun x19 w=>
 oP (Instr.alloc 25 true (.tuple #[])) w fun x5 w=>
 oS 25 x5 x19 w fun w=>
 oP (Instr.alloc 4 true (.tuple #[])) w fun x6 w=>
 oS 4 x6 (Value.bool true) w fun w=>
 LOOPI [6] [x6] w fun u3 w next3=>
 rL 4 (u3 6) w fun x20=>
 BR x20
 (oS 4 (u3 6) (Value.bool false) w fun w=>
 rD (Instr.makeFunc (Go.Fn.func 186) [].toArray [x3,x5,(u3 6)].toArray) w fun x21=>
 NIL a0 <|
 rF 180 a0 0 w fun x24=>
 rF 28 x24 4 w fun x25=>
 rL 26 x25 w fun x26=>
 rN 26 3 x26 w fun x27=>
 LOOPI [28] [(iV 0)] w fun u7 w next7=>
 rC (u7 28) x27 w fun x29=>
 BR x29
 (rX 26 x26 (u7 28) w fun x31=>
 rL 77 x31 w fun x32=>
 oP (Instr.alloc 77 true (.tuple #[])) w fun x9 w=>
 oS 77 x9 x32 w fun w=>
 rL 135 x3 w fun x33=>
 rX 135 x33 (u7 28) w fun x35=>
 rL 4 x35 w fun x36=>
 rD (Op.unary .not x36) w fun x37=>
 BR x37
 (rA (u7 28) (iV 1) w fun x98=>
 next7 [x98] w)
 (rL 25 x5 w fun x38=>
 rX 25 x38 (u7 28) w fun x40=>
 rL 3 x40 w fun x41=>
 JOIN [10] (fun J19=>
 rF 77 x9 0 w fun x42=>
 rL 3 x42 w fun x43=>
 rB .eql 3 T0 U0 x43 (iV 6) w fun x45=>
 BR x45
 (rF 77 x9 1 w fun x47=>
 rL 3 x47 w fun x48=>
 rD (convert 3 97 x48) w fun x49=>
 rB .shl 3 U0 T0 (iV 1) x49 w fun x50=>
 rB .or 3 T0 T0 x41 x50 w fun x51=>
 J19 [x51] w)
 (rB .eql 3 T0 U0 x43 (iV 7) w fun x53=>
 BR x53
 (rF 77 x9 1 w fun x55=>
 rL 3 x55 w fun x56=>
 rD (convert 3 97 x56) w fun x57=>
 rB .shl 3 U0 T0 (iV 1) x57 w fun x58=>
 rB .andNot 3 T0 T0 x41 x58 w fun x59=>
 J19 [x59] w)
 (rB .eql 3 T0 U0 x43 (iV 4) w fun x61=>
 BR x61
 ((fun w=>NIL a0 <|
 rF 180 a0 0 w fun x65=>
 rF 28 x65 3 w fun x66=>
 rL 25 x66 w fun x67=>
 rF 77 x9 1 w fun x68=>
 rL 3 x68 w fun x69=>
 rX 25 x67 x69 w fun x70=>
 rL 3 x70 w fun x71=>
 OPN tp (zja x21 [x71,x41]) w fun x73 w=>
 (fun w=>rL 25 x5 w fun x74=>
 NIL a0 <|
 rF 180 a0 0 w fun x77=>
 rL 28 x77 w fun x78=>
 rF 77 x9 1 w fun x79=>
 rL 3 x79 w fun x80=>
 (fun w_=>cL 132 [x78,x80] w_ fun x81 w=>
 Ext w_ w ∧
 rB .sub 3 T0 U0 x81 (iV 1) w fun x82=>
 rX 25 x74 x82 w fun x83=>
 rL 3 x83 w fun x84=>
 J19 [x84] w) w) (World.drew1 w)) (World.drew1 w))
 (J19 [x41] w)))) (fun u19 w=>
 cL 187 [a0,(u7 28)] w fun x87 w=>
 rN 25 3 x87 w fun x88=>
 LOOPI [89] [(iV 0)] w fun u20 w next20=>
 rC (u20 89) x88 w fun x90=>
 BR x90
 (rX 25 x87 (u20 89) w fun x91=>
 rL 3 x91 w fun x92=>
 OPN tp (zja x21 [x92,(u19 10)]) w fun x96 w=>
 rA (u20 89) (iV 1) w fun x97=>
 next20 [x97] w)
 (rA (u7 28) (iV 1) w fun x98=>
 next7 [x98] w))))
 (rL 4 (u3 6) w fun x99=>
 oP (Instr.alloc 4 true (.tuple #[])) w fun x6 w=>
 oS 4 x6 x99 w fun w=>
 next3 [x6] w))
 (rL 25 x5 w fun x100=>
 R x100 w)
def cfg118:Cfg:=⟨extL,[(19,38685626227663735544087552,[10])],[(3,1267650600228229401496702162880,[6]),(7,633825300114114700748083173120,[28]),(20,316293680037414660236726243328,[89])],[(17,[0,1,2,3,4,5,6,7,8,9,10,11],0),(18,[0,1,2,3,4,5,6,7,8,9,10,11],128)],[],[],[]⟩
theorem F118_call {a0 a1:Value} {w:World} {R:VW} (h:F118 a0 a1 w R):cL 118 [a0,a1] w R:=co (g:=cfg118) Tryz.func118 (by kernel_rfl) (by kernel_rfl) (by kernel_rfl) h
open Rep (rep)
theorem zue {P:Program} {w:World} {t:TypeId} {v:Value} {K:Value→World→Prop} (h:v.cells=#[v]) (k:∀ w',Ext w w'→Blk w.heap.size t w' [v]→K (.pointer (some ⟨w.heap.size,0,none⟩)) w'):OP P (Instr.box t v) w K:=
 ⟨_,w.alloc (.cells #[v] t),by simp [Instr.box,newVar,newRow,h],k _ (zay w _) (by unfold Blk;rw [heap_alloc_new w _])⟩
def AddR (c:DCode) (out:List Nat) (ag:Bool) (i m:Nat) (out':List Nat) (ag':Bool):Prop:=
 (MetP c i∧¬zfw m (zaK out i)∧out'=out.set i (zaK out i ||| m)∧ag'=true)∨((MetP c i→zfw m (zaK out i))∧out'=out∧ag'=ag)
theorem AddR.hp {c:DCode} {out0 out out':List Nat} {ag ag':Bool} {k i m:Nat} (h:AddR c out ag i m out' ag') (hP:HP c out0 ag out k) (hi:i<c.ins.length) (hm:m<64) (hmay:∀ l,l<6→m.testBit l=true→MayP c i l):HP c out0 ag' out' k:=by
 rcases h with ⟨h1,h2,rfl,rfl⟩ | ⟨_,rfl,rfl⟩
 · exact hP.add hi hm h1 hmay h2
 exact hP
theorem AddR.sub {c:DCode} {out out':List Nat} {ag ag':Bool} {i m:Nat} (h:AddR c out ag i m out' ag') (hi:i<out.length) (hm:MetP c i):zfw m (zaK out' i):=by
 rcases h with ⟨h1,h2,rfl,rfl⟩ | ⟨h,rfl,rfl⟩
 · rw [zd8 hi,if_pos rfl];exact zth
 exact h hm
theorem AddR.mono {c:DCode} {out out':List Nat} {ag ag':Bool} {i m x j:Nat} (h:AddR c out ag i m out' ag') (hi:i<out.length) (hx:zfw x (zaK out j)):zfw x (zaK out' j):=by
 rcases h with ⟨h1,h2,rfl,rfl⟩ | ⟨_,rfl,rfl⟩
 · rw [zd8 hi]
   split
   · rename_i e;subst e;exact ziK hx
   exact hx
 exact hx
theorem AddR.ag {c:DCode} {out out':List Nat} {ag ag':Bool} {i m:Nat} (h:AddR c out ag i m out' ag') (e:ag'=false):ag=false:=by
 rcases h with ⟨_,_,_,rfl⟩ | ⟨_,_,rfl⟩
 · cases e
 exact e
structure HW (w1 w:World) (gm go g ga n:Nat) (vm:Value) (out:List Nat) (ag:Bool):Prop where
 ext:Ext w1 w
 met:Blk gm 135 w [vm]
 var:Blk go 25 w [.slice (some ⟨g,0,none⟩) n n]
 mine:Mine [g] w (.slice (some ⟨g,0,none⟩) n n) (zaI out)
 agn:Blk ga 4 w [.bool ag]
 n0:gm≠g
 n01:gm≠ga
 n1:go≠g
 n2:go≠ga
 n3:g≠ga
 g0:w1.heap.size≤g
 g1:w1.heap.size≤go
 g2:w1.heap.size≤ga
section
variable {w1 w w':World} {gm go g ga n:Nat} {vm:Value} {out:List Nat} {ag:Bool}
theorem HW.step (h:HW w1 w gm go g ga n vm out ag) (hx:Ext w w'):HW w1 w' gm go g ga n vm out ag:=⟨h.ext.trans hx,h.met.ext hx,h.var.ext hx,h.mine.ext hx,h.agn.ext hx,h.n0,h.n01,h.n1,h.n2,h.n3,h.g0,h.g1,h.g2⟩
theorem HW.set {i v:Nat} (h:HW w1 w gm go g ga n vm out ag) (hc:Chg [g] w w') (hm:Mine [g] w' (.slice (some ⟨g,0,none⟩) n n) ((zaI out).set i (v:Int))):HW w1 w' gm go g ga n vm (out.set i v) ag:=
 ⟨h.ext.chgF hc (by simp [h.g0]),h.met.chgF hc (by simp [h.n0]),h.var.chgF hc (by simp [h.n1]),by rw [zgz];exact hm,h.agn.chgF hc (by simp [Ne.symm h.n3]),h.n0,h.n01,h.n1,h.n2,h.n3,h.g0,h.g1,h.g2⟩
theorem HW.agains {ag':Bool} (h:HW w1 w gm go g ga n vm out ag) (hc:Chg [ga] w w') (hB:Blk ga 4 w' [.bool ag']):HW w1 w' gm go g ga n vm out ag':=
 ⟨h.ext.chgF hc (by simp [h.g2]),h.met.chgF hc (by simp [h.n01]),h.var.chgF hc (by simp [h.n2]),h.mine.keep fun b hb=>by
   simp only [List.mem_cons,List.not_mem_nil,or_false] at hb;subst hb
   exact hc.block b (h.mine.lt b (by simp)) (by simp [h.n3]),hB,h.n0,h.n01,h.n1,h.n2,h.n3,h.g0,h.g1,h.g2⟩
theorem HW.cell {ga':Nat} {ag':Bool} (h:HW w1 w gm go g ga n vm out ag) (hx:Ext w w') (hB:Blk ga' 4 w' [.bool ag']) (hg:w.heap.size≤ga'):HW w1 w' gm go g ga' n vm out ag':=
 ⟨h.ext.trans hx,h.met.ext hx,h.var.ext hx,h.mine.ext hx,hB,h.n0,by have:=h.met.lt;omega,h.n1,by have:=h.var.lt;omega,by have:=h.mine.lt g (by simp);omega,h.g0,h.g1,by have:=h.ext.size;omega⟩
theorem zrg {W1:World} {c:DCode} {i m:Nat} (h:HW w1 w gm go g ga n vm out ag) (hv:Is W1 vm (zgJ c)) (e1:Ext W1 w) (hn:c.ins.length=n) (hi:i<n) (hl:out.length=n) (h64:∀ x∈out,x<64) (hm:m<64) :
   CALL Tryz.prog 186 [.int .i64 (i:Int),.int .i64 (m:Int),.pointer (some ⟨gm,0,none⟩),.pointer (some ⟨go,0,none⟩),.pointer (some ⟨ga,0,none⟩)] w fun r w'=>r=.tuple #[]∧∃ out' ag',HW w1 w' gm go g ga n vm out' ag'∧Chg [g,ga] w w'∧AddR c out ag i m out' ag':=by
 refine F186_call ?_
 unfold F186
 have hml:(zgJ c).length=n:=by unfold zgJ;rw [zau,hn]
 refine zas zc6 h.met rfl ?_
 refine zac zdX ty4 hv (by rw [hml];exact hi) fun b1 o1 hA1=>?_
 refine za3 ty4 hA1 e1 ?_
 have hmk:=zbk (ms:=zgJ c) (i:=i) (by rw [hml];exact hi)
 have hms:=zbr (n:=c.ins.length) (p:=MetP c) (i:=i)
 have hiff:(zgJ c)[i]=true↔MetP c i:=by
   rw [←hmk];unfold zgJ;rw [hms];exact ⟨fun h=>h.2,fun h=>⟨by omega,h⟩⟩
 have hi64:=zf1 h64 i
 refine zbH (fun hf=>?_) (fun hf=>?_)
 · have hmet:=hiff.1 hf
   refine zas zbG h.var rfl ?_
   refine zac u25 ty3 (i:=i) h.mine.is (by rw [zag,hl];exact hi) fun b2 o2 hA2=>?_
   rw [zbz] at hA2
   refine zad ty3 hA2 (Ext.refl _) fun _=>?_
   refine zlM (m:=m) (n:=zaK out i) (by omega) (by omega) ?_
   refine zaW ?_
   refine br (fun hne=>?_) (fun heq=>?_)
   · have hns:¬zfw m (zaK out i):=fun hs=>hne (by rw [(zlQ hm hi64).2 hs];rfl)
     refine zas zbG h.var rfl ?_
     refine zac u25 ty3 (i:=i) h.mine.is (by rw [zag,hl];exact hi) fun b3 o3 hA3=>?_
     rw [zbz] at hA3
     refine zad ty3 hA3 (Ext.refl _) fun _=>?_
     refine zhV (m:=zaK out i) (n:=m) (by omega) (by omega) ?_
     have ho:=zkz hm hi64
     refine zcL (α:=Int) rfl u25 ty3 hi ?_
     refine zbP (α:=Int) rfl ty3 h.mine (by rw [zag,hl]) hi (zfv (v:=zaK out i ||| m) (by omega)) fun w2 hc2 hm2=>?_
     have h2:=h.set (v:=zaK out i ||| m) hc2 hm2
     refine zbq (α:=Raw) (lo:=0) (hi:=0) ty4 rfl rfl h2.agn (by simp) (zb9 rfl) fun w3 hc3 hB3=>?_
     exact ⟨rfl,_,true,h2.agains hc3.one hB3,(hc2.mono (by simp)).trans (hc3.one.mono (by simp)),.inl ⟨hmet,hns,rfl,rfl⟩⟩
   have hs:zfw m (zaK out i):=(zlQ hm hi64).1 (Int.ofNat_inj.1 (Decidable.not_not.1 heq))
   exact ⟨rfl,out,ag,h,Chg.refl _ _,.inr ⟨fun _=>hs,rfl,rfl⟩⟩
 exact ⟨rfl,out,ag,h,Chg.refl _ _,.inr ⟨fun hm=>(by rw [hiff.2 hm] at hf;cases hf),rfl,rfl⟩⟩
end
def CR (c:DCode) (out0:List Nat) (k h0 m:Nat) (ag:Bool):Prop:=ag=false→h0=zaK out0 k∧((zam c k).op=4→m=zaK out0 (zN c (agN c k)))∧(¬(zam c k).op=4→m=aft c [] k (zaK out0 k))
theorem HP.close {c:DCode} {out0 out:List Nat} {ag:Bool} {k h0 m:Nat} (hP:HP c out0 ag out k) (hC:CR c out0 k h0 m ag) (h1:(zam c k).op=4→zfw h0 (zaK out (eN c (agN c k)))) (h2:∀ j∈zaD c k,MetP c j→zfw m (zaK out j)):HP c out0 ag out (k+1):=
 hP.next fun e hk=>by
   obtain ⟨c1,c2,c3⟩:=hC e
   have ho:=(hP.no e).1
   rw [←ho] at c1 c2 c3
   refine ⟨fun h4=>⟨c1▸h1 h4,fun hz j hj=>?_⟩,fun h4 j hj=>?_⟩
   · rw [←c2 h4];exact h2 j hj (.back hk h4 hz hj)
   rw [←c3 h4];exact h2 j hj (.next hk h4 hj)
theorem ztp {w W0 W1:World} {b:Nat} {v1:Value} {c:DCode} (hW:WAt W0 b c) (e0:Ext W0 w) (hv:Is W1 v1 (zgJ c)) (e1:Ext W1 w) (hc:CodeR c) :
   CALL Tryz.prog 118 [.pointer (some ⟨b,0,none⟩),v1] w fun r w'=>Ext w w'∧Own w.heap.size w' r (zaI (zkV c)):=by
 refine F118_call ?_
 unfold F118
 have h8:=hc.1.procs8
 have hil:=hc.f.ins
 have hcode:=hW.wl.code
 have hcell:v1.cells=#[v1]:=by
   obtain ⟨aa,cc,FF,xx,hh,_⟩:=zdb hv
   rw [hh];rfl
 refine zue hcell fun wm hxm hBm=>?_
 have hsm:=hxm.size
 have e0m:=e0.trans hxm
 refine NIL.mk rfl ?_
 refine zaa zcd ?_
 refine zaa zaR ?_
 refine zab zdz (zao hcode) e0m fun v17 h17=>?_
 refine zae u26 h17 ?_
 have hz0:=(zhw hc h8.2).2.2
 have hP0:=HP.start (c:=c)
 have hn:c.ins.length=c.ins.length:=rfl
 generalize hnn:c.ins.length=n at hn
 rw [hnn] at hil hP0
 refine zgC (by omega) (by omega) fun w1 hx1 hM1=>?_
 have hs1:=hx1.size
 have hg1:=hM1.lt _ (List.mem_singleton.2 rfl)
 have hmg:w.heap.size<wm.heap.size:=hBm.lt
 generalize hgm:w.heap.size=gm at *
 generalize hg:wm.heap.size=g at *
 refine zhb zvR zbG rfl fun w2 hx2 hB2=>?_
 have hs2:=hx2.size
 have hM2:=hM1.ext hx2
 have hBm2:=hBm.ext (hx1.trans hx2)
 generalize hgo:w1.heap.size=go at *
 have hgo2:=hB2.lt
 refine zhb zt3 ty4 rfl fun w5 hx5 hB5=>?_
 have hHW:HW w w5 gm go g w2.heap.size n v1 (List.replicate n 0) true:=⟨hxm.trans (hx1.trans (hx2.trans hx5)),hBm2.ext hx5,hB2.ext hx5,hM2.ext hx5,hB5,by omega,by omega,by omega,by omega,by omega,by omega,by omega,by omega⟩
 generalize w2.heap.size=ga at *
 generalize List.replicate n 0=out at *
 refine LOOPI.mk (fun m us w'=>∃ (ga:Nat) (out:List Nat) (ag:Bool),us=[.pointer (some ⟨ga,0,none⟩)]∧m=(n*63-out.sum)+(if ag then 1 else 0)∧HW w w' gm go g ga n v1 out ag∧HP c out false out 0∧(ag=false→out=zkV c)) (n*63-out.sum+1) ⟨ga,out,true,rfl,rfl,hHW,hP0,fun e=>by cases e⟩ ?_
 rintro m u w6 ⟨ga,out,ag,hu,hm,hW6,hT6,hend⟩
 simp only [List.map_cons,List.map_nil,List.cons.injEq,and_true] at hu
 rw [hu]
 have hcn:=hT6.sum_le
 rw [hnn] at hcn
 refine zas ty4 hW6.agn rfl ?_
 refine zbH (fun hag=>?_) (fun hag=>?_)
 case refine_2=>
   refine zas zbG hW6.var rfl ?_
   rw [←hend hag]
   exact ⟨hW6.ext,[g],hW6.mine,fun b hb=>by simp only [List.mem_cons,List.not_mem_nil,or_false] at hb;omega⟩
 rw [hag,if_pos rfl] at hm
 refine zbq (α:=Raw) (lo:=0) (hi:=0) ty4 rfl rfl hW6.agn (by simp) (zb9 rfl) fun w7 hc7 hB7=>?_
 have hW7:=hW6.agains hc7.one hB7
 refine zaM (v:=.func (.func 186) #[] #[.pointer (some ⟨gm,0,none⟩),.pointer (some ⟨go,0,none⟩),.pointer (some ⟨ga,0,none⟩)]) (fun w' _=>by simp [Instr.makeFunc]) ?_
 refine NIL.mk rfl ?_
 refine zaa zcd ?_
 refine zaa zaR ?_
 refine zab zdz (zao hcode) (e0.trans hW7.ext) fun v26 h26=>?_
 refine zae u26 h26 ?_
 rw [hnn]
 refine zat n (fun k us w'=>∃ (out':List Nat) (ag':Bool),us=[.int .i64 (k:Int)]∧k≤n∧HW w w' gm go g ga n v1 out' ag'∧HP c out ag' out' k) 0 (Nat.zero_le _) ⟨out,false,rfl,Nat.zero_le _,hW7,hT6⟩ ?_
 rintro k mk u w8 hkm ⟨out8,ag8,hu,hkl,hW8,hT8⟩
 simp only [List.map_cons,List.map_nil,List.cons.injEq,and_true] at hu
 rw [hu]
 refine zah ?_
 refine br (fun hlt=>?_) (fun hge=>?_)
 case refine_2=>
   have hke:k=n:=by omega
   rw [hke] at hT8
   refine zas ty4 hW8.agn rfl ?_
   refine zhb zt3 ty4 rfl fun w9 hx9 hB9=>?_
   have hcn8:=hT8.sum_le
   rw [hnn] at hcn8
   refine ⟨(n*63-out8.sum)+(if ag8 then 1 else 0),?_,_,out8,ag8,rfl,rfl,hW8.cell hx9 hB9 (Nat.le_refl _),hT8.again,fun e=>?_⟩
   · cases ag8 with
     | true=>have:=hT8.yes rfl;simp;omega
     | false=>rw [(hT8.no rfl).1];simp;omega
   rw [e,←hnn] at hT8
   exact hT8.fin hc
 have hk:k<n:=by omega
 have hkn:k<c.ins.length:=by omega
 have hl8:out8.length=n:=by rw [hT8.len,hnn]
 refine zac u26 zec h26 hkn fun b3 o3 hA3=>?_
 rw [zaS] at hA3
 refine zab zec hA3 (e0.trans hW8.ext) fun v32 h32=>?_
 refine zcc zrK rfl zec rfl h32 (e0.trans hW8.ext) fun w9 hx9 hAI hV9=>?_
 have hW9:=hW8.step hx9
 have hAB9:=ze5 h32 hV9 rfl
 have hml:(zgJ c).length=n:=by unfold zgJ;rw [zau,hnn]
 have hms:=zbr (n:=c.ins.length) (p:=MetP c) (i:=k)
 have hmk:=zbk (ms:=zgJ c) (i:=k) (by rw [hml];exact hk)
 have hiff:(zgJ c)[k]=true↔MetP c k:=by
   rw [←hmk];unfold zgJ;rw [hms];exact ⟨fun h=>h.2,fun h=>⟨by omega,h⟩⟩
 refine zas zc6 hW9.met rfl ?_
 refine zac zdX ty4 (i:=k) hv (by rw [hml];exact hk) fun b4 o4 hA4=>?_
 refine za3 ty4 hA4 (e1.trans hW9.ext) ?_
 refine zaC ?_
 refine zbH (fun hf=>?_) (fun hf=>?_)
 · have hnm:¬MetP c k:=fun h=>by rw [hiff.2 h] at hf;cases hf
   refine zaf (by omega) ?_
   exact ⟨mk-1,by omega,k+1,by omega,out8,ag8,rfl,by omega,hW9,hT8.next fun _ h=>absurd h hnm⟩
 have hMk:MetP c k:=hiff.1 (by simpa using hf)
 have hk64:=hT8.lt0 k
 refine zas zbG hW9.var rfl ?_
 refine zac u25 ty3 (i:=k) hW9.mine.is (by rw [zag,hl8];exact hk) fun b5 o5 hA5=>?_
 rw [zbz] at hA5
 refine zad ty3 hA5 (Ext.refl _) fun _=>?_
 have hkz:ag8=false→zaK out8 k=zaK out k:=fun e=>by rw [(hT8.no e).1]
 have hkm8:∀ l,l<6→(zaK out8 k).testBit l=true→MayP c k l:=fun l hl hb=>(hT8.snd k l hkn hb).1
 generalize hh0:zaK out8 k=h0 at *
 refine JOIN.mk (fun us w'=>∃ (m:Nat) (out':List Nat) (ag':Bool),us=[.int .i64 (m:Int)]∧HW w w' gm go g ga n v1 out' ag'∧HP c out ag' out' k∧m<64∧CR c out k h0 m ag'∧((zam c k).op=4→zfw h0 (zaK out' (eN c (agN c k))))∧∀ l,l<6→m.testBit l=true→∀ j∈zaD c k,MayP c j l) ?_ ?_
 · have haf:aft c [] k h0=if (zam c k).op=6 then h0 ||| 2^agN c k else if (zam c k).op=7 then zku h0 (2^agN c k) else if (zam c k).op=4 then (h0 &&& (tbl [] (agN c k)).1) ||| (tbl [] (agN c k)).2 else h0:=rfl
   have hgo:¬(zam c k).op=4→∀ w',HW w w' gm go g ga n v1 out8 ag8→aft c [] k h0<64→∃ (m:Nat) (out':List Nat) (ag':Bool),[Value.int .i64 (aft c [] k h0:Nat)]=[.int .i64 (m:Int)]∧HW w w' gm go g ga n v1 out' ag'∧HP c out ag' out' k∧m<64∧CR c out k h0 m ag'∧((zam c k).op=4→zfw h0 (zaK out' (eN c (agN c k))))∧∀ l,l<6→m.testBit l=true→∀ j∈zaD c k,MayP c j l:=fun h4 w' hW' hlt'=>
     ⟨_,out8,ag8,rfl,hW',hT8,hlt',fun e=>⟨hkz e,fun h=>absurd h h4,fun _=>by rw [hkz e]⟩,fun h=>absurd h h4,fun l hl hb j hj=>zqZ h4 hMk hj (hkm8 l hl) hb⟩
   refine zaa zbM ?_
   refine zad ty3 (zax hAI) (Ext.refl _) fun _=>?_
   refine zai ?_
   refine br (fun c6=>?_) (fun c6=>?_)
   · obtain ⟨ha,_,hq⟩:=zdg hc hkn (.inl c6)
     have hp:=zkx hq
     rw [if_pos c6] at haf
     refine zaa zcW ?_
     refine zad ty3 (zaX hAI) (Ext.refl _) fun _=>?_
     rw [ha]
     refine zb2 (by kernel_rfl) u97 (by omega) ?_
     refine zfO (by omega) ?_
     refine zhV (m:=h0) (n:=2^agN c k) (by omega) (by omega) ?_
     have:=hgo (by omega) w9 hW9 (by rw [haf];exact zte hk64 hq)
     rw [haf] at this
     exact this
   rw [if_neg c6] at haf
   refine zai ?_
   refine br (fun c7=>?_) (fun c7=>?_)
   · obtain ⟨ha,_,hq⟩:=zdg hc hkn (.inr c7)
     have hp:=zkx hq
     rw [if_pos c7] at haf
     refine zaa zcW ?_
     refine zad ty3 (zaX hAI) (Ext.refl _) fun _=>?_
     rw [ha]
     refine zb2 (by kernel_rfl) u97 (by omega) ?_
     refine zfO (by omega) ?_
     refine zlM (m:=h0) (n:=2^agN c k) (by omega) (by omega) ?_
     have:=hgo (by omega) w9 hW9 (by rw [haf];exact Nat.lt_of_le_of_lt (ziC _ _) hk64)
     rw [haf] at this
     exact this
   rw [if_neg c7] at haf
   refine zai ?_
   refine br (fun c4=>?_) (fun c4=>?_)
   · obtain ⟨ha1,ha2⟩:=zff hc hkn (.inl c4)
     have hpe:agN c k<c.entry.length:=by rw [hc.2.1.1];exact ha2
     obtain ⟨he1,he2,_⟩:=zhB hc hpe
     obtain ⟨hz1,hz2,hz3⟩:=zhw hc ha2
     have hxd:=zak w9
     have hW10:=hW9.step hxd
     generalize World.drew1 w9=w10 at *
     refine NIL.mk rfl ?_
     refine zaa zcd ?_
     refine zaa za6 ?_
     refine zab zbG (zaq hcode) (e0.trans hW10.ext) fun v66 h66=>?_
     refine zaa zcW ?_
     refine zad ty3 (zaX hAI) hxd fun _=>?_
     rw [ha1]
     refine zac u25 ty3 h66 hpe fun b5 o5 hA5=>?_
     rw [zbs hpe,he1] at hA5
     refine zad ty3 hA5 (e0.trans hW10.ext) fun _=>?_
     refine zoh (args:=[_,_]) (caps:=[_,_,_]) ztj ((zrg (i:=eN c (agN c k)) (m:=h0) hW10 hv (e1.trans hW10.ext) hnn (by omega) hl8 hT8.lt hk64).mono ?_)
     rintro _ w11 ⟨rfl,out11,ag11,hW11,hc11,hR11⟩
     have hmE:MetP c (eN c (agN c k)):=.call hMk c4
     have hT11:=hR11.hp hT8 he2 hk64 fun l hl hb=>.call hMk c4 (hkm8 l hl hb)
     have hF1:=hR11.sub (by rw [hl8];omega) hmE
     have hx12:=zak w11
     have hW12:=hW11.step hx12
     have hgI:w8.heap.size<w10.heap.size:=by have:=hV9.lt;have:=hxd.size;omega
     have hne:w8.heap.size∉[g,ga]:=by have h1:=hW8.mine.lt g (by simp);have h2:=hW8.agn.lt;simp;omega
     have hAI11:=(hAB9.ext hxd).keep (hc11.block _ hgI hne)
     have hAI12:=(hAI11.ext hx12).at (e0.trans hW12.ext)
     generalize World.drew1 w11=w12 at *
     refine zas zbG hW12.var rfl ?_
     refine NIL.mk rfl ?_
     refine zaa zcd ?_
     refine zab zcF hcode (e0.trans hW12.ext) fun v76 h76=>?_
     refine zaa zcW ?_
     refine zad ty3 (zaX hAI12) (Ext.refl _) fun _=>?_
     rw [ha1]
     refine (zd5 h76 (e0.trans hW12.ext) (by omega)).mono ?_
     rintro _ w13 ⟨hx13,rfl⟩
     refine ⟨hx13,?_⟩
     have hW13:=hW12.step hx13
     rw [hz1]
     refine za4 (by unfold I64;omega) ?_
     rw [show ((zN c (agN c k)+1:Nat):Int)-1=(zN c (agN c k):Int) by omega]
     have hl11:out11.length=n:=by rw [hT11.len,hnn]
     refine zac u25 ty3 (i:=zN c (agN c k)) hW13.mine.is (by rw [zag,hl11];omega) fun b6 o6 hA6=>?_
     rw [zbz] at hA6
     refine zad ty3 hA6 (Ext.refl _) fun _=>?_
     refine ⟨zaK out11 (zN c (agN c k)),out11,ag11,rfl,hW13,hT11,hT11.lt0 _,fun e=>⟨hkz (hR11.ag e),fun _=>by rw [(hT11.no e).1],fun h=>absurd c4 h⟩,fun _=>hF1,fun l hl hb j hj=>?_⟩
     have:=hT11.snd _ l (by omega) hb
     exact .back hMk c4 this.2 this.1 hj
   rw [if_neg c4] at haf
   have:=hgo c4 w9 hW9 (by rw [haf];exact hk64)
   rw [haf] at this
   exact this
 rintro us w14 ⟨m,out14,ag14,hus,hW14,hT14,hm64,hC14,hF14,hmay⟩
 simp only [List.map_cons,List.map_nil,List.cons.injEq,and_true] at hus
 rw [hus]
 refine (ziB hcode (e0.trans hW14.ext) hc hkn).mono ?_
 rintro v86 w15 ⟨hx15,ho15⟩
 have hW15:=hW14.step hx15
 have hl2:=zfc c k
 have hnl:=fun {j:Nat} (hj:j∈zaD c k)=>(zdF hc hkn hj).1
 have hclose:=fun {out:List Nat} {o:List Nat} {ag:Bool} (hP:HP c out ag o k)=>HP.close (h0:=h0) (m:=m) hP
 generalize hNx:zaD c k=N at *
 refine zae u25 ho15.is ?_
 rw [zag]
 refine zat N.length (fun q us w'=>∃ (out':List Nat) (ag':Bool),us=[.int .i64 (q:Int)]∧q≤N.length∧HW w w' gm go g ga n v1 out' ag'∧HP c out ag' out' k∧CR c out k h0 m ag'∧((zam c k).op=4→zfw h0 (zaK out' (eN c (agN c k))))∧(∀ j∈N.take q,MetP c j→zfw m (zaK out' j))∧OwnI w14.heap.size w15.heap.size w' v86 (zaI N)) 0 (Nat.zero_le _) ⟨out14,ag14,rfl,Nat.zero_le _,hW15,hT14,hC14,hF14,by simp,ho15.toI⟩ ?_
 rintro q mq u w16 hqm ⟨out16,ag16,hu,hql,hW16,hT16,hC16,hF16,hq16,hO16⟩
 simp only [List.map_cons,List.map_nil,List.cons.injEq,and_true] at hu
 rw [hu]
 refine zah ?_
 refine br (fun hlt=>?_) (fun hge=>?_)
 case refine_2=>
   refine zaf (by omega) ?_
   rw [List.take_of_length_le (by omega)] at hq16
   exact ⟨mk-1,by omega,k+1,by omega,out16,ag16,rfl,by omega,hW16,hclose hT16 hC16 hF16 (hNx▸hq16)⟩
 have hq:q<N.length:=by omega
 refine zac u25 ty3 (i:=q) hO16.is (by rw [zag];exact hq) fun b7 o7 hA7=>?_
 rw [zbb] at hA7
 refine zad ty3 hA7 (Ext.refl _) fun _=>?_
 have htq:=fun x=>zcO hq (x:=x)
 have hj:=List.getElem_mem hq
 have hjl:=hnl hj
 have hmj:=fun l hl hb=>hmay l hl hb _ hj
 generalize N[q]=j at *
 have hl16:out16.length=n:=by rw [hT16.len,hnn]
 refine zoh (args:=[_,_]) (caps:=[_,_,_]) ztj ((zrg (i:=j) (m:=m) hW16 hv (e1.trans hW16.ext) hnn (by omega) hl16 hT16.lt hm64).mono ?_)
 rintro _ w17 ⟨rfl,out17,ag17,hW17,hc17,hR17⟩
 refine zaf (by omega) ?_
 have hg14:=hW14.mine.lt g (by simp)
 have hga14:=hW14.agn.lt
 have hjo:j<out16.length:=by omega
 refine ⟨mq-1,by omega,q+1,by omega,out17,ag17,rfl,by omega,hW17,hR17.hp hT16 hjl hm64 hmj,fun e=>hC16 (hR17.ag e),fun h4=>hR17.mono hjo (hF16 h4),fun i hi hmi=>?_,hO16.chgF hc17 (by simp;omega)⟩
 rcases (htq i).1 hi with h | h
 · exact hR17.mono hjo (hq16 i h hmi)
 subst h;exact hR17.sub hjo hmi
end Go.Proofs.YtbnjpfjjmhodnaaGreat
namespace Go.Sh
open Rep (rep)
theorem zeC {α:Type} [Rep α] {w:World} {g e o:Nat} {cs:List Value} {v:Value} {l:List α} (hB:Blk g e w cs) (ho:cs[o]?=some v) (h:Is w v l):At w g o l:=by
 obtain ⟨F,xs,hr,rfl⟩:=h
 have hr':=hr
 obtain ⟨a,cap,Fi,ys,rfl,h⟩:=hr
 refine ⟨F,_,hr',fun i u hi=>?_⟩
 have:i=0:=by
   cases i with
   | zero=>rfl
   | succ i=>simp at hi
 subst this
 simp only [List.getElem?_cons_zero,Option.some.injEq] at hi
 subst hi
 have:=hB.range o _ ho
 rw [Nat.zero_add] at this
 exact this
end Go.Sh
namespace Go.Proofs.YtbnjpfjjmhodnaaGreat
open Go Go.Sh Go.Proofs
open Rep (rep)
def F242 (a0 a1 a2:Value) (w:World) (R:VW):Prop:=
 (fun w=>NIL a0 <|
 rF 188 a0 1 w fun x8=>
 rL 135 x8 w fun x9=>
 rX 135 x9 a1 w fun x11=>
 rL 4 x11 w fun x12=>
 rD (Op.unary .not x12) w fun x13=>
 BR x13
 (NIL a0 <|
 rF 188 a0 1 w fun x35=>
 rL 135 x35 w fun x36=>
 rX 135 x36 a1 w fun x38=>
 oS 4 x38 (Value.bool true) w fun w=>
 (fun w=>NIL a0 <|
 rF 188 a0 2 w fun x41=>
 rL 25 x41 w fun x42=>
 NIL a0 <|
 rF 188 a0 2 w fun x46=>
 rL 25 x46 w fun x47=>
 rX 25 x47 a1 w fun x49=>
 rL 3 x49 w fun x50=>
 rB .or 3 T0 T0 x50 a2 w fun x52=>
 rX 25 x42 a1 w fun x53=>
 oS 3 x53 x52 w fun w=>
 NIL a0 <|
 rF 188 a0 3 w fun x56=>
 oS 4 x56 (Value.bool true) w fun w=>
 R (Value.tuple #[]) w) (World.drew1 w))
 (NIL a0 <|
 rF 188 a0 2 w fun x17=>
 rL 25 x17 w fun x18=>
 rX 25 x18 a1 w fun x20=>
 rL 3 x20 w fun x21=>
 rB .or 3 T0 T0 x21 a2 w fun x23=>
 NIL a0 <|
 rF 188 a0 2 w fun x26=>
 rL 25 x26 w fun x27=>
 rX 25 x27 a1 w fun x29=>
 rL 3 x29 w fun x30=>
 rB .neq 3 T0 T0 x23 x30 w fun x31=>
 BR x31
 (NIL a0 <|
 rF 188 a0 1 w fun x35=>
 rL 135 x35 w fun x36=>
 rX 135 x36 a1 w fun x38=>
 oS 4 x38 (Value.bool true) w fun w=>
 (fun w=>NIL a0 <|
 rF 188 a0 2 w fun x41=>
 rL 25 x41 w fun x42=>
 NIL a0 <|
 rF 188 a0 2 w fun x46=>
 rL 25 x46 w fun x47=>
 rX 25 x47 a1 w fun x49=>
 rL 3 x49 w fun x50=>
 rB .or 3 T0 T0 x50 a2 w fun x52=>
 rX 25 x42 a1 w fun x53=>
 oS 3 x53 x52 w fun w=>
 NIL a0 <|
 rF 188 a0 3 w fun x56=>
 oS 4 x56 (Value.bool true) w fun w=>
 R (Value.tuple #[]) w) (World.drew1 w))
 (R (Value.tuple #[]) w))) (World.drew1 w)
def cfg242:Cfg:=⟨extL,[],[],[(0,[0,1,2,3,4,5,6,7,8,9,10,11,12,13,14,15,16,17,18,19,20,21,22,23,24,25,26],0),(2,[0,1,2,3,4,5,6,7,8,9,10,11,12,13,14,15],0)],[],[],[]⟩
theorem F242_call {a0 a1 a2:Value} {w:World} {R:VW} (h:F242 a0 a1 a2 w R):cL 242 [a0,a1,a2] w R:=co (g:=cfg242) Tryz.func242 (by kernel_rfl) (by kernel_rfl) (by kernel_rfl) h
open Rep (rep)
theorem zjL {w:World} {v:Value} {c:DCode} (h:Is w v c):∃ a0 a1 a2 a3 a4 n0 n1 n2 n3 n4 k0 k1 k2 k3 k4,v=.agg #[.slice a0 n0 k0,.slice a1 n1 k1,.slice a2 n2 k2,.slice a3 n3 k3,.slice a4 n4 k4]:=by
 obtain ⟨F,cs,hr,rfl⟩:=h
 obtain ⟨F0,c0,F1,c1,F2,c2,F3,c3,F4,c4,rfl,rfl,⟨_,_,_,_,rfl,_⟩,⟨_,_,_,_,rfl,_⟩,⟨_,_,_,_,rfl,_⟩,⟨_,_,_,_,rfl,_⟩,⟨_,_,_,_,rfl,_⟩⟩:=zk9 hr
 exact ⟨_,_,_,_,_,_,_,_,_,_,_,_,_,_,_,rfl⟩
structure LP (c:DCode) (ms0:List Bool) (out0:List Nat) (nw:Bool) (ms:List Bool) (out:List Nat) (k:Nat):Prop where
 len:ms.length=c.ins.length
 leno:out.length=c.ins.length
 lt:∀ x∈out,x<64
 snd:∀ i,mkd ms i→MetP c i
 sndm:∀ i l,i<c.ins.length→(zaK out i).testBit l=true→MayP c i l
 root:∀ p,RootP c p→mkd ms (eN c p)
 yes:nw=true→zhM ms0+out0.sum<zhM ms+out.sum
 no:nw=false→ms=ms0∧out=out0∧∀ i,i<k→mkd ms0 i→MC c ms0 i∧((zam c i).op=4→zfw (zaK out0 i) (zaK out0 (eN c (agN c i)))∧(mkd ms0 (zN c (agN c i))→∀ j∈zaD c i,zfw (zaK out0 (zN c (agN c i))) (zaK out0 j)))∧(¬(zam c i).op=4→∀ j∈zaD c i,zfw (aft c [] i (zaK out0 i)) (zaK out0 j))
theorem LP.lt0 {c:DCode} {ms0 ms:List Bool} {out0 out:List Nat} {nw:Bool} {k:Nat} (h:LP c ms0 out0 nw ms out k) (i:Nat):zaK out i<64:=zf1 h.lt i
def zrL (ms:List Bool) (out:List Nat) (nw:Bool) (i m:Nat):Bool:=nw || !(ms.getD i false&&decide (zaK out i ||| m=zaK out i))
theorem zom {ms:List Bool} {out:List Nat} {nw:Bool} {i m:Nat} (h:mkd ms i) (h2:zaK out i ||| m=zaK out i):zrL ms out nw i m=nw:=by
 unfold mkd at h;unfold zrL;rw [h,decide_eq_true h2];simp
theorem zkF {ms:List Bool} {out:List Nat} {nw:Bool} {i m:Nat} (h:¬(mkd ms i∧zaK out i ||| m=zaK out i)):zrL ms out nw i m=true:=by
 unfold mkd at h;unfold zrL
 cases e:ms.getD i false
 · simp
 have:¬(zaK out i ||| m=zaK out i):=fun h2=>h ⟨e,h2⟩
 rw [decide_eq_false this];simp
theorem zkG {out:List Nat} {i:Nat} (h:i<out.length):out.set i (zaK out i)=out:=by rw [←zb8 h];exact List.set_getElem_self h
theorem zrh {ms:List Bool} {i:Nat}:zhM ms≤zhM (ms.set i true):=by
 by_cases h:i<ms.length
 · by_cases hk:mkd ms i
   · rw [ziJ hk];exact Nat.le_refl _
   rw [zgx h hk];omega
 rw [List.set_eq_of_length_le (by omega)];exact Nat.le_refl _
theorem LP.put {c:DCode} {ms0 ms:List Bool} {out0 out:List Nat} {nw:Bool} {k i m:Nat} (h:LP c ms0 out0 nw ms out k) (hi:i<c.ins.length) (hm:m<64) (hmet:MetP c i) (hmay:∀ l,l<6→m.testBit l=true→MayP c i l) :
   LP c ms0 out0 (zrL ms out nw i m) (ms.set i true) (out.set i (zaK out i ||| m)) k:=by
 by_cases hk:mkd ms i∧zaK out i ||| m=zaK out i
 · rw [zom hk.1 hk.2,ziJ hk.1,hk.2,zkG (by rw [h.leno];exact hi)];exact h
 rw [zkF hk]
 have h64:=h.lt0 i
 have h1:=zne (l:=out) (i:=i) (v:=zaK out i ||| m) (by rw [h.leno];exact hi)
 have h2:zaK out i≤zaK out i ||| m:=Nat.left_le_or
 have h3:=zrh (ms:=ms) (i:=i)
 refine ⟨by simp [h.len],by simp [h.leno],fun x hx=>?_,fun j hj=>?_,fun j l hj hb=>?_,fun p hp=>zd9 (h.root p hp),fun _=>?_,fun e=>by cases e⟩
 · rcases zqI hx with rfl | hx
   · exact zkz hm h64
   exact h.lt x hx
 · rcases (zb3 (by rw [h.len];exact hi)).1 hj with h4 | h4
   · exact h.snd j h4
   rw [h4];exact hmet
 · rw [zd8 (by rw [h.leno];exact hi)] at hb
   split at hb
   · rename_i e
     subst e
     rw [Nat.testBit_or,Bool.or_eq_true] at hb
     rcases hb with hb | hb
     · exact h.sndm i l hj hb
     exact hmay l (zfe hm hb) hb
   exact h.sndm j l hj hb
 have key:zhM ms+out.sum<zhM (ms.set i true)+(out.set i (zaK out i ||| m)).sum:=by
   by_cases hk1:mkd ms i
   · have:=zsu fun e=>hk ⟨hk1,e⟩
     omega
   have:=zgx (by rw [h.len];exact hi) hk1
   omega
 cases nw with
 | true=>have:=h.yes rfl;omega
 | false=>rw [←(h.no rfl).1,←(h.no rfl).2.1];exact key
theorem zri {ms:List Bool} {out:List Nat} {nw:Bool} {i m:Nat} (e:zrL ms out nw i m=false):nw=false:=by
 unfold zrL at e
 cases nw<;>simp_all
theorem zrj {out:List Nat} {i j m x:Nat} (hi:i<out.length) (hx:zfw x (zaK out j)):zfw x (zaK (out.set i (zaK out i ||| m)) j):=by
 rw [zd8 hi]
 split
 · rename_i e;subst e;exact ziK hx
 exact hx
theorem zhx {out:List Nat} {i m:Nat} (hi:i<out.length):zfw m (zaK (out.set i (zaK out i ||| m)) i):=by
 rw [zd8 hi,if_pos rfl];exact zth
theorem LP.fin {c:DCode} (hc:CodeR c) {ms0 ms:List Bool} {out0 out:List Nat} (h:LP c ms0 out0 false ms out c.ins.length):ms=zgJ c∧out=zkV c:=by
 obtain ⟨h1,h2,h3⟩:=h.no rfl
 rw [←h1,←h2] at h3
 have hT:TP c ms false ms c.ins.length:=⟨h.len,h.snd,h.root,fun e=>(by cases e),fun _=>⟨rfl,fun i hi hm=>(h3 i hi hm).1⟩⟩
 have hms:=hT.fin hc
 have hmk:∀ i,MetP c i→mkd ms i:=fun i hi=>by rw [hms];exact zbr.2 ⟨hi.lt hc,hi⟩
 exact ⟨hms,zq0 hc h.leno h.lt h.sndm fun i hm=>by
   have:=(h3 i (hm.lt hc) (hmk i hm)).2
   exact ⟨fun h4=>⟨(this.1 h4).1,fun hz=>(this.1 h4).2 (hmk _ hz)⟩,this.2⟩⟩
theorem LP.again {c:DCode} {ms0 ms:List Bool} {out0 out:List Nat} {nw:Bool} {k:Nat} (h:LP c ms0 out0 nw ms out k):LP c ms out false ms out 0:=
 ⟨h.len,h.leno,h.lt,h.snd,h.sndm,h.root,fun e=>(by cases e),fun _=>⟨rfl,rfl,fun i hi=>by omega⟩⟩
theorem LP.skip {c:DCode} {ms0 ms:List Bool} {out0 out:List Nat} {nw:Bool} {k:Nat} (h:LP c ms0 out0 nw ms out k) (hk:¬mkd ms k):LP c ms0 out0 nw ms out (k+1):=
 ⟨h.len,h.leno,h.lt,h.snd,h.sndm,h.root,h.yes,fun e=>⟨(h.no e).1,(h.no e).2.1,fun i hi hm=>by
   by_cases e2:i=k
   · subst e2;rw [(h.no e).1] at hk;exact absurd hm hk
   exact (h.no e).2.2 i (by omega) hm⟩⟩
theorem LP.close {c:DCode} {ms0 ms:List Bool} {out0 out:List Nat} {nw:Bool} {k h0 m:Nat} (h:LP c ms0 out0 nw ms out k) (hC:CR c out0 k h0 m nw) (h1:(zam c k).op=4→mkd ms (eN c (agN c k))∧zfw h0 (zaK out (eN c (agN c k))))
   (h2:((zam c k).op=4→mkd ms (zN c (agN c k)))→∀ j∈zaD c k,mkd ms j∧zfw m (zaK out j)):LP c ms0 out0 nw ms out (k+1):=
 ⟨h.len,h.leno,h.lt,h.snd,h.sndm,h.root,h.yes,fun e=>by
   obtain ⟨o1,o2,o3⟩:=h.no e
   refine ⟨o1,o2,fun i hi hm=>?_⟩
   by_cases e2:i=k
   · subst e2
     obtain ⟨c1,c2,c3⟩:=hC e
     rw [o1,o2] at h1
     rw [o1,o2] at h2
     refine ⟨⟨fun h4=>⟨(h1 h4).1,fun hz j hj=>(h2 (fun _=>hz) j hj).1⟩,fun h4 j hj=>(h2 (fun h=>absurd h h4) j hj).1⟩,fun h4=>⟨c1▸(h1 h4).2,fun hz j hj=>c2 h4▸(h2 (fun _=>hz) j hj).2⟩,fun h4 j hj=>c3 h4▸(h2 (fun h=>absurd h h4) j hj).2⟩
   exact o3 i (by omega) hm⟩
structure LW (w1 w:World) (gw g h n:Nat) (kc:List Value) (ms:List Bool) (out:List Nat) (nw:Bool):Prop where
 ext:Ext w1 w
 blk:Blk gw 188 w (kc++[.slice (some ⟨g,0,none⟩) n n,.slice (some ⟨h,0,none⟩) n n,.bool nw])
 mks:Mine [g] w (.slice (some ⟨g,0,none⟩) n n) ms
 mine:Mine [h] w (.slice (some ⟨h,0,none⟩) n n) (zaI out)
 k5:kc.length=5
 n1:gw≠g
 n2:gw≠h
 n3:g≠h
 g0:w1.heap.size≤gw
 g1:w1.heap.size≤g
 g2:w1.heap.size≤h
section
variable {w1 w w':World} {gw g h n:Nat} {kc:List Value} {ms:List Bool} {out:List Nat} {nw:Bool}
theorem LW.step (H:LW w1 w gw g h n kc ms out nw) (hx:Ext w w'):LW w1 w' gw g h n kc ms out nw:=⟨H.ext.trans hx,H.blk.ext hx,H.mks.ext hx,H.mine.ext hx,H.k5,H.n1,H.n2,H.n3,H.g0,H.g1,H.g2⟩
theorem LW.c5 (H:LW w1 w gw g h n kc ms out nw):(kc++[Value.slice (some ⟨g,0,none⟩) n n,.slice (some ⟨h,0,none⟩) n n,.bool nw])[5]?=some (.slice (some ⟨g,0,none⟩) n n):=by rw [List.getElem?_append_right (by rw [H.k5];omega),H.k5];rfl
theorem LW.c6 (H:LW w1 w gw g h n kc ms out nw):(kc++[Value.slice (some ⟨g,0,none⟩) n n,.slice (some ⟨h,0,none⟩) n n,.bool nw])[6]?=some (.slice (some ⟨h,0,none⟩) n n):=by rw [List.getElem?_append_right (by rw [H.k5];omega),H.k5];rfl
theorem LW.c7 (H:LW w1 w gw g h n kc ms out nw):(kc++[Value.slice (some ⟨g,0,none⟩) n n,.slice (some ⟨h,0,none⟩) n n,.bool nw])[7]?=some (.bool nw):=by rw [List.getElem?_append_right (by rw [H.k5];omega),H.k5];rfl
theorem LW.mark {ms':List Bool} (H:LW w1 w gw g h n kc ms out nw) (hc:Chg [g] w w') (hm:Mine [g] w' (.slice (some ⟨g,0,none⟩) n n) ms'):LW w1 w' gw g h n kc ms' out nw:=
 ⟨H.ext.chgF hc (by simp [H.g1]),H.blk.chgF hc (by simp [H.n1]),hm,H.mine.keep fun b hb=>by
   simp only [List.mem_cons,List.not_mem_nil,or_false] at hb;subst hb
   exact hc.block b (H.mine.lt b (by simp)) (by simp [Ne.symm H.n3]),H.k5,H.n1,H.n2,H.n3,H.g0,H.g1,H.g2⟩
theorem LW.set {i v:Nat} (H:LW w1 w gw g h n kc ms out nw) (hc:Chg [h] w w') (hm:Mine [h] w' (.slice (some ⟨h,0,none⟩) n n) ((zaI out).set i (v:Int))):LW w1 w' gw g h n kc ms (out.set i v) nw:=
 ⟨H.ext.chgF hc (by simp [H.g2]),H.blk.chgF hc (by simp [H.n2]),H.mks.keep fun b hb=>by
   simp only [List.mem_cons,List.not_mem_nil,or_false] at hb;subst hb
   exact hc.block b (H.mks.lt b (by simp)) (by simp [H.n3]),by rw [zgz];exact hm,H.k5,H.n1,H.n2,H.n3,H.g0,H.g1,H.g2⟩
theorem LW.news {nw':Bool} (H:LW w1 w gw g h n kc ms out nw) (hc:Chg [gw] w w') (hB:Blk gw 188 w' ((kc++[Value.slice (some ⟨g,0,none⟩) n n,.slice (some ⟨h,0,none⟩) n n,.bool nw]).set 7 (.bool nw'))):LW w1 w' gw g h n kc ms out nw':=by
 have e:(kc++[Value.slice (some ⟨g,0,none⟩) n n,.slice (some ⟨h,0,none⟩) n n,.bool nw]).set 7 (.bool nw')=kc++[Value.slice (some ⟨g,0,none⟩) n n,.slice (some ⟨h,0,none⟩) n n,.bool nw']:=by
   rw [List.set_append_right _ _ (by rw [H.k5];omega),H.k5];rfl
 rw [e] at hB
 exact ⟨H.ext.chgF hc (by simp [H.g0]),hB,H.mks.keep fun b hb=>by
   simp only [List.mem_cons,List.not_mem_nil,or_false] at hb;subst hb
   exact hc.block b (H.mks.lt b (by simp)) (by simp [Ne.symm H.n1]),H.mine.keep fun b hb=>by
   simp only [List.mem_cons,List.not_mem_nil,or_false] at hb;subst hb
   exact hc.block b (H.mine.lt b (by simp)) (by simp [Ne.symm H.n2]),H.k5,H.n1,H.n2,H.n3,H.g0,H.g1,H.g2⟩
theorem LW.l8 (H:LW w1 w gw g h n kc ms out nw):7<(kc++[Value.slice (some ⟨g,0,none⟩) n n,.slice (some ⟨h,0,none⟩) n n,.bool nw]).length:=by simp [H.k5]
theorem ziW {i m:Nat} (H:LW w1 w gw g h n kc ms out nw) (hi:i<n) (hl:ms.length=n) (hlo:out.length=n) (h64:∀ x∈out,x<64) (hm:m<64) :
   CALL Tryz.prog 242 [.pointer (some ⟨gw,0,none⟩),.int .i64 (i:Int),.int .i64 (m:Int)] w fun r w'=>r=.tuple #[]∧LW w1 w' gw g h n kc (ms.set i true) (out.set i (zaK out i ||| m)) (zrL ms out nw i m)∧Chg [gw,g,h] w w':=by
 refine F242_call ?_
 unfold F242
 have hi64:=zf1 h64 i
 have ho:=zkz hm hi64
 have hxd:=zak w
 have H1:=H.step hxd
 have hcd:Chg [gw,g,h] w (World.drew1 w):=⟨hxd.os,hxd.tape,hxd.output,hxd.size,fun b hb _=>hxd.block b hb⟩
 generalize World.drew1 w=wd at *
 have hmk:=zbk (ms:=ms) (i:=i) (by rw [hl];exact hi)
 refine NIL.mk rfl ?_
 refine zaa zgP ?_
 refine zas zc6 H1.blk H1.c5 ?_
 refine zac zdX ty4 H1.mks.is (by rw [hl];exact hi) fun b1 o1 hA1=>?_
 refine za3 ty4 hA1 (Ext.refl _) ?_
 refine zaC ?_
 have hrd:∀ {w':World} {K:Value→Prop} (H:LW w1 w' gw g h n kc ms out nw) (k:K (.int .i64 (zaK out i:Int))),RD Tryz.prog (Instr.indexAt 25 (.slice (some ⟨h,0,none⟩) n n) (.int .i64 (i:Int))) w' fun x37=>RD Tryz.prog (Instr.loadAt 3 x37) w' K:=fun H k=>by
   refine zac u25 ty3 (i:=i) H.mine.is (by rw [zag,hlo];exact hi) fun b1 o1 hA1=>?_
   rw [zbz] at hA1
   exact zad ty3 hA1 (Ext.refl _) fun _=>k
 refine zbH (fun hf=>?_) (fun hf=>?_)
 · have hnew:¬(mkd ms i∧zaK out i ||| m=zaK out i):=fun hh=>by rw [hmk.1 hh.1] at hf;cases hf
   rw [zkF hnew]
   refine NIL.mk rfl ?_
   refine zaa zgP ?_
   refine zas zc6 H1.blk H1.c5 ?_
   refine zcL (α:=Bool) rfl zdX ty4 hi ?_
   refine zbP (α:=Bool) rfl ty4 H1.mks hl hi zbf fun w2 hc2 hm2=>?_
   have H2:=H1.mark hc2 hm2
   have hx3:=zak w2
   have H3:=H2.step hx3
   have hc3:Chg [gw,g,h] w2 (World.drew1 w2):=⟨hx3.os,hx3.tape,hx3.output,hx3.size,fun b hb _=>hx3.block b hb⟩
   generalize World.drew1 w2=w3 at *
   refine NIL.mk rfl ?_
   refine zaa zeH ?_
   refine zas zbG H3.blk H3.c6 ?_
   refine NIL.mk rfl ?_
   refine zaa zeH ?_
   refine zas zbG H3.blk H3.c6 ?_
   refine zac u25 ty3 (i:=i) H3.mine.is (by rw [zag,hlo];exact hi) fun b4 o4 hA4=>?_
   rw [zbz] at hA4
   refine zad ty3 hA4 (Ext.refl _) fun _=>?_
   refine zhV (m:=zaK out i) (n:=m) (by omega) (by omega) ?_
   refine zcL (α:=Int) rfl u25 ty3 hi ?_
   refine zbP (α:=Int) rfl ty3 H3.mine (by rw [zag,hlo]) hi (zfv (v:=zaK out i ||| m) (by omega)) fun w4 hc4 hm4=>?_
   have H4:=H3.set (v:=zaK out i ||| m) hc4 hm4
   refine NIL.mk rfl ?_
   refine zaa zj5 ?_
   refine zbq (α:=Raw) (lo:=0) (hi:=0) ty4 rfl rfl H4.blk H4.l8 (zb9 rfl) fun w5 hc5 hB5=>?_
   exact ⟨rfl,H4.news hc5.one hB5,(((hcd.trans (hc2.mono (by simp))).trans hc3).trans (hc4.mono (by simp))).trans (hc5.one.mono (by simp))⟩
 have hym:mkd ms i:=by rw [hmk];simpa using hf
 refine NIL.mk rfl ?_
 refine zaa zeH ?_
 refine zas zbG H1.blk H1.c6 ?_
 refine hrd H1 ?_
 refine zhV (m:=zaK out i) (n:=m) (by omega) (by omega) ?_
 refine NIL.mk rfl ?_
 refine zaa zeH ?_
 refine zas zbG H1.blk H1.c6 ?_
 refine hrd H1 ?_
 refine zaW ?_
 refine br (fun hne=>?_) (fun heq=>?_)
 · have hnew:¬(mkd ms i∧zaK out i ||| m=zaK out i):=fun hh=>hne (by rw [hh.2])
   rw [zkF hnew]
   refine NIL.mk rfl ?_
   refine zaa zgP ?_
   refine zas zc6 H1.blk H1.c5 ?_
   refine zcL (α:=Bool) rfl zdX ty4 hi ?_
   refine zbP (α:=Bool) rfl ty4 H1.mks hl hi zbf fun w2 hc2 hm2=>?_
   have H2:=H1.mark hc2 hm2
   have hx3:=zak w2
   have H3:=H2.step hx3
   have hc3:Chg [gw,g,h] w2 (World.drew1 w2):=⟨hx3.os,hx3.tape,hx3.output,hx3.size,fun b hb _=>hx3.block b hb⟩
   generalize World.drew1 w2=w3 at *
   refine NIL.mk rfl ?_
   refine zaa zeH ?_
   refine zas zbG H3.blk H3.c6 ?_
   refine NIL.mk rfl ?_
   refine zaa zeH ?_
   refine zas zbG H3.blk H3.c6 ?_
   refine zac u25 ty3 (i:=i) H3.mine.is (by rw [zag,hlo];exact hi) fun b4 o4 hA4=>?_
   rw [zbz] at hA4
   refine zad ty3 hA4 (Ext.refl _) fun _=>?_
   refine zhV (m:=zaK out i) (n:=m) (by omega) (by omega) ?_
   refine zcL (α:=Int) rfl u25 ty3 hi ?_
   refine zbP (α:=Int) rfl ty3 H3.mine (by rw [zag,hlo]) hi (zfv (v:=zaK out i ||| m) (by omega)) fun w4 hc4 hm4=>?_
   have H4:=H3.set (v:=zaK out i ||| m) hc4 hm4
   refine NIL.mk rfl ?_
   refine zaa zj5 ?_
   refine zbq (α:=Raw) (lo:=0) (hi:=0) ty4 rfl rfl H4.blk H4.l8 (zb9 rfl) fun w5 hc5 hB5=>?_
   exact ⟨rfl,H4.news hc5.one hB5,(((hcd.trans (hc2.mono (by simp))).trans hc3).trans (hc4.mono (by simp))).trans (hc5.one.mono (by simp))⟩
 have he:zaK out i ||| m=zaK out i:=Int.ofNat_inj.1 (Decidable.not_not.1 heq)
 rw [zom hym he,ziJ hym,he,zkG (by rw [hlo];exact hi)]
 exact ⟨rfl,H1,hcd⟩
end
def F176 (a0:Value) (w:World) (R:VW):Prop:=
 oP (Instr.box 28 a0) w fun x1 w=>
 (fun w0=>PAR w0 [[(0,12)],[(1,13)],[(2,14),(1,13)],[(3,15),(2,14)],[(4,16),(3,15),(3,15)],[(5,17)],[(6,18),(5,17)],[(7,19),(6,18)],[(8,20),(7,19),(7,19)]] (fun Q=>
 (∀ (u1:Env) (T:Nat→Nat×Nat) (w:World),Ext w0 w→zbh [] w0.heap.size w.heap.size T→(True)→(fun w1=>rL 28 x1 w fun x12=>
 Ext w1 w∧Q 0 (upd u1 12 x12) (zcR T 0 (w1.heap.size,w.heap.size)) w) w) ∧
 (∀ (u1:Env) (T:Nat→Nat×Nat) (w:World),Ext w0 w→zbh [] w0.heap.size w.heap.size T→(True)→(fun w1=>rF 28 x1 4 w fun x13=>
 Ext w1 w∧Q 1 (upd u1 13 x13) (zcR T 1 (w1.heap.size,w.heap.size)) w) w) ∧
 (∀ (u1:Env) (T:Nat→Nat×Nat) (w:World),Ext w0 w→zbh [1] w0.heap.size w.heap.size T→(Q 1 u1 T w∧True)→(fun w1=>rL 26 (u1 13) w fun x14=>
 Ext w1 w∧Q 2 (upd u1 14 x14) (zcR T 2 (w1.heap.size,w.heap.size)) w) w) ∧
 (∀ (u1:Env) (T:Nat→Nat×Nat) (w:World),Ext w0 w→zbh [2] w0.heap.size w.heap.size T→(Q 2 u1 T w∧True)→(fun w1=>rN 26 3 (u1 14) w fun x15=>
 Ext w1 w∧Q 3 (upd u1 15 x15) (zcR T 3 (w1.heap.size,w.heap.size)) w) w) ∧
 (∀ (u1:Env) (T:Nat→Nat×Nat) (w:World),Ext w0 w→zbh [3,3] w0.heap.size w.heap.size T→(Q 3 u1 T w∧Q 3 u1 T w∧True)→(fun w1=>oP (Instr.makeSlice 135 (u1 15) (u1 15)) w fun x16 w=>
 Ext w1 w∧Q 4 (upd u1 16 x16) (zcR T 4 (w1.heap.size,w.heap.size)) w) w) ∧
 (∀ (u1:Env) (T:Nat→Nat×Nat) (w:World),Ext w0 w→zbh [] w0.heap.size w.heap.size T→(True)→(fun w1=>rF 28 x1 4 w fun x17=>
 Ext w1 w∧Q 5 (upd u1 17 x17) (zcR T 5 (w1.heap.size,w.heap.size)) w) w) ∧
 (∀ (u1:Env) (T:Nat→Nat×Nat) (w:World),Ext w0 w→zbh [5] w0.heap.size w.heap.size T→(Q 5 u1 T w∧True)→(fun w1=>rL 26 (u1 17) w fun x18=>
 Ext w1 w∧Q 6 (upd u1 18 x18) (zcR T 6 (w1.heap.size,w.heap.size)) w) w) ∧
 (∀ (u1:Env) (T:Nat→Nat×Nat) (w:World),Ext w0 w→zbh [6] w0.heap.size w.heap.size T→(Q 6 u1 T w∧True)→(fun w1=>rN 26 3 (u1 18) w fun x19=>
 Ext w1 w∧Q 7 (upd u1 19 x19) (zcR T 7 (w1.heap.size,w.heap.size)) w) w) ∧
 (∀ (u1:Env) (T:Nat→Nat×Nat) (w:World),Ext w0 w→zbh [7,7] w0.heap.size w.heap.size T→(Q 7 u1 T w∧Q 7 u1 T w∧True)→(fun w1=>oP (Instr.makeSlice 25 (u1 19) (u1 19)) w fun x20 w=>
 Ext w1 w∧Q 8 (upd u1 20 x20) (zcR T 8 (w1.heap.size,w.heap.size)) w) w) ∧
 True)
 (fun Q=>∀ (u1:Env) (T:Nat→Nat×Nat) (w:World),Ext w0 w→zbh [0,1,2,3,4,5,6,7,8] w0.heap.size w.heap.size T→(Q 0 u1 T w∧Q 1 u1 T w∧Q 2 u1 T w∧Q 3 u1 T w∧Q 4 u1 T w∧Q 5 u1 T w∧Q 6 u1 T w∧Q 7 u1 T w∧Q 8 u1 T w∧True) →
 rD (Instr.build 188 #[(0,(u1 12)),(1,(u1 16)),(2,(u1 20)),(3,(Value.bool true))]) w fun x21=>
 oP (Instr.box 188 x21) w fun x22 w=>
 rL 28 x1 w fun x23=>
 cL 241 [x23] w fun x24 w=>
 cL 240 [x24] w fun x25 w=>
 LOOPI [5] [(iV 0)] w fun u4 w next4=>
 rN 25 3 x25 w fun x28=>
 rC (u4 5) x28 w fun x29=>
 BR x29
 ((fun w=>rF 28 x1 3 w fun x33=>
 rL 25 x33 w fun x34=>
 rX 25 x25 (u4 5) w fun x37=>
 rL 3 x37 w fun x38=>
 rX 25 x34 x38 w fun x39=>
 rL 3 x39 w fun x40=>
 cL 242 [x22,x40,(iV 0)] w fun x41 w=>
 rA (u4 5) (iV 1) w fun x31=>
 next4 [x31] w) (World.drew1 w))
 (LOOPI [] [] w fun u7 w next7=>
 NIL x22 <|
 rF 188 x22 3 w fun x44=>
 rL 4 x44 w fun x45=>
 BR x45
 (NIL x22 <|
 rF 188 x22 3 w fun x48=>
 oS 4 x48 (Value.bool false) w fun w=>
 LOOPI [6] [(iV 0)] w fun u10 w next10=>
 rF 28 x1 4 w fun x50=>
 rL 26 x50 w fun x51=>
 rN 26 3 x51 w fun x52=>
 rC (u10 6) x52 w fun x53=>
 BR x53
 (NIL x22 <|
 rF 188 x22 1 w fun x58=>
 rL 135 x58 w fun x59=>
 rX 135 x59 (u10 6) w fun x61=>
 rL 4 x61 w fun x62=>
 rD (Op.unary .not x62) w fun x63=>
 BR x63
 (rA (u10 6) (iV 1) w fun x55=>
 next10 [x55] w)
 (rF 28 x1 4 w fun x64=>
 rL 26 x64 w fun x65=>
 rX 26 x65 (u10 6) w fun x67=>
 rL 77 x67 w fun x68=>
 oP (Instr.alloc 77 true (.tuple #[])) w fun x7 w=>
 oS 77 x7 x68 w fun w=>
 NIL x22 <|
 rF 188 x22 2 w fun x71=>
 rL 25 x71 w fun x72=>
 rX 25 x72 (u10 6) w fun x74=>
 rL 3 x74 w fun x75=>
 JOIN [8] (fun J25=>
 rF 77 x7 0 w fun x76=>
 rL 3 x76 w fun x77=>
 rB .eql 3 T0 U0 x77 (iV 6) w fun x79=>
 BR x79
 (rF 77 x7 1 w fun x81=>
 rL 3 x81 w fun x82=>
 cL 161 [x82] w fun x83 w=>
 rB .or 3 T0 T0 x75 x83 w fun x84=>
 J25 [x84] w)
 (rB .eql 3 T0 U0 x77 (iV 7) w fun x86=>
 BR x86
 (rF 77 x7 1 w fun x88=>
 rL 3 x88 w fun x89=>
 cL 161 [x89] w fun x90 w=>
 cL 243 [x75,x90] w fun x91 w=>
 J25 [x91] w)
 (rB .eql 3 T0 U0 x77 (iV 4) w fun x93=>
 BR x93
 (rF 28 x1 3 w fun x95=>
 rL 25 x95 w fun x96=>
 rF 77 x7 1 w fun x97=>
 rL 3 x97 w fun x98=>
 rX 25 x96 x98 w fun x99=>
 rL 3 x99 w fun x100=>
 cL 242 [x22,x100,x75] w fun x102 w=>
 rL 28 x1 w fun x103=>
 rF 77 x7 1 w fun x104=>
 rL 3 x104 w fun x105=>
 cL 213 [x103,x105] w fun x106 w=>
 NIL x22 <|
 rF 188 x22 1 w fun x109=>
 rL 135 x109 w fun x110=>
 rX 135 x110 x106 w fun x112=>
 rL 4 x112 w fun x113=>
 rD (Op.unary .not x113) w fun x114=>
 BR x114
 (rA (u10 6) (iV 1) w fun x55=>
 next10 [x55] w)
 (NIL x22 <|
 rF 188 x22 2 w fun x117=>
 rL 25 x117 w fun x118=>
 rX 25 x118 x106 w fun x120=>
 rL 3 x120 w fun x121=>
 J25 [x121] w))
 (J25 [x75] w)))) (fun u25 w=>
 rL 28 x1 w fun x122=>
 cL 244 [x122,(u10 6)] w fun x124 w=>
 LOOPI [11] [(iV 0)] w fun u27 w next27=>
 rN 25 3 x124 w fun x127=>
 rC (u27 11) x127 w fun x128=>
 BR x128
 (rX 25 x124 (u27 11) w fun x134=>
 rL 3 x134 w fun x135=>
 cL 242 [x22,x135,(u25 8)] w fun x137 w=>
 rA (u27 11) (iV 1) w fun x130=>
 next27 [x130] w)
 (rA (u10 6) (iV 1) w fun x55=>
 next10 [x55] w))))
 (next7 [] w))
 (R x22 w)))) (World.drew1 w)
def cfg176:Cfg:=⟨extL,[(25,5316911983139587933751502326797959936,[8])],[(4,4397979402272,[5]),(7,348449143727040986586495598005732602023872,[]),(10,348449143727040986586495597447180695113664,[6]),(27,348406608431175869278562676184201677506560,[11])],[(6,[0,1,2,3,4,5,6,7,8,9],0)],[(1,8384520,9)],[],[]⟩
theorem F176_call {a0:Value} {w:World} {R:VW} (h:F176 a0 w R):cL 176 [a0] w R:=co (g:=cfg176) Tryz.func176 (by kernel_rfl) (by kernel_rfl) (by kernel_rfl) h
open Rep (rep)
def lkQ (c:DCode) (g1 n:Nat) (w0:World):ParQ:=fun i u T w=>match i with
 | 0=>Is w0 (u 12) c
 | 1=>u 13=.pointer (some ⟨g1,0+4,none⟩)
 | 2=>Is w0 (u 14) c.ins
 | 3=>u 15=.int .i64 (n:Int)
 | 4=>∃ g,u 16=.slice (some ⟨g,0,none⟩) n n∧(T 4).1≤g∧g<(T 4).2∧Mine [g] w (.slice (some ⟨g,0,none⟩) n n) (List.replicate n false)
 | 5=>u 17=.pointer (some ⟨g1,0+4,none⟩)
 | 6=>Is w0 (u 18) c.ins
 | 7=>u 19=.int .i64 (n:Int)
 | 8=>∃ g,u 20=.slice (some ⟨g,0,none⟩) n n∧(T 8).1≤g∧g<(T 8).2∧Mine [g] w (.slice (some ⟨g,0,none⟩) n n) (zaI (List.replicate n 0))
 | _=>True
theorem zrk {w W0:World} {v0:Value} {c:DCode} (h0:Is W0 v0 c) (e0:Ext W0 w) (hc:CodeR c) :
   CALL Tryz.prog 176 [v0] w fun r w'=>Ext w w'∧∃ gw,r=.pointer (some ⟨gw,0,none⟩)∧At w' gw (0+5) (zgJ c)∧At w' gw (0+6) (zaI (zkV c)):=by
 refine F176_call ?_
 unfold F176
 have h8:=hc.1.procs8
 have hil:=hc.f.ins
 have hz0:=(zhw hc h8.2).2.2
 have hrep:=HP.start (c:=c)
 refine zbS h0 e0 fun w1 hx1 hA=>?_
 have hs1:=hx1.size
 have hn:c.ins.length=c.ins.length:=rfl
 generalize hnn:c.ins.length=n at hn
 rw [hnn] at hil hrep
 have hx1d:=zak w1
 refine PAR.mk (lkQ c w.heap.size n (World.drew1 w1)) ?_ ?_ ?_
 · intro i u u' T T' wa wb hxa hxb hd hq
   match i,hd,hq with
   | 0,hd,hq=>have:=(hd (0,12) (by decide)).1;show Is _ (u' 12) _;simp only [this];exact hq
   | 1,hd,hq=>exact (hd (1,13) (by decide)).1.trans hq
   | 2,hd,hq=>have:=(hd (2,14) (by decide)).1;show Is _ (u' 14) _;simp only [this];exact hq
   | 3,hd,hq=>exact (hd (3,15) (by decide)).1.trans hq
   | 4,hd,⟨g,q1,q2,q3,q4⟩=>
     obtain ⟨e1,e2⟩:=hd (4,16) (by decide)
     simp only at e1 e2
     exact ⟨g,e1.trans q1,by rw [e2];exact q2,by rw [e2];exact q3,q4.ext hxb⟩
   | 5,hd,hq=>exact (hd (5,17) (by decide)).1.trans hq
   | 6,hd,hq=>have:=(hd (6,18) (by decide)).1;show Is _ (u' 18) _;simp only [this];exact hq
   | 7,hd,hq=>exact (hd (7,19) (by decide)).1.trans hq
   | 8,hd,⟨g,q1,q2,q3,q4⟩=>
     obtain ⟨e1,e2⟩:=hd (8,20) (by decide)
     simp only at e1 e2
     exact ⟨g,e1.trans q1,by rw [e2];exact q2,by rw [e2];exact q3,q4.ext hxb⟩
   | n+9,_,_=>trivial
 · refine ⟨fun u T w' hx _ _=>?_,fun u T w' hx _ _=>?_,fun u T w' hx _ hp=>?_,fun u T w' hx _ hp=>?_,fun u T w' hx _ hp=>?_,fun u T w' hx _ _=>?_,fun u T w' hx _ hp=>?_,fun u T w' hx _ hp=>?_,fun u T w' hx _ hp=>?_,trivial⟩
   · exact zab zcF hA (hx1d.trans hx) fun v6 h6=>⟨Ext.refl _,h6.ext hx1d⟩
   · exact zaa zaR ⟨Ext.refl _,rfl⟩
   · have q0:u 13=_:=hp.1
     rw [q0]
     exact zab zdz (zao hA) (hx1d.trans hx) fun v6 h6=>⟨Ext.refl _,h6.ext hx1d⟩
   · have q1:Is _ (u 14) c.ins:=hp.1
     exact zae u26 q1 (by rw [hnn];exact ⟨Ext.refl _,rfl⟩)
   · have q2:u 15=_:=hp.1
     rw [q2]
     exact zeP (by omega) (by omega) fun w4 hx4 r=>⟨hx4,_,rfl,Nat.le_refl _,r.lt _ (List.mem_singleton.2 rfl),r⟩
   · exact zaa zaR ⟨Ext.refl _,rfl⟩
   · have q0:u 17=_:=hp.1
     rw [q0]
     exact zab zdz (zao hA) (hx1d.trans hx) fun v6 h6=>⟨Ext.refl _,h6.ext hx1d⟩
   · have q1:Is _ (u 18) c.ins:=hp.1
     exact zae u26 q1 (by rw [hnn];exact ⟨Ext.refl _,rfl⟩)
   have q2:u 19=_:=hp.1
   rw [q2]
   exact zgC (by omega) (by omega) fun w4 hx4 r=>⟨hx4,_,rfl,Nat.le_refl _,r.lt _ (List.mem_singleton.2 rfl),r⟩
 rintro u T w2 hx2 hap ⟨hq0,-,-,-,⟨g,q16,hga,hgb,hMg⟩,-,-,-,⟨h,q20,hha,hhb,hMh⟩,-⟩
 have hq0:Is (World.drew1 w1) (u 12) c:=hq0
 have t4:=hap.1 4 (by decide)
 have t8:=hap.1 8 (by decide)
 have d48:=hap.2 4 (by decide) 8 (by decide) (by decide)
 have hx12:=hx1d.trans hx2
 have hsd:(World.drew1 w1).heap.size=w1.heap.size:=rfl
 rw [q16,q20]
 obtain ⟨a0,a1,a2,a3,a4,n0,n1,n2,n3,n4,k0,k1,k2,k3,k4,hcv⟩:=zjL hq0
 rw [hcv]
 refine zaQ (cells:=#[.slice a0 n0 k0,.slice a1 n1 k1,.slice a2 n2 k2,.slice a3 n3 k3,.slice a4 n4 k4,.slice (some ⟨g,0,none⟩) n n,.slice (some ⟨h,0,none⟩) n n,.bool true]) (by kernel_rfl) ?_
 refine zkm fun w3 hx3 hB3=>?_
 have H3:LW w1 w3 w2.heap.size g h n [.slice a0 n0 k0,.slice a1 n1 k1,.slice a2 n2 k2,.slice a3 n3 k3,.slice a4 n4 k4] (List.replicate n false) (List.replicate n 0) true:=⟨hx12.trans hx3,hB3,hMg.ext hx3,hMh.ext hx3,rfl,by omega,by omega,by omega,hx12.size,by omega,by omega⟩
 generalize [Value.slice a0 n0 k0,.slice a1 n1 k1,.slice a2 n2 k2,.slice a3 n3 k3,.slice a4 n4 k4]=kc at *
 generalize w2.heap.size=gw at *
 refine zab zcF hA H3.ext fun v23 h23=>?_
 refine (zng h23 H3.ext hc).mono ?_
 rintro v24 w4 ⟨hx4,ho4⟩
 refine (zfd ho4.is (Ext.refl _) (by rw [zau];omega)).mono ?_
 rintro v25 w5 ⟨hx5,ho5⟩
 rw [zau,zey] at ho5
 have H4:=H3.step hx4
 have H5:=H4.step hx5
 have hL:∀ p,p∈zby c.procs.length (RootP c)↔RootP c p:=fun p=>by rw [zaw];exact ⟨fun h=>h.2,fun h=>⟨h.lt hc,h⟩⟩
 have hLl:(zby c.procs.length (RootP c)).length≤8:=Nat.le_trans zcC h8.1
 generalize zby c.procs.length (RootP c)=L at *
 have hgw4:=H4.blk.lt
 have hg4:=H4.mks.lt g (by simp)
 have hh4:=H4.mine.lt h (by simp)
 have hrl:(List.replicate n 0).length=n:=by simp
 have hr64:∀ x∈List.replicate n 0,x<64:=fun x hx=>by rw [(List.mem_replicate.1 hx).2];omega
 have hset0:∀ i,i<n→(List.replicate n 0).set i (zaK (List.replicate n 0) i ||| 0)=List.replicate n 0:=fun i hi=>by rw [Nat.or_zero,zkG (by rw [hrl];exact hi)]
 have hmz:∀ i l,i<c.ins.length→(zaK (List.replicate n 0) i).testBit l=true→MayP c i l:=fun i l hi hb=>(hrep.snd i l hi hb).1
 generalize List.replicate n 0=out at *
 refine zat L.length (fun k us w'=>∃ ms,us=[.int .i64 (k:Int)]∧k≤L.length∧LW w1 w' gw g h n kc ms out true∧OwnI w4.heap.size w5.heap.size w' v25 (zaI L)∧ms.length=n∧(∀ i,mkd ms i→MetP c i)∧∀ p∈L.take k,mkd ms (eN c p)) 0 (Nat.zero_le _) ⟨_,rfl,Nat.zero_le _,H5,ho5.toI,by simp,fun i h=>absurd h zbx,by simp⟩ ?_
 rintro k mk u6 w6 hkm ⟨ms,hu,hkl,H6,hO6,hl6,hsn6,hrt6⟩
 simp only [List.map_cons,List.map_nil,List.cons.injEq,and_true] at hu
 rw [hu]
 refine zae u25 hO6.is ?_
 rw [zag]
 refine zah ?_
 refine br (fun hlt=>?_) (fun hge=>?_)
 · have hk:k<L.length:=by omega
   have hxd:=zak w6
   have H7:=H6.step hxd
   have hO7:=hO6.ext hxd
   generalize World.drew1 w6=w7 at *
   refine zaa za6 ?_
   refine zab zbG (zaq hA) H7.ext fun v34 h34=>?_
   refine zac u25 ty3 (i:=k) hO7.is (by rw [zag];exact hk) fun b2 o2 hA2=>?_
   rw [zbb] at hA2
   refine zad ty3 hA2 (Ext.refl _) fun _=>?_
   have htk:=fun x=>zcO hk (x:=x)
   have hrp:=(hL L[k]).1 (List.getElem_mem hk)
   generalize L[k]=p at *
   have hpe:p<c.entry.length:=by rw [hc.2.1.1];exact hrp.lt hc
   obtain ⟨he1,he2,_⟩:=zhB hc hpe
   refine zac u25 ty3 h34 hpe fun b5 o5 hA5=>?_
   rw [zbs hpe,he1] at hA5
   refine zad ty3 hA5 H7.ext fun _=>?_
   refine (ziW (i:=eN c p) (m:=0) H7 (by omega) hl6 hrl hr64 (by omega)).mono ?_
   rintro _ w8 ⟨rfl,H8,hc8⟩
   rw [hset0 _ (by omega)] at H8
   refine zaf (by omega) ?_
   refine ⟨mk-1,by omega,k+1,by omega,_,rfl,by omega,H8,hO7.chgF hc8 (by simp;omega),by simp [hl6],fun i hi=>?_,fun q hq=>?_⟩
   · rcases (zb3 (by rw [hl6];omega)).1 hi with h | h
     · exact hsn6 i h
     rw [h];exact .root hrp
   rcases (htk q).1 hq with h | h
   · exact zd9 (hrt6 q h)
   rw [h];exact (zb3 (by rw [hl6];omega)).2 (.inr rfl)
 have hrt:∀ p,RootP c p→mkd ms (eN c p):=fun p hp=>hrt6 p (by rw [List.take_of_length_le (by omega)];exact (hL p).2 hp)
 have hT:LP c ms out false ms out 0:=⟨by rw [hl6,hnn],by rw [hrl,hnn],hr64,hsn6,hmz,hrt,fun e=>(by cases e),fun _=>⟨rfl,rfl,fun i hi=>by omega⟩⟩
 clear hu hkm hO6 hset0
 refine LOOPI.mk (fun m us w'=>∃ (ms:List Bool) (out:List Nat) (nw:Bool),us=[]∧m=(n*64-(zhM ms+out.sum))+(if nw then 1 else 0)∧LW w1 w' gw g h n kc ms out nw∧LP c ms out false ms out 0∧(nw=false→ms=zgJ c∧out=zkV c)) (n*64-(zhM ms+out.sum)+1) ⟨ms,out,true,rfl,rfl,H6,hT,fun e=>by cases e⟩ ?_
 rintro m u9 w9 ⟨ms,out,nw,hu,hm,H9,hT9,hend⟩
 have hbnd:∀ {ms0 ms:List Bool} {out0 out:List Nat} {nw:Bool} {k:Nat},LP c ms0 out0 nw ms out k→zhM ms+out.sum≤n*64:=fun {ms0 ms out0 out nw k} hP=>by
   have h1:=zfb ms
   rw [hP.len,hnn] at h1
   have h2:=sum_le (l:=out) (b:=63) fun x hx=>by have:=hP.lt x hx;omega
   rw [hP.leno,hnn] at h2
   omega
 refine NIL.mk rfl ?_
 refine zaa zj5 ?_
 refine zas ty4 H9.blk H9.c7 ?_
 refine zbH (fun hag=>?_) (fun hag=>?_)
 case refine_2=>
   obtain ⟨hm1,hm2⟩:=hend hag
   refine ⟨hx1.trans H9.ext,gw,rfl,zeC H9.blk H9.c5 ?_,zeC H9.blk H9.c6 ?_⟩
   · rw [←hm1];exact H9.mks.is
   rw [←hm2];exact H9.mine.is
 rw [hag,if_pos rfl] at hm
 have hb9:=hbnd hT9
 refine NIL.mk rfl ?_
 refine zaa zj5 ?_
 refine zbq (α:=Raw) (lo:=0) (hi:=0) ty4 rfl rfl H9.blk H9.l8 (zb9 rfl) fun w10 hc10 hB10=>?_
 have H10:=H9.news hc10.one hB10
 refine zat n (fun k us w'=>∃ (ms':List Bool) (out':List Nat) (nw':Bool),us=[.int .i64 (k:Int)]∧k≤n∧LW w1 w' gw g h n kc ms' out' nw'∧LP c ms out nw' ms' out' k) 0 (Nat.zero_le _) ⟨ms,out,false,rfl,Nat.zero_le _,H10,hT9⟩ ?_
 rintro k mk u11 w11 hkm ⟨ms11,out11,nw11,hu,hkl,H11,hT11⟩
 simp only [List.map_cons,List.map_nil,List.cons.injEq,and_true] at hu
 rw [hu]
 refine zaa zaR ?_
 refine zab zdz (zao hA) H11.ext fun v51 h51=>?_
 refine zae u26 h51 ?_
 rw [hnn]
 refine zah ?_
 refine br (fun hlt=>?_) (fun hge=>?_)
 case refine_2=>
   have hke:k=n:=by omega
   rw [hke] at hT11
   have hb11:=hbnd hT11
   refine ⟨(n*64-(zhM ms11+out11.sum))+(if nw11 then 1 else 0),?_,ms11,out11,nw11,rfl,rfl,H11,hT11.again,fun e=>?_⟩
   · cases nw11 with
     | true=>have:=hT11.yes rfl;simp;omega
     | false=>rw [(hT11.no rfl).1,(hT11.no rfl).2.1];simp;omega
   rw [e,←hnn] at hT11
   exact hT11.fin hc
 have hk:k<n:=by omega
 have hkn:k<c.ins.length:=by omega
 have hl11:ms11.length=n:=by rw [hT11.len,hnn]
 have hlo11:out11.length=n:=by rw [hT11.leno,hnn]
 refine NIL.mk rfl ?_
 refine zaa zgP ?_
 refine zas zc6 H11.blk H11.c5 ?_
 refine zac zdX ty4 (i:=k) H11.mks.is (by rw [hl11];exact hk) fun b4 o4 hA4=>?_
 refine za3 ty4 hA4 (Ext.refl _) ?_
 refine zaC ?_
 have hmk11:=zbk (ms:=ms11) (i:=k) (by rw [hl11];exact hk)
 refine zbH (fun hf=>?_) (fun hf=>?_)
 · have hnm:¬mkd ms11 k:=by rw [hmk11];simpa using hf
   refine zaf (by omega) ?_
   exact ⟨mk-1,by omega,k+1,by omega,ms11,out11,nw11,rfl,by omega,H11,hT11.skip hnm⟩
 have hym:mkd ms11 k:=by rw [hmk11];simpa using hf
 have hMk:=hT11.snd k hym
 refine zaa zaR ?_
 refine zab zdz (zao hA) H11.ext fun v65 h65=>?_
 refine zac u26 zec h65 hkn fun b3 o3 hA3=>?_
 rw [zaS] at hA3
 refine zab zec hA3 H11.ext fun v32 h32=>?_
 refine zcc zrK rfl zec rfl h32 H11.ext fun w12 hx12' hAI hV12=>?_
 have H12:=H11.step hx12'
 have hAB12:=ze5 h32 hV12 rfl
 refine NIL.mk rfl ?_
 refine zaa zeH ?_
 refine zas zbG H12.blk H12.c6 ?_
 refine zac u25 ty3 (i:=k) H12.mine.is (by rw [zag,hlo11];exact hk) fun b5 o5 hA5=>?_
 rw [zbz] at hA5
 refine zad ty3 hA5 (Ext.refl _) fun _=>?_
 have hk64:=hT11.lt0 k
 have hkz:nw11=false→zaK out11 k=zaK out k:=fun e=>by rw [(hT11.no e).2.1]
 have hkm8:∀ l,l<6→(zaK out11 k).testBit l=true→MayP c k l:=fun l hl hb=>hT11.sndm k l hkn hb
 generalize hh0:zaK out11 k=h0 at *
 refine JOIN.mk (fun us w'=>∃ (m:Nat) (ms':List Bool) (out':List Nat) (nw':Bool),us=[.int .i64 (m:Int)]∧LW w1 w' gw g h n kc ms' out' nw'∧LP c ms out nw' ms' out' k∧m<64∧CR c out k h0 m nw'∧((zam c k).op=4→mkd ms' (eN c (agN c k))∧zfw h0 (zaK out' (eN c (agN c k))))∧(∀ l,l<6→m.testBit l=true→∀ j∈zaD c k,MayP c j l)∧∀ j∈zaD c k,MetP c j) ?_ ?_
 · have haf:aft c [] k h0=if (zam c k).op=6 then h0 ||| 2^agN c k else if (zam c k).op=7 then zku h0 (2^agN c k) else if (zam c k).op=4 then (h0 &&& (tbl [] (agN c k)).1) ||| (tbl [] (agN c k)).2 else h0:=rfl
   have hgo:¬(zam c k).op=4→∀ w',LW w1 w' gw g h n kc ms11 out11 nw11→aft c [] k h0<64→∃ (m:Nat) (ms':List Bool) (out':List Nat) (nw':Bool),[Value.int .i64 (aft c [] k h0:Nat)]=[.int .i64 (m:Int)]∧LW w1 w' gw g h n kc ms' out' nw'∧LP c ms out nw' ms' out' k∧m<64∧CR c out k h0 m nw'∧((zam c k).op=4→mkd ms' (eN c (agN c k))∧zfw h0 (zaK out' (eN c (agN c k))))∧(∀ l,l<6→m.testBit l=true→∀ j∈zaD c k,MayP c j l)∧∀ j∈zaD c k,MetP c j:=fun h4 w' hW' hlt'=>
     ⟨_,ms11,out11,nw11,rfl,hW',hT11,hlt',fun e=>⟨hkz e,fun h=>absurd h h4,fun _=>by rw [hkz e]⟩,fun h=>absurd h h4,fun l hl hb j hj=>zqZ h4 hMk hj (hkm8 l hl) hb,fun j hj=>.next hMk h4 hj⟩
   refine zaa zbM ?_
   refine zad ty3 (zax hAI) (Ext.refl _) fun _=>?_
   refine zai ?_
   refine br (fun c6=>?_) (fun c6=>?_)
   · obtain ⟨ha,_,hq⟩:=zdg hc hkn (.inl c6)
     have hp:=zkx hq
     rw [if_pos c6] at haf
     refine zaa zcW ?_
     refine zad ty3 (zaX hAI) (Ext.refl _) fun _=>?_
     rw [ha]
     refine (ziF (by omega)).mono ?_
     rintro _ w13 ⟨hx13,rfl⟩
     refine zhV (m:=h0) (n:=2^agN c k) (by omega) (by omega) ?_
     have:=hgo (by omega) w13 (H12.step hx13) (by rw [haf];exact zte hk64 hq)
     rw [haf] at this
     exact this
   rw [if_neg c6] at haf
   refine zai ?_
   refine br (fun c7=>?_) (fun c7=>?_)
   · obtain ⟨ha,_,hq⟩:=zdg hc hkn (.inr c7)
     have hp:=zkx hq
     rw [if_pos c7] at haf
     refine zaa zcW ?_
     refine zad ty3 (zaX hAI) (Ext.refl _) fun _=>?_
     rw [ha]
     refine (ziF (by omega)).mono ?_
     rintro _ w13 ⟨hx13,rfl⟩
     refine (zo4 hk64 hp).mono ?_
     rintro _ w14 ⟨hx14,rfl⟩
     rw [znf hk64 hp]
     have:=hgo (by omega) w14 ((H12.step hx13).step hx14) (by rw [haf];exact Nat.lt_of_le_of_lt (ziC _ _) hk64)
     rw [haf] at this
     exact this
   rw [if_neg c7] at haf
   refine zai ?_
   refine br (fun c4=>?_) (fun c4=>?_)
   · obtain ⟨ha1,ha2⟩:=zff hc hkn (.inl c4)
     have hpe:agN c k<c.entry.length:=by rw [hc.2.1.1];exact ha2
     obtain ⟨he1,he2,_⟩:=zhB hc hpe
     obtain ⟨hz1,hz2,hz3⟩:=zhw hc ha2
     refine zaa za6 ?_
     refine zab zbG (zaq hA) H12.ext fun v66 h66=>?_
     refine zaa zcW ?_
     refine zad ty3 (zaX hAI) (Ext.refl _) fun _=>?_
     rw [ha1]
     refine zac u25 ty3 h66 hpe fun b5 o5 hA5=>?_
     rw [zbs hpe,he1] at hA5
     refine zad ty3 hA5 H12.ext fun _=>?_
     refine (ziW (i:=eN c (agN c k)) (m:=h0) H12 (by omega) hl11 hlo11 hT11.lt hk64).mono ?_
     rintro _ w13 ⟨rfl,H13,hc13⟩
     have hmE:MetP c (eN c (agN c k)):=.call hMk c4
     have hT13:=hT11.put he2 hk64 hmE fun l hl hb=>.call hMk c4 (hkm8 l hl hb)
     have hF1:=zhx (out:=out11) (m:=h0) (i:=eN c (agN c k)) (by rw [hlo11];omega)
     have hF0:mkd (ms11.set (eN c (agN c k)) true) (eN c (agN c k)):=(zb3 (by rw [hl11];omega)).2 (.inr rfl)
     have hz13:zrL ms11 out11 nw11 (eN c (agN c k)) h0=false→nw11=false:=zri
     generalize zrL ms11 out11 nw11 (eN c (agN c k)) h0=nw13 at *
     generalize out11.set (eN c (agN c k)) (zaK out11 (eN c (agN c k)) ||| h0)=out13 at *
     generalize ms11.set (eN c (agN c k)) true=ms13 at *
     have hgI:w11.heap.size<w12.heap.size:=hV12.lt
     have hne:w11.heap.size∉[gw,g,h]:=by have h1:=H11.mks.lt g (by simp);have h2:=H11.mine.lt h (by simp);have h3:=H11.blk.lt;simp;omega
     have hAI13:=(hAB12.keep (hc13.block _ hgI hne)).at H13.ext
     refine zab zcF hA H13.ext fun v76 h76=>?_
     refine zaa zcW ?_
     refine zad ty3 (zaX hAI13) (Ext.refl _) fun _=>?_
     rw [ha1]
     refine (zih h76 H13.ext (p:=(agN c k:Int)) (by omega) (by omega) hc.2.1.nonneg).mono ?_
     rintro _ w14 ⟨hx14,rfl⟩
     have H14:=H13.step hx14
     rw [hz2]
     have hl13:ms13.length=n:=by rw [hT13.len,hnn]
     have hlo13:out13.length=n:=by rw [hT13.leno,hnn]
     refine NIL.mk rfl ?_
     refine zaa zgP ?_
     refine zas zc6 H14.blk H14.c5 ?_
     refine zac zdX ty4 (i:=zN c (agN c k)) H14.mks.is (by rw [hl13];omega) fun b6 o6 hA6=>?_
     refine za3 ty4 hA6 (Ext.refl _) ?_
     refine zaC ?_
     have hmk13:=zbk (ms:=ms13) (i:=zN c (agN c k)) (by rw [hl13];omega)
     refine zbH (fun hf13=>?_) (fun hf13=>?_)
     · have hnm:¬mkd ms13 (zN c (agN c k)):=by rw [hmk13];simpa using hf13
       refine zaf (by omega) ?_
       refine ⟨mk-1,by omega,k+1,by omega,ms13,out13,nw13,rfl,by omega,H14,LP.close (h0:=h0) (m:=zaK out (zN c (agN c k))) hT13 (fun e=>⟨hkz (hz13 e),fun _=>rfl,fun h=>absurd c4 h⟩) (fun _=>⟨hF0,hF1⟩) fun h=>absurd (h c4) hnm⟩
     have hyz:mkd ms13 (zN c (agN c k)):=by rw [hmk13];simpa using hf13
     have hMz:=hT13.snd _ hyz
     refine NIL.mk rfl ?_
     refine zaa zeH ?_
     refine zas zbG H14.blk H14.c6 ?_
     refine zac u25 ty3 (i:=zN c (agN c k)) H14.mine.is (by rw [zag,hlo13];omega) fun b7 o7 hA7=>?_
     rw [zbz] at hA7
     refine zad ty3 hA7 (Ext.refl _) fun _=>?_
     exact ⟨zaK out13 (zN c (agN c k)),ms13,out13,nw13,rfl,H14,hT13,hT13.lt0 _,fun e=>⟨hkz (hz13 e),fun _=>by rw [(hT13.no e).2.1],fun h=>absurd c4 h⟩,fun _=>⟨hF0,hF1⟩,fun l hl hb j hj=>.back hMk c4 hMz (hT13.sndm _ l (by omega) hb) hj,fun j hj=>.back hMk c4 hMz hj⟩
   rw [if_neg c4] at haf
   have:=hgo c4 w12 H12 (by rw [haf];exact hk64)
   rw [haf] at this
   exact this
 rintro us w14 ⟨m,ms14,out14,nw14,hus,H14,hT14,hm64,hC14,hF14,hmay,hnx⟩
 simp only [List.map_cons,List.map_nil,List.cons.injEq,and_true] at hus
 rw [hus]
 refine zab zcF hA H14.ext fun v122 h122=>?_
 refine (zjG h122 H14.ext hc hkn).mono ?_
 rintro v86 w15 ⟨hx15,ho15⟩
 have H15:=H14.step hx15
 have hl2:=zfc c k
 have hnl:=fun {j:Nat} (hj:j∈zaD c k)=>(zdF hc hkn hj).1
 have hclose:=fun {ms o:List Bool} {out0 out1:List Nat} {ag:Bool} (hP:LP c ms out0 ag o out1 k)=>LP.close (h0:=h0) (m:=m) hP
 generalize hNx:zaD c k=N at *
 refine zat N.length (fun q us w'=>∃ (ms':List Bool) (out':List Nat) (nw':Bool),us=[.int .i64 (q:Int)]∧q≤N.length∧LW w1 w' gw g h n kc ms' out' nw'∧LP c ms out nw' ms' out' k∧CR c out k h0 m nw'∧((zam c k).op=4→mkd ms' (eN c (agN c k))∧zfw h0 (zaK out' (eN c (agN c k))))∧(∀ j∈N.take q,mkd ms' j∧zfw m (zaK out' j))∧OwnI w14.heap.size w15.heap.size w' v86 (zaI N)) 0 (Nat.zero_le _) ⟨ms14,out14,nw14,rfl,Nat.zero_le _,H15,hT14,hC14,hF14,by simp,ho15.toI⟩ ?_
 rintro q mq u w16 hqm ⟨ms16,out16,nw16,hu,hql,H16,hT16,hC16,hF16,hq16,hO16⟩
 simp only [List.map_cons,List.map_nil,List.cons.injEq,and_true] at hu
 rw [hu]
 refine zae u25 hO16.is ?_
 rw [zag]
 refine zah ?_
 refine br (fun hlt=>?_) (fun hge=>?_)
 case refine_2=>
   refine zaf (by omega) ?_
   rw [List.take_of_length_le (by omega)] at hq16
   exact ⟨mk-1,by omega,k+1,by omega,ms16,out16,nw16,rfl,by omega,H16,hclose hT16 hC16 hF16 fun _=>hNx▸hq16⟩
 have hq:q<N.length:=by omega
 refine zac u25 ty3 (i:=q) hO16.is (by rw [zag];exact hq) fun b7 o7 hA7=>?_
 rw [zbb] at hA7
 refine zad ty3 hA7 (Ext.refl _) fun _=>?_
 have htq:=fun x=>zcO hq (x:=x)
 have hj:=List.getElem_mem hq
 have hjl:=hnl hj
 have hmj:=fun l hl hb=>hmay l hl hb _ hj
 have hmet:=hnx _ hj
 generalize N[q]=j at *
 have hl16:ms16.length=n:=by rw [hT16.len,hnn]
 have hlo16:out16.length=n:=by rw [hT16.leno,hnn]
 refine (ziW (i:=j) (m:=m) H16 (by omega) hl16 hlo16 hT16.lt hm64).mono ?_
 rintro _ w17 ⟨rfl,H17,hc17⟩
 refine zaf (by omega) ?_
 have hg14:=H14.mks.lt g (by simp)
 have hh14:=H14.mine.lt h (by simp)
 have hgw14:=H14.blk.lt
 have hjo:j<out16.length:=by omega
 refine ⟨mq-1,by omega,q+1,by omega,_,_,_,rfl,by omega,H17,hT16.put hjl hm64 hmet hmj,fun e=>hC16 (zri e),fun h4=>⟨zd9 (hF16 h4).1,zrj hjo (hF16 h4).2⟩,fun i hi=>?_,hO16.chgF hc17 (by simp;omega)⟩
 rcases (htq i).1 hi with h | h
 · exact ⟨zd9 (hq16 i h).1,zrj hjo (hq16 i h).2⟩
 subst h;exact ⟨(zb3 (by rw [hl16];omega)).2 (.inr rfl),zhx hjo⟩
end Go.Proofs.YtbnjpfjjmhodnaaGreat
namespace Go.Sh
open Rep (rep)
theorem Blk.uniq {w:World} {g e:Nat} {cs cs':List Value} (h:Blk g e w cs) (h':Blk g e w cs'):cs'=cs:=by
 unfold Blk at h h'
 rw [h] at h'
 simp only [Option.some.injEq,Obj.cells.injEq] at h'
 have:=h'.1
 simpa using this.symm
theorem zon {w:World} {g e:Nat} {cs ds:List Value} (h:Blk g e w (cs++ds)):w.rangeAt g 0 cs:=(zav h.range).1
end Go.Sh
namespace Go.Proofs.YtbnjpfjjmhodnaaGreat
open Go Go.Sh Go.Proofs
open Rep (rep)
structure WB (W0 w:World) (b e:Nat) (c:DCode) (kc:List Value) (m:Nat) (x6 x7 x8 x9 x10:Value):Prop where
 ext:Ext W0 w
 blk:Blk b e w (kc++[.slice (some ⟨m,0,none⟩) c.ins.length c.ins.length,x6,x7,x8,x9,x10])
 code:∃ F,rep F W0 kc c
 live:Mine [m] w (.slice (some ⟨m,0,none⟩) c.ins.length c.ins.length) (zcs c.ins.length (ziH c))
 b0:W0.heap.size≤b
 m0:W0.heap.size≤m
 ne:b≠m
section
variable {W0 w w':World} {b e m:Nat} {c:DCode} {kc:List Value} {x6 x7 x8 x9 x10:Value}
theorem WB.k5 (h:WB W0 w b e c kc m x6 x7 x8 x9 x10):kc.length=5:=by obtain ⟨F,hr⟩:=h.code;exact Rep.len hr
theorem WB.cell (h:WB W0 w b e c kc m x6 x7 x8 x9 x10) (i:Nat):(kc++[Value.slice (some ⟨m,0,none⟩) c.ins.length c.ins.length,x6,x7,x8,x9,x10])[5+i]?=[Value.slice (some ⟨m,0,none⟩) c.ins.length c.ins.length,x6,x7,x8,x9,x10][i]?:=by
 rw [List.getElem?_append_right (by rw [h.k5];omega),h.k5,Nat.add_sub_cancel_left]
theorem WB.code_at (h:WB W0 w b e c kc m x6 x7 x8 x9 x10):At w b 0 c:=by
 obtain ⟨F,hr⟩:=h.code
 exact ⟨F,kc,zbB hr h.ext,zon h.blk⟩
theorem WB.wl (h:WB W0 w b e c kc m x6 x7 x8 x9 x10):WL w b c:=⟨h.code_at,zeC h.blk (h.cell 0) h.live.is⟩
theorem WB.step (h:WB W0 w b e c kc m x6 x7 x8 x9 x10) (hx:Ext w w'):WB W0 w' b e c kc m x6 x7 x8 x9 x10:=⟨h.ext.trans hx,h.blk.ext hx,h.code,h.live.ext hx,h.b0,h.m0,h.ne⟩
theorem WB.chg {F:List Nat} (h:WB W0 w b e c kc m x6 x7 x8 x9 x10) (hc:Chg F w w') (hF:∀ x∈F,W0.heap.size≤x∧x≠b∧x≠m):WB W0 w' b e c kc m x6 x7 x8 x9 x10:=
 ⟨h.ext.chgF hc fun x hx=>(hF x hx).1,h.blk.chgF hc fun hb=>(hF b hb).2.1 rfl,h.code,h.live.keep fun x hx=>by
   simp only [List.mem_cons,List.not_mem_nil,or_false] at hx;subst hx
   exact hc.block x (h.live.lt x (by simp)) fun hm=>(hF x hm).2.2 rfl,h.b0,h.m0,h.ne⟩
theorem WB.cells {y6 y7 y8 y9 y10:Value} (h:WB W0 w b e c kc m x6 x7 x8 x9 x10) (hc:ChgI b (b+1) w w') (hB:Blk b e w' (kc++[.slice (some ⟨m,0,none⟩) c.ins.length c.ins.length,y6,y7,y8,y9,y10])):WB W0 w' b e c kc m y6 y7 y8 y9 y10:=
 ⟨h.ext.chgI hc h.b0,hB,h.code,h.live.keep fun x hx=>by
   simp only [List.mem_cons,List.not_mem_nil,or_false] at hx;subst hx
   exact hc.block x (h.live.lt x (by simp)) (by have:=h.ne;omega),h.b0,h.m0,h.ne⟩
theorem WB.set (h:WB W0 w b e c kc m x6 x7 x8 x9 x10) (i:Nat) (v:Value):(kc++[Value.slice (some ⟨m,0,none⟩) c.ins.length c.ins.length,x6,x7,x8,x9,x10]).set (5+i) v=kc++[Value.slice (some ⟨m,0,none⟩) c.ins.length c.ins.length,x6,x7,x8,x9,x10].set i v:=by
 rw [List.set_append_right _ _ (by rw [h.k5];omega),h.k5,Nat.add_sub_cancel_left]
end
def CS (c:DCode) (out:List Nat) (D:Nat→Nat→Prop):Prop:=out.length=c.procs.length∧∀ q,q<c.procs.length→zaK out q=zb4 (D q) c.procs.length
theorem CS.mono {c:DCode} {out:List Nat} {D D':Nat→Nat→Prop} (h:CS c out D) (hD:∀ q r,q<c.procs.length→r<c.procs.length→(D q r↔D' q r)):CS c out D':=⟨h.1,fun q hq=>by rw [h.2 q hq];exact zba fun r hr=>hD q r hq hr⟩
theorem CS.set {c:DCode} {out:List Nat} {D D':Nat→Nat→Prop} (h:CS c out D) {p a:Nat} (hp:p<c.procs.length) (ha:a<c.procs.length) (hD:∀ q r,D' q r↔D q r∨(q=p∧r=a)):CS c (out.set p (zaK out p ||| 2^a)) D':=by
 refine ⟨by simp [h.1],fun q hq=>?_⟩
 rw [zd8 (by rw [h.1];exact hp)]
 split
 · rename_i e
   subst e
   rw [h.2 p hp]
   refine zdS fun r=>?_
   rw [Nat.testBit_or,Nat.testBit_two_pow,Bool.or_eq_true,zaH,decide_eq_true_eq,hD]
   constructor
   · rintro (⟨h1,h2⟩ | rfl)
     · exact ⟨h1,.inl h2⟩
     exact ⟨ha,.inr ⟨rfl,rfl⟩⟩
   rintro ⟨h1,h2 | ⟨_,h2⟩⟩
   · exact .inl ⟨h1,h2⟩
   exact .inr h2.symm
 rename_i e
 rw [h.2 q hq]
 exact zba fun r hr=>⟨fun h=>(hD q r).2 (.inl h),fun h=>((hD q r).1 h).resolve_right fun h=>e h.1.symm⟩
theorem CS.lt0 {c:DCode} {out:List Nat} {D:Nat→Nat→Prop} (h:CS c out D) (h8:c.procs.length≤8) {q:Nat} (hq:q<c.procs.length):zaK out q<256:=by rw [h.2 q hq];exact zdI h8
theorem CS.zero {c:DCode} {D:Nat→Nat→Prop} (hD:∀ q r,¬D q r):CS c (List.replicate c.procs.length 0) D:=⟨by simp,fun q hq=>by
 rw [←zb8 (by simp;exact hq),List.getElem_replicate]
 exact zdS fun r=>by simp [hD]⟩
theorem CS.eq_cls {c:DCode} {out:List Nat} {op:Int} (h:CS c out fun q r=>zmw c q op r):out=cls c op:=by
 refine List.ext_getElem (by rw [h.1,zha]) fun i h1 h2=>?_
 have hi:i<c.procs.length:=by rw [←h.1];exact h1
 rw [zb8 h1,zb8 h2,ztf hi,h.2 i hi]
def zpe (j:Nat):Nat:=if j=11 then 6 else if j=14 then 7 else 8
def zuD (j:Nat):Prop:=j=11∨j=14∨j=17
def fcB (W:World) (b e:Nat) (hd:List Value) (t9 t10:Value) (w:World):Prop:=ChgI b (b+1) W w∧∃ x6 x7 x8,Blk b e w (hd++[x6,x7,x8,t9,t10])
def fcR (b e:Nat) (j:Nat) (w w':World):Prop:=(zuD j∧ChgI b (b+1) w w'∧∀ cs,Blk b e w cs→∃ v,Blk b e w' (cs.set (zpe j) v))∨(¬zuD j∧Ext w w')
def fcQ (b e n:Nat):ParQ:=fun i u T w=>match i with
 | 0=>u 17=.pointer (some ⟨b,0,none⟩)
 | 1=>u 18=.pointer (some ⟨b,0,none⟩)
 | 2=>u 19=.pointer (some ⟨b,0,none⟩)
 | 3=>u 20=.int .i64 (n:Int)
 | 4=>∃ g,u 21=.slice (some ⟨g,0,none⟩) n n∧(T 4).1≤g∧g<(T 4).2∧g≠b∧Mine [g] w (.slice (some ⟨g,0,none⟩) n n) (zaI (List.replicate n 0))
 | 5=>u 22=.int .i64 (n:Int)
 | 6=>∃ g,u 23=.slice (some ⟨g,0,none⟩) n n∧(T 6).1≤g∧g<(T 6).2∧g≠b∧Mine [g] w (.slice (some ⟨g,0,none⟩) n n) (zaI (List.replicate n 0))
 | 7=>u 24=.int .i64 (n:Int)
 | 8=>∃ g,u 25=.slice (some ⟨g,0,none⟩) n n∧(T 8).1≤g∧g<(T 8).2∧g≠b∧Mine [g] w (.slice (some ⟨g,0,none⟩) n n) (zaI (List.replicate n 0))
 | 9=>u 26=.pointer (some ⟨b,0,none⟩)
 | 10=>u 27=.pointer (some ⟨b,0+6,none⟩)
 | 11=>∃ cs,Blk b e w cs∧cs[6]?=some (u 21)
 | 12=>u 28=.pointer (some ⟨b,0,none⟩)
 | 13=>u 29=.pointer (some ⟨b,0+7,none⟩)
 | 14=>∃ cs,Blk b e w cs∧cs[7]?=some (u 23)
 | 15=>u 30=.pointer (some ⟨b,0,none⟩)
 | 16=>u 31=.pointer (some ⟨b,0+8,none⟩)
 | 17=>∃ cs,Blk b e w cs∧cs[8]?=some (u 25)
 | _=>True
section
variable {b e n:Nat} {w w':World}
theorem fcR.sz {j:Nat} (h:fcR b e j w w'):w.heap.size≤w'.heap.size:=by
 rcases h with ⟨_,h,_⟩ | ⟨_,h⟩
 · exact h.size
 exact h.size
theorem fcR.chg {j:Nat} (h:fcR b e j w w'):ChgI b (b+1) w w':=by
 rcases h with ⟨_,h,_⟩ | ⟨_,h⟩
 · exact h
 exact h.toI
theorem fcR.mine {j g:Nat} {l:List Int} {v:Value} (h:fcR b e j w w') (hg:g≠b) (hm:Mine [g] w v l):Mine [g] w' v l:=hm.keep fun x hx=>by
 simp only [List.mem_cons,List.not_mem_nil,or_false] at hx;subst hx
 exact h.chg.block x (hm.lt x (by simp)) (by omega)
theorem fcR.cell {j:Nat} {u:Value} {k:Nat} (h:fcR b e j w w') (hij:zuD j→zpe j≠k) (hc:∃ cs,Blk b e w cs∧cs[k]?=some u):∃ cs,Blk b e w' cs∧cs[k]?=some u:=by
 obtain ⟨cs,hB,hk⟩:=hc
 rcases h with ⟨hs,_,h⟩ | ⟨_,h⟩
 · obtain ⟨v,hv⟩:=h cs hB
   exact ⟨_,hv,by rw [List.getElem?_set_ne (hij hs)];exact hk⟩
 exact ⟨cs,hB.ext h,hk⟩
theorem fcB.step {W:World} {hd:List Value} {t9 t10:Value} {j:Nat} (h6:hd.length=6) (h:fcB W b e hd t9 t10 w) (hR:fcR b e j w w'):fcB W b e hd t9 t10 w':=by
 obtain ⟨hc,x6,x7,x8,hB⟩:=h
 refine ⟨hc.trans hR.chg,?_⟩
 rcases hR with ⟨hs,_,hR⟩ | ⟨_,hR⟩
 · obtain ⟨v,hv⟩:=hR _ hB
   rcases hs with rfl | rfl | rfl
   · refine ⟨v,x7,x8,?_⟩
     rw [List.set_append_right _ _ (by rw [h6];decide),h6] at hv
     exact hv
   · refine ⟨x6,v,x8,?_⟩
     rw [List.set_append_right _ _ (by rw [h6];decide),h6] at hv
     exact hv
   refine ⟨x6,x7,v,?_⟩
   rw [List.set_append_right _ _ (by rw [h6];decide),h6] at hv
   exact hv
 exact ⟨x6,x7,x8,hB.ext hR⟩
theorem fcR.ext {j:Nat} (hj:¬zuD j) (hx:Ext w w'):fcR b e j w w':=.inr ⟨hj,hx⟩
end
theorem zkH {W:World} {b e n j:Nat} {hd:List Value} {t9 t10:Value} {w:World} {g:Nat} {K:World→Prop} (hs:zuD j) (h6:hd.length=6) (hB:fcB W b e hd t9 t10 w) (k:∀ w',fcR b e j w w'→(∃ cs,Blk b e w' cs∧cs[zpe j]?=some (.slice (some ⟨g,0,none⟩) n n))→K w') :
   OPU Tryz.prog (Instr.storeAt 25 (.pointer (some ⟨b,0+zpe j,none⟩)) (.slice (some ⟨g,0,none⟩) n n)) w K:=by
 obtain ⟨hc,x6,x7,x8,hB⟩:=hB
 have hlt:zpe j<(hd++[x6,x7,x8,t9,t10]).length:=by
   rw [List.length_append,h6]
   show zpe j<11
   rcases hs with rfl | rfl | rfl<;>decide
 rw [Nat.zero_add]
 refine zbq (α:=Raw) (lo:=0) (hi:=0) zbG rfl rfl hB hlt (zb9 rfl) fun w2 hc2 hB2=>?_
 have hR:fcR b e j w w2:=.inl ⟨hs,hc2,fun cs hcs=>by
   have:=hB.uniq hcs
   subst this
   exact ⟨_,hB2⟩⟩
 exact k w2 hR ⟨_,hB2,by rw [List.getElem?_set_self hlt]⟩
theorem zuf {sets:List Nat} {r:Nat} (l:List Int):(orL sets l).testBit r=true↔∃ x∈l,(zaK sets x.toNat).testBit r=true:=by
 have key:∀ (l:List Int) (a:Nat),(l.foldl (fun a i=>a ||| sets.getD i.toNat 0) a).testBit r=true↔a.testBit r=true∨∃ x∈l,(zaK sets x.toNat).testBit r=true:=fun l=>by
   induction l with
   | nil=>simp
   | cons i l ih=>
     intro a
     rw [List.foldl_cons,ih,Nat.testBit_or,Bool.or_eq_true,or_assoc]
     refine or_congr Iff.rfl ?_
     simp only [List.mem_cons,exists_eq_or_imp]
     exact Iff.rfl
 have:=key l 0
 simpa [orL] using this
theorem zhP {sets:List Nat} {m n r:Nat} (hm:m<2^n) (hn:n≤62):(orL sets (zbo m)).testBit r=true↔∃ i,i<n∧m.testBit i=true∧(zaK sets i).testBit r=true:=by
 rw [zuf,zkv hm (by omega)]
 constructor
 · rintro ⟨x,hx,h⟩
   obtain ⟨i,h1,rfl,h3⟩:=zcN.1 hx
   exact ⟨i,h1,h3,by simpa using h⟩
 rintro ⟨i,h1,h2,h3⟩
 exact ⟨(i:Int),zcN.2 ⟨i,h1,rfl,h2⟩,by simpa using h3⟩
theorem zno {m n:Nat} (h:∀ r,m.testBit r=true→r<n):m<2^n:=Nat.lt_pow_two_of_testBit _ fun i hi=>by
 cases e:m.testBit i
 · rfl
 have:=h i e;omega
end Go.Proofs.YtbnjpfjjmhodnaaGreat
