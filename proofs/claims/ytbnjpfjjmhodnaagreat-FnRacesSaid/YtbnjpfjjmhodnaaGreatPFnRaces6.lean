/-
  Parts of the proof, put together by program.
-/
import Derived.Test.YtbnjpfjjmhodnaaGreatPFnRaces5
set_option linter.unusedVariables false
set_option linter.unusedSimpArgs false
set_option linter.unusedSectionVars false
namespace Go.Proofs.YtbnjpfjjmhodnaaGreat
open Go Go.Sh Go.Proofs
open Rep (rep)
def F234 (a0 a1:Value) (w:World) (R:VW):Prop:=
 NIL a0 <|
 rF 180 a0 0 w fun x9=>
 rF 28 x9 3 w fun x10=>
 rL 25 x10 w fun x11=>
 rX 25 x11 a1 w fun x13=>
 rL 3 x13 w fun x14=>
 LOOPI [5,6] [(Value.slice none 0 0),x14] w fun u3 w next3=>
 NIL a0 <|
 rF 180 a0 0 w fun x18=>
 rL 28 x18 w fun x19=>
 cL 132 [x19,a1] w fun x21 w=>
 rC (u3 6) x21 w fun x22=>
 BR x22
 (NIL a0 <|
 rF 180 a0 1 w fun x27=>
 rL 135 x27 w fun x28=>
 rX 135 x28 (u3 6) w fun x30=>
 rL 4 x30 w fun x31=>
 BR x31
 (oP (Instr.buildSlice 25 1 #[(0,(u3 6))]) w fun x34 w=>
 oP (Builtin.append_ #[25,25] 25 [(u3 5),x34].toArray) w fun x35 w=>
 rA (u3 6) (iV 1) w fun x24=>
 next3 [x35,x24] w)
 (rA (u3 6) (iV 1) w fun x24=>
 next3 [(u3 5),x24] w))
 (R (u3 5) w)
def cfg234:Cfg:=⟨extL,[],[(3,68719444064,[5,6])],[],[],[],[]⟩
theorem F234_call {a0 a1:Value} {w:World} {R:VW} (h:F234 a0 a1 w R):cL 234 [a0,a1] w R:=co (g:=cfg234) Tryz.func234 (by kernel_rfl) (by kernel_rfl) (by kernel_rfl) h
def F300 (a0 a1 a2 a3:Value) (w:World) (R:VW):Prop:=
 NIL a0 <|
 rF 180 a0 0 w fun x20=>
 rF 28 x20 4 w fun x21=>
 rL 26 x21 w fun x22=>
 rN 26 3 x22 w fun x23=>
 oP (Instr.makeSlice 25 x23 x23) w fun x24 w=>
 rN 25 3 x24 w fun x26=>
 LOOPI [27] [(iV 0)] w fun u3 w next3=>
 rC (u3 27) x26 w fun x28=>
 BR x28
 (rX 25 x24 (u3 27) w fun x32=>
 oS 3 x32 (iV 63) w fun w=>
 rA (u3 27) (iV 1) w fun x33=>
 next3 [x33] w)
 (NIL a0 <|
 rF 180 a0 0 w fun x37=>
 rF 28 x37 3 w fun x38=>
 rL 25 x38 w fun x39=>
 rX 25 x39 a2 w fun x41=>
 rL 3 x41 w fun x42=>
 rX 25 x24 x42 w fun x44=>
 oS 3 x44 a3 w fun w=>
 cL 234 [a0,a2] w fun x47 w=>
 LOOPI [12] [(Value.bool true)] w fun u10 w next10=>
 BR (u10 12)
 (rN 25 3 x47 w fun x50=>
 LOOPI [12,51] [(Value.bool false),(iV 0)] w fun u13 w next13=>
 rC (u13 51) x50 w fun x52=>
 BR x52
 (rX 25 x47 (u13 51) w fun x53=>
 rL 3 x53 w fun x54=>
 (fun w=>NIL a0 <|
 rF 180 a0 0 w fun x57=>
 rF 28 x57 4 w fun x58=>
 rL 26 x58 w fun x59=>
 rX 26 x59 x54 w fun x61=>
 rL 77 x61 w fun x62=>
 rX 25 x24 x54 w fun x66=>
 rL 3 x66 w fun x67=>
 cL 336 [x62,a1,x67] w fun x68 w=>
 cL 187 [a0,x54] w fun x71 w=>
 rN 25 3 x71 w fun x72=>
 LOOPI [12,73] [(u13 12),(iV 0)] w fun u17 w next17=>
 rC (u17 73) x72 w fun x74=>
 BR x74
 (rX 25 x71 (u17 73) w fun x75=>
 rL 3 x75 w fun x76=>
 (fun w=>rX 25 x24 x76 w fun x79=>
 rL 3 x79 w fun x80=>
 rB .and 3 T0 T0 x80 x68 w fun x82=>
 rX 25 x24 x76 w fun x85=>
 rL 3 x85 w fun x86=>
 rB .neq 3 T0 T0 x82 x86 w fun x87=>
 BR x87
 (rX 25 x24 x76 w fun x90=>
 rL 3 x90 w fun x91=>
 rB .and 3 T0 T0 x91 x68 w fun x93=>
 rX 25 x24 x76 w fun x94=>
 oS 3 x94 x93 w fun w=>
 rA (u17 73) (iV 1) w fun x95=>
 next17 [(Value.bool true),x95] w)
 (rA (u17 73) (iV 1) w fun x95=>
 next17 [(u17 12),x95] w)) (World.drew1 w))
 (rA (u13 51) (iV 1) w fun x96=>
 next13 [(u17 12),x96] w)) (World.drew1 w))
 (next10 [(u13 12)] w))
 (R x24 w))
def cfg300:Cfg:=⟨extL,[],[(3,17045652480,[27]),(10,158456325028528393712111374336,[12]),(13,158456325028526423387274399744,[12,51]),(17,79228153069531371854253658112,[12,73])],[(15,[0,1,2,3,4,5,6,7,8,9,10,11,12,13,14],0),(19,[0,1,2,3,4,5,6,7,8,9,10],0)],[],[],[]⟩
theorem F300_call {a0 a1 a2 a3:Value} {w:World} {R:VW} (h:F300 a0 a1 a2 a3 w R):cL 300 [a0,a1,a2,a3] w R:=co (g:=cfg300) Tryz.func300 (by kernel_rfl) (by kernel_rfl) (by kernel_rfl) h
open Rep (rep)
def zev (c:DCode) (i:Nat):Prop:=∃ p,p<c.procs.length∧zaB c p i
structure WL (W0:World) (b:Nat) (c:DCode):Prop where
 code:At W0 b 0 c
 live:At W0 b (0+5) (zbP c.ins.length (zev c))
theorem zg5 {n m:Nat} {p:Nat→Prop} (h:n≤m) (hp:∀ i,n≤i→i<m→¬p i):zbn m p=zbn n p:=by
 induction m with
 | zero=>(have:n=0:=by omega);subst this;rfl
 | succ m ih=>
   by_cases e:n=m+1
   · rw [e]
   rw [zfd (hp m (by omega) (by omega)),ih (by omega) fun i h1 h2=>hp i h1 (by omega)]
theorem zfJ {w W0:World} {b p:Nat} {c:DCode} (hW:WL W0 b c) (e0:Ext W0 w) (hc:CodeR c) (hp:p<c.procs.length) :
   CALL Tryz.prog 234 [.pointer (some ⟨b,0,none⟩),.int .i64 (p:Int)] w fun r w'=>Ext w w'∧Own w.heap.size w' r (zaI (zbn c.ins.length (zaB c p))):=by
 refine F234_call ?_
 unfold F234
 have hpe:p<c.entry.length:=by rw [hc.2.1.1];exact hp
 have hil:=hc.f.ins
 have h8:=hc.1.procs8
 obtain ⟨he1,he2,he3⟩:=zfp hc hpe
 obtain ⟨hz1,hz2,hz3⟩:=zjE hc hpe
 have hlv:∀ i,zaB c p i→eN c p≤i∧i≤zN c p:=fun i h=>by
   have:=zbq hc hpe h
   exact znn hc this.1 hpe this.2
 refine NIL.mk rfl ?_
 refine zaa za5 ?_
 refine zaa za1 ?_
 refine zab zcN (zaq hW.code) e0 fun v11 h11=>?_
 refine zad u25 ty3 h11 hpe fun b1 o1 hA1=>?_
 rw [zbh hpe,he1] at hA1
 refine zac ty3 hA1 e0 fun _=>?_
 generalize hE:eN c p=E at *
 generalize hZ:zN c p=Z at *
 have h0:zbn E (zaB c p)=[]:=by
   rw [zg5 (n:=0) (Nat.zero_le _) fun i _ h2 h3=>by have:=hlv i h3;omega];rfl
 refine zas (Z+1-E) (fun k us w'=>∃ (v:Value),us=[v,.int .i64 ((E+k:Nat):Int)]∧E+k≤Z+1∧Ext w w'∧RowI w.heap.size w'.heap.size 3 w' v (zaI (zbn (E+k) (zaB c p)))) 0 (Nat.zero_le _) ⟨_,rfl,by omega,Ext.refl _,by rw [Nat.add_zero,h0];exact zc0 _ _ _ _⟩ ?_
 rintro k mk u w2 hkm ⟨v,hu,hkl,hx2,hr2⟩
 obtain ⟨hu1,hu2⟩:=zcC hu
 rw [hu1,hu2]
 have hx02:=e0.trans hx2
 have hs2:=hx2.size
 refine NIL.mk rfl ?_
 refine zaa za5 ?_
 refine zab zbm hW.code hx02 fun v19 h19=>?_
 refine (zdq h19 hx02 (by omega)).mono ?_
 rintro _ w3 ⟨hx3,rfl⟩
 rw [hz1]
 have hx03:=hx02.trans hx3
 refine zah ?_
 refine br (fun hlt=>?_) (fun hge=>?_)
 case refine_2=>
   have hk:E+k=Z+1:=by omega
   refine ⟨hx2.trans hx3,?_⟩
   rw [zg5 (n:=Z+1) (by omega) fun i h1 _ h3=>by have:=hlv i h3;omega,←hk]
   exact (hr2.ext hx3).own.own
 have hk:E+k<c.ins.length:=by omega
 refine NIL.mk rfl ?_
 refine zaa zkE ?_
 refine zab zdc hW.live hx03 fun v28 h28=>?_
 refine zad zcX ty4 (i:=E+k) h28 (by rw [zam];exact hk) fun b2 o2 hA2=>?_
 refine zaz ty4 hA2 hx03 ?_
 have hmk:=zaH (n:=c.ins.length) (p:=zev c) (i:=E+k)
 rw [zaO (by rw [zam];exact hk)] at hmk
 have hiff:zev c (E+k)↔zaB c p (E+k):=by
   constructor
   · rintro ⟨q,hq,hl⟩
     have h1:=zbq hc (by rw [hc.2.1.1];exact hq) hl
     have h2:=zle hc (p:=p) (i:=E+k) hpe (by omega) (by omega)
     have:q=p:=by omega
     rwa [this] at hl
   exact fun h=>⟨p,hp,h⟩
 have hsl:=za6 (n:=E+k) (p:=zaB c p)
 refine zbw (fun hf=>?_) (fun hf=>?_)
 · refine zbV (lo2:=w3.heap.size) (hi2:=w3.heap.size) (x:=((E+k:Nat):Int)) u25 ty3 z3 zc3 (by decide) (hr2.ext hx3) (by have:=hx3.size;omega) (zcx _ _ (by unfold I64;omega)) (by have:=hx3.size;omega) (by have:=hx3.size;omega) (by rw [zap,zae];omega) (by rw [zae];omega) fun v54 w9 hc9 hr9=>?_
   refine zaf (by omega) ?_
   refine ⟨mk-1,by omega,k+1,by omega,v54,rfl,by omega,(hx2.trans hx3).chgI hc9 (by omega),?_⟩
   rw [←Nat.add_assoc,zfc (hiff.1 (hmk.1 hf).2),zb3]
   exact hr9
 refine zaf (by omega) ?_
 refine ⟨mk-1,by omega,k+1,by omega,v,rfl,by omega,hx2.trans hx3,?_⟩
 rw [←Nat.add_assoc,zfd fun h=>by rw [hmk.2 ⟨hk,hiff.2 h⟩] at hf;cases hf]
 exact (hr2.ext hx3).mono (Nat.le_refl _) hx3.size
theorem zdn {w:World} {n:Nat} {K:Value→World→Prop} (h0:0<n) (hn:n≤1000000)
   (k:∀ w',Ext w w'→Mine [w.heap.size] w' (.slice (some ⟨w.heap.size,0,none⟩) n n) (zaI (List.replicate n 0))→K (.slice (some ⟨w.heap.size,0,none⟩) n n) w'):OP Tryz.prog (Instr.makeSlice 25 (.int .i64 (n:Int)) (.int .i64 (n:Int))) w K:=
 zkZ (α:=Int) u25 ty3 rfl rfl zvl (by omega) (by omega) fun w2 hx2 hr2=>by
   refine k w2 hx2 ?_
   obtain ⟨F,hM,hF⟩:=hr2.own
   obtain ⟨b,o,cap,hv,hF2⟩:=zej hM (by intro e;have:=congrArg List.length e;simp at this;omega)
   simp only [Value.slice.injEq,Option.some.injEq,Addr.mk.injEq,List.cons.injEq,and_true] at hv
   obtain ⟨⟨hb,ho⟩,_⟩:=hv
   rw [←hb] at hF2
   rw [hF2] at hM
   have e:zaI (List.replicate n 0)=List.replicate n (RepZ.zv:Int):=by simp only [zaI,List.map_replicate];rfl
   rw [e];exact hM
theorem zhK {P:Program} {w:World} {K:Value→Prop} {t ty e:TypeId} {a:Option Addr} {n c:Nat} (ht:P.underlying t=some (.slice e)) (k:K (.int .i64 (n:Int))) :
   RD P (Builtin.len_ #[t] ty [Value.slice a n c].toArray) w K:=za3 (fun w' _=>by simp [Builtin.len_,run_underlying ht];rfl) k
structure FW (w1 w:World) (g n:Nat) (out:List Nat):Prop where
 ext:Ext w1 w
 mine:Mine [g] w (.slice (some ⟨g,0,none⟩) n n) (zaI out)
 g0:w1.heap.size≤g
section
variable {w1 w w':World} {g n:Nat} {out:List Nat}
theorem FW.step (h:FW w1 w g n out) (hx:Ext w w'):FW w1 w' g n out:=⟨h.ext.trans hx,h.mine.ext hx,h.g0⟩
theorem zd8 (hc:Chg [g] w w'):ChgI g (g+1) w w':=hc.toI fun b hb=>by simp only [List.mem_cons,List.not_mem_nil,or_false] at hb;omega
theorem FW.set {i v:Nat} (h:FW w1 w g n out) (hc:Chg [g] w w') (hm:Mine [g] w' (.slice (some ⟨g,0,none⟩) n n) ((zaI out).set i (v:Int))):FW w1 w' g n (out.set i v):=
 ⟨h.ext.chgI (zd8 hc) h.g0,by rw [zfh];exact hm,h.g0⟩
theorem FW.lt (h:FW w1 w g n out):g<w.heap.size:=h.mine.lt g (by simp)
theorem FW.own (h:FW w1 w g n out):Own w1.heap.size w (.slice (some ⟨g,0,none⟩) n n) (zaI out):=⟨[g],h.mine,fun b hb=>by simp only [List.mem_cons,List.not_mem_nil,or_false] at hb;have:=h.g0;omega⟩
end
theorem zbt {w:World} {v:Nat} (h:v<9223372036854775808):Mine [] w (.int .i64 (v:Int)) (v:Int):=zcg (by unfold I64;omega)
def fil (n k:Nat):List Nat:=List.replicate k 63++List.replicate (n-k) 0
theorem znq {n k:Nat} (h:k≤n):(fil n k).length=n:=by simp [fil];omega
theorem znr {n k:Nat} (h:k<n):(fil n k).set k 63=fil n (k+1):=by
 obtain ⟨m,hm⟩:∃ m,n-k=m+1:=⟨n-k-1,by omega⟩
 unfold fil
 rw [List.set_append_right _ _ (by simp),hm,List.length_replicate,Nat.sub_self,List.replicate_succ,List.set_cons_zero,List.replicate_succ',show n-(k+1)=m by omega]
 simp
theorem zli (n:Nat):fil n n=List.replicate n 63:=by simp [fil]
structure FP (c:DCode) (T:Tab) (p h:Nat) (out0 L:List Nat) (k:Nat) (ag:Bool) (out:List Nat):Prop where
 fl:FL c T p h out
 yes:ag=true→out.sum<out0.sum
 no:ag=false→out=out0∧∀ i∈L.take k,zuR c T out0 i
structure FQ (c:DCode) (T:Tab) (p h:Nat) (out0 L:List Nat) (k i q:Nat) (ag:Bool) (out:List Nat):Prop where
 fl:FL c T p h out
 yes:ag=true→out.sum<out0.sum
 no:ag=false→out=out0∧(∀ i∈L.take k,zuR c T out0 i)∧∀ j∈(zax c i).take q,zaw out0 j &&& aft c T i (zaw out0 i)=zaw out0 j
section
variable {c:DCode} {T:Tab} {p h k i q m:Nat} {out0 L out:List Nat} {ag:Bool}
theorem FP.enter (H:FP c T p h out0 L k ag out) (i:Nat):FQ c T p h out0 L k i 0 ag out:=⟨H.fl,H.yes,fun e=>⟨(H.no e).1,(H.no e).2,by simp⟩⟩
theorem FQ.set (H:FQ c T p h out0 L k i q ag out) (hc:CodeR c) (hp:p<c.entry.length) (hi:zaB c p i) (hq:q<(zax c i).length) (hm:∀ l,l<6→m.testBit l=false→LostP c (tK T) (tG T) p (fun l=>h.testBit l=true) i l)
   (hne:zaw out (zax c i)[q] &&& aft c T i m≠zaw out (zax c i)[q]):FQ c T p h out0 L k i (q+1) true (out.set (zax c i)[q] (zaw out (zax c i)[q] &&& aft c T i m)):=by
 have hj:=List.getElem_mem hq
 have hjl:=(zcA hc (zbq hc hp hi).1 hj).1
 refine ⟨H.fl.updM hc hp hi hj hm,fun _=>?_,fun e=>by cases e⟩
 have h1:=zhG (l:=out) (i:=(zax c i)[q]) (v:=zaw out (zax c i)[q] &&& aft c T i m) (by rw [H.fl.len];exact hjl)
 have h2:=zs1 hne
 cases ag with
 | true=>have:=H.yes rfl;omega
 | false=>rw [(H.no rfl).1] at h1 h2 ⊢;omega
theorem FQ.skip (H:FQ c T p h out0 L k i q ag out) (hq:q<(zax c i).length) (hz:ag=false→m=zaw out0 i) (he:zaw out (zax c i)[q] &&& aft c T i m=zaw out (zax c i)[q]):FQ c T p h out0 L k i (q+1) ag out:=by
 refine ⟨H.fl,H.yes,fun e=>⟨(H.no e).1,(H.no e).2.1,fun j hj=>?_⟩⟩
 rw [List.take_succ_eq_append_getElem hq] at hj
 rcases List.mem_append.1 hj with hj | hj
 · exact (H.no e).2.2 j hj
 simp only [List.mem_cons,List.not_mem_nil,or_false] at hj
 rw [(H.no e).1,hz e] at he
 rw [hj];exact he
theorem FQ.done (H:FQ c T p h out0 L k i q ag out) (hk:k<L.length) (hi:L[k]=i) (hq:(zax c i).length≤q):FP c T p h out0 L (k+1) ag out:=by
 refine ⟨H.fl,H.yes,fun e=>⟨(H.no e).1,fun i' hi'=>?_⟩⟩
 rw [List.take_succ_eq_append_getElem hk] at hi'
 rcases List.mem_append.1 hi' with h1 | h1
 · exact (H.no e).2.1 i' h1
 simp only [List.mem_cons,List.not_mem_nil,or_false] at h1
 rw [h1,hi]
 have:=(H.no e).2.2
 rw [List.take_of_length_le hq] at this
 exact this
end
theorem zns {w W0 W1:World} {b p h:Nat} {v1:Value} {c:DCode} {T:Tab} (hW:WL W0 b c) (e0:Ext W0 w) (h1:Is W1 v1 (zgb T)) (e1:Ext W1 w) (hc:CodeR c) (hT:zqV c T) (hp:p<c.procs.length) (hh:h<64) :
   CALL Tryz.prog 300 [.pointer (some ⟨b,0,none⟩),v1,.int .i64 (p:Int),.int .i64 (h:Int)] w fun r w'=>Ext w w'∧Own w.heap.size w' r (zaI (zbQ c T p h)):=by
 refine F300_call ?_
 unfold F300
 have hpe:p<c.entry.length:=by rw [hc.2.1.1];exact hp
 have hil:=hc.f.ins
 obtain ⟨he1,he2,he3⟩:=zfp hc hpe
 have hst:=FL.start (T:=T) hc hpe hh
 have hfin:=fun {out}=>FL.fin (c:=c) (T:=T) (p:=p) (h:=h) (out:=out)
 refine NIL.mk rfl ?_
 refine zaa za5 ?_
 refine zaa zaG ?_
 refine zab zcO (zal hW.code) e0 fun v22 h22=>?_
 refine zag u26 h22 ?_
 have hn:c.ins.length=c.ins.length:=rfl
 generalize hnn:c.ins.length=n at hn
 rw [hnn] at he2 hst hil
 refine zdn (by omega) (by omega) fun w2 hx2 hM2=>?_
 have hs2:=hx2.size
 generalize hg:w.heap.size=g at *
 have hF2:FW w w2 g n (fil n 0):=⟨hx2,by simpa [fil] using hM2,by omega⟩
 refine zhK u25 ?_
 refine zas n (fun k us w'=>us=[.int .i64 (k:Int)]∧k≤n∧FW w w' g n (fil n k)) 0 (Nat.zero_le _) ⟨rfl,Nat.zero_le _,hF2⟩ ?_
 rintro k mk u w3 hkm ⟨hu,hkl,hF3⟩
 simp only [List.map_cons,List.map_nil,List.cons.injEq,and_true] at hu
 rw [hu]
 refine zah ?_
 refine br (fun hlt=>?_) (fun hge=>?_)
 · have hk:k<n:=by omega
   refine zbv (α:=Int) rfl u25 ty3 hk ?_
   refine za0 (α:=Int) rfl ty3 hF3.mine (by rw [zae,znq hkl]) hk (zbt (v:=63) (by omega)) fun w4 hc4 hm4=>?_
   have hF4:=hF3.set (v:=63) hc4 hm4
   rw [znr hk] at hF4
   refine zaf (by omega) ?_
   exact ⟨mk-1,by omega,k+1,by omega,rfl,by omega,hF4⟩
 have hk:k=n:=by omega
 rw [hk,zli] at hF3
 clear hF2 hM2 hu hkm
 refine NIL.mk rfl ?_
 refine zaa za5 ?_
 refine zaa za1 ?_
 refine zab zcN (zaq hW.code) (e0.trans hF3.ext) fun v39 h39=>?_
 refine zad u25 ty3 h39 hpe fun b1 o1 hA1=>?_
 rw [zbh hpe,he1] at hA1
 refine zac ty3 hA1 (e0.trans hF3.ext) fun _=>?_
 refine zbv (α:=Int) rfl u25 ty3 he2 ?_
 refine za0 (α:=Int) rfl ty3 hF3.mine (by rw [zae];simp) he2 (zbt (v:=h) (by omega)) fun w4 hc4 hm4=>?_
 have hF4:=hF3.set (v:=h) hc4 hm4
 refine (zfJ hW (e0.trans hF4.ext) hc hp).mono ?_
 rintro v47 w5 ⟨hx5,ho5⟩
 have hF5:=hF4.step hx5
 have hg4:=hF4.lt
 have hL:∀ i∈zbn c.ins.length (zaB c p),zaB c p i:=fun i hi=>(zaT.1 hi).2
 have hL2:∀ i,zaB c p i→i∈zbn c.ins.length (zaB c p):=fun i hi=>zaT.2 ⟨(zbq hc hpe hi).1,hi⟩
 have hLl:(zbn c.ins.length (zaB c p)).length≤1500:=Nat.le_trans za6 (by rw [hnn];omega)
 generalize zbn c.ins.length (zaB c p)=L at *
 generalize (List.replicate n 63).set (eN c p) h=out at hst hF5
 have hO5:=ho5.toI
 generalize hlo:w4.heap.size=lo at *
 generalize hhi:w5.heap.size=hi at *
 refine LOOPI.mk (fun m us w'=>∃ (ag:Bool) (out:List Nat),us=[.bool ag]∧m=out.sum+(if ag then 1 else 0)∧FW w w' g n out∧OwnI lo hi w' v47 (zaI L)∧FL c T p h out∧(ag=false→∀ i,zaB c p i→zuR c T out i)) (out.sum+1) ⟨true,out,rfl,rfl,hF5,hO5,hst,fun e=>by cases e⟩ ?_
 rintro m u w6 ⟨ag,out,hu,hm,hF6,hO6,hfl,hsh⟩
 simp only [List.map_cons,List.map_nil,List.cons.injEq,and_true] at hu
 rw [hu]
 refine zbw (fun hag=>?_) (fun hag=>?_)
 case refine_2=>
   have:=hfin hfl hc hpe (hsh hag)
   rw [←this]
   have hoo:=hF6.own
   rw [hg] at hoo
   exact ⟨hF6.ext,hoo⟩
 rw [hag,if_pos rfl] at hm
 refine zag u25 hO6.is ?_
 rw [zae]
 refine zas L.length (fun k us w'=>∃ (ag:Bool) (out':List Nat),us=[.bool ag,.int .i64 (k:Int)]∧k≤L.length∧FW w w' g n out'∧OwnI lo hi w' v47 (zaI L)∧FP c T p h out L k ag out') 0 (Nat.zero_le _) ⟨false,out,rfl,Nat.zero_le _,hF6,hO6,hfl,fun e=>(by cases e),fun _=>⟨rfl,by simp⟩⟩ ?_
 rintro k mk u w7 hkm ⟨ag7,out7,hu,hkl,hF7,hO7,hP7⟩
 obtain ⟨hu1,hu2⟩:=zcC hu;clear hu
 rw [hu1,hu2]
 refine zah ?_
 refine br (fun hlt=>?_) (fun hge=>?_)
 case refine_2=>
   refine ⟨out7.sum+(if ag7 then 1 else 0),?_,ag7,out7,rfl,rfl,hF7,hO7,hP7.fl,fun e i hi=>?_⟩
   · cases ag7 with
     | true=>have:=hP7.yes rfl;simp;omega
     | false=>rw [(hP7.no rfl).1];simp;omega
   have:=hP7.no e
   rw [this.1]
   exact this.2 i (by rw [List.take_of_length_le (by omega)];exact hL2 i hi)
 have hk:k<L.length:=by omega
 refine zad u25 ty3 (i:=k) hO7.is (by rw [zae];exact hk) fun b2 o2 hA2=>?_
 rw [zaM] at hA2
 refine zac ty3 hA2 (Ext.refl _) fun _=>?_
 generalize hix:L[k]=i at *
 have hiv:zaB c p i:=hL i (by rw [←hix];exact List.getElem_mem hk)
 have hin:=(zbq hc hpe hiv).1
 have hx8:=zaj w7
 have hF8:=hF7.step hx8
 have hO8:=hO7.ext hx8
 generalize World.drew1 w7=w8 at *
 refine NIL.mk rfl ?_
 refine zaa za5 ?_
 refine zaa zaG ?_
 refine zab zcO (zal hW.code) (e0.trans hF8.ext) fun v59 h59=>?_
 refine zad u26 zc6 h59 hin fun b3 o3 hA3=>?_
 rw [zaF] at hA3
 refine zab zc6 hA3 (e0.trans hF8.ext) fun v62 h62=>?_
 have hl7:=hP7.fl.len
 refine zad u25 ty3 (i:=i) hF8.mine.is (by rw [zae,hl7];exact hin) fun b4 o4 hA4=>?_
 rw [zaK] at hA4
 refine zac ty3 hA4 (Ext.refl _) fun _=>?_
 have hm64:=hP7.fl.lt0 i
 have hmb:∀ l,l<6→(zaw out7 i).testBit l=false→LostP c (tK T) (tG T) p (fun l=>h.testBit l=true) i l:=fun l hl hb=>hP7.fl.snd i l hin hl hb
 have hmz:ag7=false→zaw out7 i=zaw out i:=fun e=>by rw [(hP7.no e).1]
 generalize zaw out7 i=mm at *
 refine (zq0 h62 (e0.trans hF8.ext) h1 (e1.trans hF8.ext) hc hT hin hm64).mono ?_
 rintro _ w9 ⟨hx9,rfl⟩
 have hF9:=hF8.step hx9
 have hO9:=hO8.ext hx9
 have haf:=zs0 hc hT hin hm64
 refine (zjh hW.code (e0.trans hF9.ext) hc hin).mono ?_
 rintro v71 w10 ⟨hx10,ho10⟩
 have hF10:=hF9.step hx10
 have hO10:=hO9.ext hx10
 have hg9:=hF9.lt
 have hN10:=ho10.toI
 have hl2:=zeO c i
 refine zag u25 ho10.is ?_
 rw [zae]
 have hQ10:=hP7.enter i
 refine zas (zax c i).length (fun q us w'=>∃ (ag:Bool) (out':List Nat),us=[.bool ag,.int .i64 (q:Int)]∧q≤(zax c i).length∧FW w w' g n out'∧OwnI lo hi w' v47 (zaI L)∧OwnI w9.heap.size w10.heap.size w' v71 (zaI (zax c i))∧FQ c T p h out L k i q ag out'∧(ag=false→mm=zaw out i)) 0 (Nat.zero_le _) ⟨ag7,out7,rfl,Nat.zero_le _,hF10,hO10,hN10,hQ10,hmz⟩ ?_
 rintro q mq u w11 hqm ⟨ag11,out11,hu,hql,hF11,hO11,hN11,hQ11,hz11⟩
 obtain ⟨hu1,hu2⟩:=zcC hu
 rw [hu1,hu2]
 refine zah ?_
 refine br (fun hlt=>?_) (fun hge=>?_)
 case refine_2=>
   refine zaf (by omega) ?_
   exact ⟨mk-1,by omega,k+1,by omega,ag11,out11,rfl,by omega,hF11,hO11,hQ11.done hk hix (by omega)⟩
 have hq:q<(zax c i).length:=by omega
 refine zad u25 ty3 (i:=q) hN11.is (by rw [zae];exact hq) fun b5 o5 hA5=>?_
 rw [zaM] at hA5
 refine zac ty3 hA5 (Ext.refl _) fun _=>?_
 have hx12:=zaj w11
 have hF12:=hF11.step hx12
 have hO12:=hO11.ext hx12
 have hN12:=hN11.ext hx12
 generalize World.drew1 w11=w12 at *
 have hj:=zcA hc hin (List.getElem_mem hq)
 have hl11:=hQ11.fl.len
 have hset:=hQ11.set (m:=mm) hc hpe hiv hq hmb
 have hskip:=hQ11.skip (m:=mm) hq hz11
 have hj64:=hQ11.fl.lt0 (zax c i)[q]
 have hjn:=hj.1
 rw [hnn] at hjn
 generalize (zax c i)[q]=j at *
 have hrd:∀ {w':World} {K:Value→Prop} (hF:FW w w' g n out11) (k:K (.int .i64 (zaw out11 j:Int))),RD Tryz.prog (Instr.indexAt 25 (.slice (some ⟨g,0,none⟩) n n) (.int .i64 (j:Int))) w' fun x37=>RD Tryz.prog (Instr.loadAt 3 x37) w' K:=fun hF k=>by
   refine zad u25 ty3 (i:=j) hF.mine.is (by rw [zae,hl11];exact hj.1) fun b1 o1 hA1=>?_
   rw [zaK] at hA1
   exact zac ty3 hA1 (Ext.refl _) fun _=>k
 refine hrd hF12 ?_
 refine zd7 (by omega) (by omega) ?_
 refine hrd hF12 ?_
 refine zaN ?_
 refine br (fun hne=>?_) (fun heq=>?_)
 · have hne':zaw out11 j &&& aft c T i mm≠zaw out11 j:=fun e=>hne (by rw [e])
   refine hrd hF12 ?_
   refine zd7 (by omega) (by omega) ?_
   refine zbv (α:=Int) rfl u25 ty3 hjn ?_
   have hvl:=Nat.and_le_left (n:=zaw out11 j) (m:=aft c T i mm)
   refine za0 (α:=Int) rfl ty3 hF12.mine (by rw [zae,hl11,hnn]) hjn (zbt (v:=zaw out11 j &&& aft c T i mm) (by omega)) fun w13 hc13 hm13=>?_
   have hF13:=hF12.set (v:=zaw out11 j &&& aft c T i mm) hc13 hm13
   have hc13':=zd8 hc13
   refine zaf (by omega) ?_
   exact ⟨mq-1,by omega,q+1,by omega,true,_,rfl,by omega,hF13,hO12.chg hc13' (by omega),hN12.chg hc13' (by omega),hset hne',fun e=>by cases e⟩
 refine zaf (by omega) ?_
 exact ⟨mq-1,by omega,q+1,by omega,ag11,out11,rfl,by omega,hF12,hO12,hN12,hskip (Int.ofNat_inj.1 (Decidable.not_not.1 heq)),hz11⟩
def F256 (a0 a1 a2 a3:Value) (w:World) (R:VW):Prop:=
 oP (Instr.box 28 a0) w fun x4 w=>
 rF 28 x4 4 w fun x18=>
 rL 26 x18 w fun x19=>
 rN 26 3 x19 w fun x20=>
 oP (Instr.makeSlice 25 x20 x20) w fun x21 w=>
 LOOPI [10] [(iV 0)] w fun u3 w next3=>
 rN 25 3 x21 w fun x24=>
 rC (u3 10) x24 w fun x25=>
 BR x25
 (rX 25 x21 (u3 10) w fun x30=>
 oS 3 x30 (iV 63) w fun w=>
 rA (u3 10) (iV 1) w fun x27=>
 next3 [x27] w)
 (rF 28 x4 3 w fun x31=>
 rL 25 x31 w fun x32=>
 rX 25 x32 a2 w fun x34=>
 rL 3 x34 w fun x35=>
 rX 25 x21 x35 w fun x39=>
 oS 3 x39 a3 w fun w=>
 rL 28 x4 w fun x40=>
 cL 306 [x40,a2] w fun x42 w=>
 cL 240 [x42] w fun x43 w=>
 LOOPI [13] [(Value.bool true)] w fun u10 w next10=>
 BR (u10 13)
 (LOOPI [13,14] [(Value.bool false),(iV 0)] w fun u13 w next13=>
 rN 25 3 x43 w fun x47=>
 rC (u13 14) x47 w fun x48=>
 BR x48
 ((fun w=>rL 28 x4 w fun x51=>
 rX 25 x43 (u13 14) w fun x54=>
 rL 3 x54 w fun x55=>
 cL 244 [x51,x55] w fun x56 w=>
 LOOPI [13,16] [(u13 13),(iV 0)] w fun u17 w next17=>
 rN 25 3 x56 w fun x59=>
 rC (u17 16) x59 w fun x60=>
 BR x60
 ((fun w=>rX 25 x56 (u17 16) w fun x66=>
 rL 3 x66 w fun x67=>
 rX 25 x21 x67 w fun x68=>
 rL 3 x68 w fun x69=>
 rF 28 x4 4 w fun x70=>
 rL 26 x70 w fun x71=>
 rX 25 x43 (u13 14) w fun x74=>
 rL 3 x74 w fun x75=>
 rX 26 x71 x75 w fun x76=>
 rL 77 x76 w fun x77=>
 rX 25 x43 (u13 14) w fun x82=>
 rL 3 x82 w fun x83=>
 rX 25 x21 x83 w fun x84=>
 rL 3 x84 w fun x85=>
 (fun w_=>cL 307 [x77,a1,x85] w_ fun x86 w=>
 Ext w_ w ∧
 rB .and 3 T0 T0 x69 x86 w fun x87=>
 rX 25 x56 (u17 16) w fun x92=>
 rL 3 x92 w fun x93=>
 rX 25 x21 x93 w fun x94=>
 rL 3 x94 w fun x95=>
 rB .neq 3 T0 T0 x87 x95 w fun x96=>
 BR x96
 (rX 25 x56 (u17 16) w fun x100=>
 rL 3 x100 w fun x101=>
 rX 25 x21 x101 w fun x103=>
 oS 3 x103 x87 w fun w=>
 rA (u17 16) (iV 1) w fun x62=>
 next17 [(Value.bool true),x62] w)
 (rA (u17 16) (iV 1) w fun x62=>
 next17 [(u17 13),x62] w)) w) (World.drew1 w))
 (rA (u13 14) (iV 1) w fun x50=>
 next13 [(u17 13),x50] w)) (World.drew1 w))
 (next10 [(u13 13)] w))
 (R x21 w))
def cfg256:Cfg:=⟨extL,[],[(3,2143290368,[10]),(10,20282409603651670406355065495552,[13]),(13,20282409603651670388762879451136,[13,14]),(17,20282409603651526308759175634944,[13,16])],[(15,[0,1,2,3,4,5,6],0),(19,[0,1,2,3,4,5,6,7,8,9,10,11,12,13,14,15,16,17,18,19,20,21,22,23,24,25],8388608)],[],[],[]⟩
theorem F256_call {a0 a1 a2 a3:Value} {w:World} {R:VW} (h:F256 a0 a1 a2 a3 w R):cL 256 [a0,a1,a2,a3] w R:=co (g:=cfg256) Tryz.func256 (by kernel_rfl) (by kernel_rfl) (by kernel_rfl) h
open Rep (rep)
theorem zhL {w W0 W1:World} {p h:Nat} {v0 v1:Value} {c:DCode} {T:Tab} (h0:Is W0 v0 c) (e0:Ext W0 w) (h1:Is W1 v1 (zgb T)) (e1:Ext W1 w) (hc:CodeR c) (hT:zqV c T) (hp:p<c.procs.length) (hh:h<64) :
   CALL Tryz.prog 256 [v0,v1,.int .i64 (p:Int),.int .i64 (h:Int)] w fun r w'=>Ext w w'∧Own w.heap.size w' r (zaI (zbQ c T p h)):=by
 refine F256_call ?_
 unfold F256
 have hpe:p<c.entry.length:=by rw [hc.2.1.1];exact hp
 have hil:=hc.f.ins
 obtain ⟨he1,he2,he3⟩:=zfp hc hpe
 have hst:=FL.start (T:=T) hc hpe hh
 have hfin:=fun {out}=>FL.fin (c:=c) (T:=T) (p:=p) (h:=h) (out:=out)
 refine zaV h0 e0 fun w1 hx1 hA=>?_
 have hs1:=hx1.size
 refine zaa zaG ?_
 refine zab zcO (zal hA) (Ext.refl _) fun v22 h22=>?_
 refine zag u26 h22 ?_
 have hn:c.ins.length=c.ins.length:=rfl
 generalize hnn:c.ins.length=n at hn
 rw [hnn] at he2 hst hil
 refine zdn (by omega) (by omega) fun w2 hx2 hM2=>?_
 have hs2:=hx2.size
 generalize hg:w1.heap.size=g at *
 have hF2:FW w1 w2 g n (fil n 0):=⟨hx2,by simpa [fil] using hM2,by omega⟩
 refine zas n (fun k us w'=>us=[.int .i64 (k:Int)]∧k≤n∧FW w1 w' g n (fil n k)) 0 (Nat.zero_le _) ⟨rfl,Nat.zero_le _,hF2⟩ ?_
 rintro k mk u w3 hkm ⟨hu,hkl,hF3⟩
 simp only [List.map_cons,List.map_nil,List.cons.injEq,and_true] at hu
 rw [hu]
 refine zhK u25 ?_
 refine zah ?_
 refine br (fun hlt=>?_) (fun hge=>?_)
 · have hk:k<n:=by omega
   refine zbv (α:=Int) rfl u25 ty3 hk ?_
   refine za0 (α:=Int) rfl ty3 hF3.mine (by rw [zae,znq hkl]) hk (zbt (v:=63) (by omega)) fun w4 hc4 hm4=>?_
   have hF4:=hF3.set (v:=63) hc4 hm4
   rw [znr hk] at hF4
   refine zaf (by omega) ?_
   exact ⟨mk-1,by omega,k+1,by omega,rfl,by omega,hF4⟩
 have hk:k=n:=by omega
 rw [hk,zli] at hF3
 clear hF2 hM2 hu hkm
 refine zaa za1 ?_
 refine zab zcN (zaq hA) hF3.ext fun v39 h39=>?_
 refine zad u25 ty3 h39 hpe fun b1 o1 hA1=>?_
 rw [zbh hpe,he1] at hA1
 refine zac ty3 hA1 hF3.ext fun _=>?_
 refine zbv (α:=Int) rfl u25 ty3 he2 ?_
 refine za0 (α:=Int) rfl ty3 hF3.mine (by rw [zae];simp) he2 (zbt (v:=h) (by omega)) fun w4 hc4 hm4=>?_
 have hF4:=hF3.set (v:=h) hc4 hm4
 refine zab zbm hA hF4.ext fun v40 h40=>?_
 refine (zeP h40 hF4.ext hc hpe).mono ?_
 rintro v42 w5 ⟨hx5,ho5⟩
 have hF5:=hF4.step hx5
 refine (zek ho5.is (Ext.refl _) (by rw [zam,hnn];omega)).mono ?_
 rintro v43 w5b ⟨hx5b,ho5b⟩
 rw [zam,zfG] at ho5b
 have hF5:=hF5.step hx5b
 have hg4:=hF4.lt
 have hg5:g<w5.heap.size:=by have:=hx5.size;omega
 have hL:∀ i∈zbn c.ins.length (zaB c p),zaB c p i:=fun i hi=>(zaT.1 hi).2
 have hL2:∀ i,zaB c p i→i∈zbn c.ins.length (zaB c p):=fun i hi=>zaT.2 ⟨(zbq hc hpe hi).1,hi⟩
 have hLl:(zbn c.ins.length (zaB c p)).length≤1500:=Nat.le_trans za6 (by rw [hnn];omega)
 generalize zbn c.ins.length (zaB c p)=L at *
 generalize (List.replicate n 63).set (eN c p) h=out at hst hF5
 have hO5:=ho5b.toI
 generalize hlo:w5.heap.size=lo at *
 generalize hhi:w5b.heap.size=hi at *
 refine LOOPI.mk (fun m us w'=>∃ (ag:Bool) (out:List Nat),us=[.bool ag]∧m=out.sum+(if ag then 1 else 0)∧FW w1 w' g n out∧OwnI lo hi w' v43 (zaI L)∧FL c T p h out∧(ag=false→∀ i,zaB c p i→zuR c T out i)) (out.sum+1) ⟨true,out,rfl,rfl,hF5,hO5,hst,fun e=>by cases e⟩ ?_
 rintro m u w6 ⟨ag,out,hu,hm,hF6,hO6,hfl,hsh⟩
 simp only [List.map_cons,List.map_nil,List.cons.injEq,and_true] at hu
 rw [hu]
 refine zbw (fun hag=>?_) (fun hag=>?_)
 case refine_2=>
   have:=hfin hfl hc hpe (hsh hag)
   rw [←this]
   exact ⟨hx1.trans hF6.ext,hF6.own.mono (by omega)⟩
 rw [hag,if_pos rfl] at hm
 refine zas L.length (fun k us w'=>∃ (ag:Bool) (out':List Nat),us=[.bool ag,.int .i64 (k:Int)]∧k≤L.length∧FW w1 w' g n out'∧OwnI lo hi w' v43 (zaI L)∧FP c T p h out L k ag out') 0 (Nat.zero_le _) ⟨false,out,rfl,Nat.zero_le _,hF6,hO6,hfl,fun e=>(by cases e),fun _=>⟨rfl,by simp⟩⟩ ?_
 rintro k mk u w7 hkm ⟨ag7,out7,hu,hkl,hF7,hO7,hP7⟩
 obtain ⟨hu1,hu2⟩:=zcC hu;clear hu
 rw [hu1,hu2]
 refine zag u25 hO7.is ?_
 rw [zae]
 refine zah ?_
 refine br (fun hlt=>?_) (fun hge=>?_)
 case refine_2=>
   refine ⟨out7.sum+(if ag7 then 1 else 0),?_,ag7,out7,rfl,rfl,hF7,hO7,hP7.fl,fun e i hi=>?_⟩
   · cases ag7 with
     | true=>have:=hP7.yes rfl;simp;omega
     | false=>rw [(hP7.no rfl).1];simp;omega
   have:=hP7.no e
   rw [this.1]
   exact this.2 i (by rw [List.take_of_length_le (by omega)];exact hL2 i hi)
 have hk:k<L.length:=by omega
 have hx8:=zaj w7
 have hF8:=hF7.step hx8
 have hO8:=hO7.ext hx8
 generalize World.drew1 w7=w8 at *
 refine zab zbm hA hF8.ext fun v51 h51=>?_
 refine zad u25 ty3 (i:=k) hO8.is (by rw [zae];exact hk) fun b2 o2 hA2=>?_
 rw [zaM] at hA2
 refine zac ty3 hA2 (Ext.refl _) fun _=>?_
 have hrL:∀ {w':World} {K:Value→Prop} (hO:OwnI lo hi w' v43 (zaI L)) (kk:K (.int .i64 ((L[k]:Nat):Int))),RD Tryz.prog (Instr.indexAt 25 v43 (.int .i64 (k:Int))) w' fun x37=>RD Tryz.prog (Instr.loadAt 3 x37) w' K:=fun hO kk=>by
   refine zad u25 ty3 (i:=k) hO.is (by rw [zae];exact hk) fun b1 o1 hA1=>?_
   rw [zaM] at hA1
   exact zac ty3 hA1 (Ext.refl _) fun _=>kk
 generalize hix:L[k]=i at *
 have hiv:zaB c p i:=hL i (by rw [←hix];exact List.getElem_mem hk)
 have hin:=(zbq hc hpe hiv).1
 refine (zhD h51 hF8.ext hc hin).mono ?_
 rintro v56 w10 ⟨hx10,ho10⟩
 have hF10:=hF8.step hx10
 have hO10:=hO8.ext hx10
 have hg8:=hF8.lt
 have hN10:=ho10.toI
 have hl2:=zeO c i
 have hQ10:=hP7.enter i
 refine zas (zax c i).length (fun q us w'=>∃ (ag:Bool) (out':List Nat),us=[.bool ag,.int .i64 (q:Int)]∧q≤(zax c i).length∧FW w1 w' g n out'∧OwnI lo hi w' v43 (zaI L)∧OwnI w8.heap.size w10.heap.size w' v56 (zaI (zax c i))∧FQ c T p h out L k i q ag out') 0 (Nat.zero_le _) ⟨ag7,out7,rfl,Nat.zero_le _,hF10,hO10,hN10,hQ10⟩ ?_
 rintro q mq u w11 hqm ⟨ag11,out11,hu,hql,hF11,hO11,hN11,hQ11⟩
 obtain ⟨hu1,hu2⟩:=zcC hu
 rw [hu1,hu2]
 refine zag u25 hN11.is ?_
 rw [zae]
 refine zah ?_
 refine br (fun hlt=>?_) (fun hge=>?_)
 case refine_2=>
   refine zaf (by omega) ?_
   exact ⟨mk-1,by omega,k+1,by omega,ag11,out11,rfl,by omega,hF11,hO11,hQ11.done hk hix (by omega)⟩
 have hq:q<(zax c i).length:=by omega
 have hx12:=zaj w11
 have hF12:=hF11.step hx12
 have hO12:=hO11.ext hx12
 have hN12:=hN11.ext hx12
 generalize World.drew1 w11=w12 at *
 have hj:=zcA hc hin (List.getElem_mem hq)
 have hl11:=hQ11.fl.len
 have hm64:=hQ11.fl.lt0 i
 have hmb:∀ l,l<6→(zaw out11 i).testBit l=false→LostP c (tK T) (tG T) p (fun l=>h.testBit l=true) i l:=fun l hl hb=>hQ11.fl.snd i l hin hl hb
 have hset:=hQ11.set (m:=zaw out11 i) hc hpe hiv hq hmb
 have hskip:=hQ11.skip (m:=zaw out11 i) hq (fun e=>by rw [(hQ11.no e).1])
 have hj64:=hQ11.fl.lt0 (zax c i)[q]
 have hjn:=hj.1
 rw [hnn] at hjn
 have hrN:∀ {w':World} {K:Value→Prop} (hO:OwnI w8.heap.size w10.heap.size w' v56 (zaI (zax c i))) (kk:K (.int .i64 (((zax c i)[q]:Nat):Int))),RD Tryz.prog (Instr.indexAt 25 v56 (.int .i64 (q:Int))) w' fun x37=>RD Tryz.prog (Instr.loadAt 3 x37) w' K:=fun hO kk=>by
   refine zad u25 ty3 (i:=q) hO.is (by rw [zae];exact hq) fun b1 o1 hA1=>?_
   rw [zaM] at hA1
   exact zac ty3 hA1 (Ext.refl _) fun _=>kk
 generalize (zax c i)[q]=j at *
 have hrd:∀ {w':World} {K:Value→Prop} {i:Nat} (hF:FW w1 w' g n out11) (hi:i<c.ins.length) (k:K (.int .i64 (zaw out11 i:Int))),RD Tryz.prog (Instr.indexAt 25 (.slice (some ⟨g,0,none⟩) n n) (.int .i64 (i:Int))) w' fun x37=>RD Tryz.prog (Instr.loadAt 3 x37) w' K:=fun {w' K i} hF hi k=>by
   refine zad u25 ty3 (i:=i) hF.mine.is (by rw [zae,hl11];exact hi) fun b1 o1 hA1=>?_
   rw [zaK] at hA1
   exact zac ty3 hA1 (Ext.refl _) fun _=>k
 refine hrN hN12 ?_
 refine hrd hF12 hj.1 ?_
 refine zaa zaG ?_
 refine zab zcO (zal hA) hF12.ext fun v71 h71=>?_
 refine hrL hO12 ?_
 refine zad u26 zc6 h71 hin fun b3 o3 hA3=>?_
 rw [zaF] at hA3
 refine zab zc6 hA3 hF12.ext fun v77 h77=>?_
 refine hrL hO12 ?_
 refine hrd hF12 hin ?_
 refine (znp h77 hF12.ext h1 (e1.trans (hx1.trans hF12.ext)) hc hT hin hm64).mono ?_
 rintro _ w13 ⟨hx13,rfl⟩
 refine ⟨hx13,?_⟩
 have hF13:=hF12.step hx13
 have hO13:=hO12.ext hx13
 have hN13:=hN12.ext hx13
 have haf:=zs0 hc hT hin hm64
 have hvl:=Nat.and_le_left (n:=zaw out11 j) (m:=aft c T i (zaw out11 i))
 refine zd7 (m:=zaw out11 j) (n:=aft c T i (zaw out11 i)) (by omega) (by omega) ?_
 refine hrN hN13 ?_
 refine hrd hF13 hj.1 ?_
 refine zaN ?_
 refine br (fun hne=>?_) (fun heq=>?_)
 · have hne':zaw out11 j &&& aft c T i (zaw out11 i)≠zaw out11 j:=fun e=>hne (by rw [e])
   refine hrN hN13 ?_
   refine zbv (α:=Int) rfl u25 ty3 hjn ?_
   refine za0 (α:=Int) rfl ty3 hF13.mine (by rw [zae,hl11,hnn]) hjn (zbt (v:=zaw out11 j &&& aft c T i (zaw out11 i)) (by omega)) fun w14 hc14 hm14=>?_
   have hF14:=hF13.set (v:=zaw out11 j &&& aft c T i (zaw out11 i)) hc14 hm14
   have hc14':=zd8 hc14
   refine zaf (by omega) ?_
   exact ⟨mq-1,by omega,q+1,by omega,true,_,rfl,by omega,hF14,hO13.chg hc14' (by omega),hN13.chg hc14' (by omega),hset hne'⟩
 refine zaf (by omega) ?_
 exact ⟨mq-1,by omega,q+1,by omega,ag11,out11,rfl,by omega,hF13,hO13,hN13,hskip (Int.ofNat_inj.1 (Decidable.not_not.1 heq))⟩
def F346 (a0 a1:Value) (w:World) (R:VW):Prop:=
 NIL a0 <|
 rF 180 a0 4 w fun x12=>
 rL 25 x12 w fun x13=>
 rX 25 x13 a1 w fun x15=>
 rL 3 x15 w fun x16=>
 cL 97 [x16] w fun x17 w=>
 rN 25 3 x17 w fun x18=>
 LOOPI [5,19] [(iV 63),(iV 0)] w fun u3 w next3=>
 rC (u3 19) x18 w fun x20=>
 BR x20
 (rX 25 x17 (u3 19) w fun x21=>
 rL 3 x21 w fun x22=>
 cL 234 [a0,x22] w fun x25 w=>
 rN 25 3 x25 w fun x26=>
 LOOPI [5,27] [(u3 5),(iV 0)] w fun u6 w next6=>
 rC (u6 27) x26 w fun x28=>
 BR x28
 (rX 25 x25 (u6 27) w fun x29=>
 rL 3 x29 w fun x30=>
 NIL a0 <|
 rF 180 a0 0 w fun x33=>
 rF 28 x33 4 w fun x34=>
 rL 26 x34 w fun x35=>
 rX 26 x35 x30 w fun x37=>
 rF 77 x37 0 w fun x38=>
 rL 3 x38 w fun x39=>
 rB .eql 3 T0 U0 x39 (iV 7) w fun x40=>
 BR x40
 (NIL a0 <|
 rF 180 a0 0 w fun x44=>
 rF 28 x44 4 w fun x45=>
 rL 26 x45 w fun x46=>
 rX 26 x46 x30 w fun x48=>
 rF 77 x48 1 w fun x49=>
 rL 3 x49 w fun x50=>
 rD (convert 3 97 x50) w fun x51=>
 rB .shl 3 U0 T0 (iV 1) x51 w fun x52=>
 rB .andNot 3 T0 T0 (u6 5) x52 w fun x53=>
 rA (u6 27) (iV 1) w fun x54=>
 next6 [x53,x54] w)
 (rA (u6 27) (iV 1) w fun x54=>
 next6 [(u6 5),x54] w))
 (rA (u3 19) (iV 1) w fun x55=>
 next3 [(u6 5),x55] w))
 (R (u3 5) w)
def cfg346:Cfg:=⟨extL,[],[(3,72057594037404320,[5,19]),(6,36028796884746784,[5,27])],[],[],[],[]⟩
theorem F346_call {a0 a1:Value} {w:World} {R:VW} (h:F346 a0 a1 w R):cL 346 [a0,a1] w R:=co (g:=cfg346) Tryz.func346 (by kernel_rfl) (by kernel_rfl) (by kernel_rfl) h
def F337 (a0 a1:Value) (w:World) (R:VW):Prop:=
 oP (Instr.box 28 a0) w fun x2 w=>
 rL 28 x2 w fun x10=>
 cL 251 [x10,a1] w fun x12 w=>
 LOOPI [6,7] [(iV 63),(iV 0)] w fun u4 w next4=>
 rF 28 x2 2 w fun x14=>
 rL 24 x14 w fun x15=>
 rN 24 3 x15 w fun x16=>
 rC (u4 7) x16 w fun x17=>
 BR x17
 (rX 135 x12 (u4 7) w fun x22=>
 rL 4 x22 w fun x23=>
 rD (Op.unary .not x23) w fun x24=>
 BR x24
 (rA (u4 7) (iV 1) w fun x19=>
 next4 [(u4 6),x19] w)
 (rL 28 x2 w fun x25=>
 cL 306 [x25,(u4 7)] w fun x27 w=>
 LOOPI [6,9] [(u4 6),(iV 0)] w fun u9 w next9=>
 rF 28 x2 4 w fun x29=>
 rL 26 x29 w fun x30=>
 rN 26 3 x30 w fun x31=>
 rC (u9 9) x31 w fun x32=>
 BR x32
 (rX 135 x27 (u9 9) w fun x37=>
 rL 4 x37 w fun x38=>
 BR x38
 (rF 28 x2 4 w fun x40=>
 rL 26 x40 w fun x41=>
 rX 26 x41 (u9 9) w fun x43=>
 rF 77 x43 0 w fun x44=>
 rL 3 x44 w fun x45=>
 rB .eql 3 T0 U0 x45 (iV 7) w fun x46=>
 BR x46
 (rF 28 x2 4 w fun x49=>
 rL 26 x49 w fun x50=>
 rX 26 x50 (u9 9) w fun x52=>
 rF 77 x52 1 w fun x53=>
 rL 3 x53 w fun x54=>
 cL 161 [x54] w fun x55 w=>
 cL 243 [(u9 6),x55] w fun x56 w=>
 rA (u9 9) (iV 1) w fun x34=>
 next9 [x56,x34] w)
 (rA (u9 9) (iV 1) w fun x34=>
 next9 [(u9 6),x34] w))
 (rA (u9 9) (iV 1) w fun x34=>
 next9 [(u9 6),x34] w))
 (rA (u4 7) (iV 1) w fun x19=>
 next4 [(u9 6),x19] w)))
 (R (u4 6) w)
def cfg337:Cfg:=⟨extL,[],[(4,144115188075848640,[6,7]),(9,144115187807420992,[6,9])],[],[],[],[]⟩
theorem F337_call {a0 a1:Value} {w:World} {R:VW} (h:F337 a0 a1 w R):cL 337 [a0,a1] w R:=co (g:=cfg337) Tryz.func337 (by kernel_rfl) (by kernel_rfl) (by kernel_rfl) h
open Rep (rep)
theorem zjo {p:Nat→Prop} {n:Nat}:∀ {k:Nat},k≤n→zds (zhc p n) k=zaI (zbn k p)
 | 0,_=>rfl
 | k+1,h=>by
   rw [zds,zjo (k:=k) (by omega)]
   by_cases hp:p k
   · rw [if_pos (zch.2 ⟨by omega,hp⟩),zfc hp,zb3];rfl
   rw [if_neg fun e=>hp (zch.1 e).2,zfd hp]
theorem zdi {p:Nat→Prop} {n:Nat} (h:n≤62):zcd (zhc p n)=zaI (zbn n p):=by
 rw [zlb (k:=n) zjg (by omega),zjo (Nat.le_refl _)]
theorem zaY {p:Nat→Prop} {n:Nat} (h:n≤8):zhc p n<256:=Nat.lt_of_lt_of_le zjg (Nat.pow_le_pow_right (n:=2) (by omega) h)
noncomputable def cls (c:DCode) (op:Int):List Nat:=(List.range c.procs.length).map fun p=>zhc (zil c p op) c.procs.length
noncomputable def frs (c:DCode):List Nat:=(List.range c.procs.length).map fun p=>zhc (FromP c p) c.procs.length
theorem zfK (c:DCode) (op:Int):(cls c op).length=c.procs.length:=by simp [cls]
theorem zhM (c:DCode):(frs c).length=c.procs.length:=by simp [frs]
theorem zs3 {c:DCode} {op:Int} {p:Nat} (hp:p<c.procs.length):zaw (cls c op) p=zhc (zil c p op) c.procs.length:=by rw [←zaU (by rw [zfK];exact hp)];simp [cls]
theorem zoz {c:DCode} {p:Nat} (hp:p<c.procs.length):zaw (frs c) p=zhc (FromP c p) c.procs.length:=by rw [←zaU (by rw [zhM];exact hp)];simp [frs]
noncomputable def zci (c:DCode):Nat:=zhc (RootP c) c.procs.length
noncomputable def zdD (c:DCode):Nat:=zhc (UsedP c) c.procs.length
structure WAt (W0:World) (b:Nat) (c:DCode):Prop where
 wl:WL W0 b c
 calls:At W0 b (0+6) (zaI (cls c 4))
 spawns:At W0 b (0+7) (zaI (cls c 5))
 frm:At W0 b (0+8) (zaI (frs c))
 roots:At W0 b (0+9) (zci c:Int)
 used:At W0 b (0+10) (zdD c:Int)
def KI (m:Nat) (P:Nat→Prop):Prop:=m<64∧∀ l,l<6→(m.testBit l=false↔P l)
theorem KI.start {P:Nat→Prop} (h:∀ l,¬P l):KI 63 P:=⟨by omega,fun l hl=>by rw [zg2 hl];exact ⟨fun e=>(by cases e),fun e=>absurd e (h l)⟩⟩
theorem KI.drop {m a:Nat} {P P':Nat→Prop} (h:KI m P) (hP:∀ l,P' l↔P l∨a=l):KI (znl m (2^a)) P':=by
 refine ⟨Nat.lt_of_le_of_lt (zla _ _) h.1,fun l hl=>?_⟩
 rw [zff,Nat.testBit_two_pow,hP,←h.2 l hl]
 simp only [Bool.and_eq_false_iff,Bool.not_eq_false',decide_eq_true_eq]
theorem KI.congr {m:Nat} {P P':Nat→Prop} (h:KI m P) (hP:∀ l,P' l↔P l):KI m P':=⟨h.1,fun l hl=>by rw [h.2 l hl,hP]⟩
theorem KI.eq {m:Nat} {P:Nat→Prop} (h:KI m P):m=m6 fun l=>¬P l:=zqS h.1 fun l hl=>by rw [←h.2 l hl];simp
theorem zbe {α:Type} {l:List α} {k:Nat} (hk:k<l.length) {x:α}:x∈l.take (k+1)↔x∈l.take k∨x=l[k]:=by
 rw [List.take_succ_eq_append_getElem hk,List.mem_append];simp
def zmq (c:DCode) (q l:Nat):Prop:=∃ i,zaB c q i∧(zak c i).op=7∧agN c i=l
theorem zq1 {w W0:World} {b p:Nat} {c:DCode} (hW:WAt W0 b c) (e0:Ext W0 w) (hc:CodeR c) (hp:p<c.procs.length) :
   CALL Tryz.prog 346 [.pointer (some ⟨b,0,none⟩),.int .i64 (p:Int)] w fun r w'=>Ext w w'∧r=.int .i64 (zeS c p:Nat):=by
 refine F346_call ?_
 unfold F346
 have h8:=hc.1.procs8
 have hil:=hc.f.ins
 refine NIL.mk rfl ?_
 refine zaa ziJ ?_
 refine zab zcN hW.frm e0 fun v13 h13=>?_
 refine zad u25 ty3 h13 (by rw [zae,zhM];exact hp) fun b1 o1 hA1=>?_
 rw [zaK,zoz hp] at hA1
 refine zac ty3 hA1 e0 fun _=>?_
 have hsm:=zaY (p:=FromP c p) h8.1
 refine (zdt (m:=zhc (FromP c p) c.procs.length) (by omega)).mono ?_
 rintro v17 w1 ⟨hx1,ho1⟩
 rw [zdi (by omega)] at ho1
 have hL:∀ q,q∈zbn c.procs.length (FromP c p)↔q<c.procs.length∧FromP c p q:=fun q=>zaT
 have hLl:=za6 (n:=c.procs.length) (p:=FromP c p)
 generalize zbn c.procs.length (FromP c p)=L at *
 refine zag u25 ho1.is ?_
 rw [zae]
 refine zas L.length (fun k us w'=>∃ m:Nat,us=[.int .i64 (m:Int),.int .i64 (k:Int)]∧k≤L.length∧Ext w1 w'∧KI m (fun l=>∃ q∈L.take k,zmq c q l)) 0 (Nat.zero_le _) ⟨63,rfl,Nat.zero_le _,Ext.refl _,KI.start (by simp)⟩ ?_
 rintro k mk u w2 hkm ⟨m,hu,hkl,hx2,hK⟩
 obtain ⟨hu1,hu2⟩:=zcC hu;clear hu
 rw [hu1,hu2]
 refine zah ?_
 refine br (fun hlt=>?_) (fun hge=>?_)
 case refine_2=>
   rw [show L.take k=L from List.take_of_length_le (by omega)] at hK
   refine ⟨hx1.trans hx2,?_⟩
   have:m=zeS c p:=by
     rw [hK.eq]
     refine zov fun l hl=>not_congr ?_
     constructor
     · rintro ⟨q,hq,i,h1,h2,h3⟩
       exact ⟨q,i,((hL q).1 hq).1,((hL q).1 hq).2,h1,h2,h3⟩
     rintro ⟨q,i,h0,hf,h1,h2,h3⟩
     exact ⟨q,(hL q).2 ⟨h0,hf⟩,i,h1,h2,h3⟩
   rw [this]
 have hk:k<L.length:=by omega
 refine zad u25 ty3 (i:=k) (ho1.is) (by rw [zae];exact hk) fun b2 o2 hA2=>?_
 rw [zaM] at hA2
 refine zac ty3 hA2 hx2 fun _=>?_
 have hq:=(hL L[k]).1 (List.getElem_mem hk)
 have htk:=fun x=>zbe hk (x:=x)
 generalize L[k]=q at *
 have hx02:=(e0.trans hx1).trans hx2
 refine (zfJ hW.wl hx02 hc hq.1).mono ?_
 rintro v25 w3 ⟨hx3,ho3⟩
 have hM:∀ i,i∈zbn c.ins.length (zaB c q)↔i<c.ins.length∧zaB c q i:=fun i=>zaT
 have hMl:=za6 (n:=c.ins.length) (p:=zaB c q)
 generalize zbn c.ins.length (zaB c q)=M at *
 refine zag u25 ho3.is ?_
 rw [zae]
 refine zas M.length (fun j us w'=>∃ m:Nat,us=[.int .i64 (m:Int),.int .i64 (j:Int)]∧j≤M.length∧Ext w3 w'∧KI m (fun l=>(∃ q∈L.take k,zmq c q l)∨∃ i∈M.take j,(zak c i).op=7∧agN c i=l)) 0 (Nat.zero_le _) ⟨m,rfl,Nat.zero_le _,Ext.refl _,hK.congr fun l=>by simp⟩ ?_
 rintro j mj u w4 hjm ⟨m4,hu,hjl,hx4,hK4⟩
 obtain ⟨hu1,hu2⟩:=zcC hu
 rw [hu1,hu2]
 refine zah ?_
 refine br (fun hlt=>?_) (fun hge=>?_)
 case refine_2=>
   rw [show M.take j=M from List.take_of_length_le (by omega)] at hK4
   refine zaf (by omega) ?_
   refine ⟨mk-1,by omega,k+1,by omega,m4,rfl,by omega,hx2.trans (hx3.trans hx4),hK4.congr fun l=>?_⟩
   constructor
   · rintro ⟨r,hr,h1⟩
     rcases (htk r).1 hr with hr | rfl
     · exact .inl ⟨r,hr,h1⟩
     obtain ⟨i,h1,h2,h3⟩:=h1
     exact .inr ⟨i,(hM i).2 ⟨(zbq hc (by rw [hc.2.1.1];exact hq.1) h1).1,h1⟩,h2,h3⟩
   rintro (⟨r,hr,h1⟩ | ⟨i,hi,h2,h3⟩)
   · exact ⟨r,(htk r).2 (.inl hr),h1⟩
   exact ⟨q,(htk q).2 (.inr rfl),i,((hM i).1 hi).2,h2,h3⟩
 have hj:j<M.length:=by omega
 refine zad u25 ty3 (i:=j) (ho3.is) (by rw [zae];exact hj) fun b3 o3 hA3=>?_
 rw [zaM] at hA3
 refine zac ty3 hA3 hx4 fun _=>?_
 have hi:=(hM M[j]).1 (List.getElem_mem hj)
 have htj:=fun x=>zbe hj (x:=x)
 generalize M[j]=i at *
 have hx04:=hx02.trans (hx3.trans hx4)
 refine NIL.mk rfl ?_
 refine zaa za5 ?_
 refine zaa zaG ?_
 refine zab zcO (zal hW.wl.code) hx04 fun v35 h35=>?_
 refine zad u26 zc6 h35 hi.1 fun b4 o4 hA4=>?_
 rw [zaF] at hA4
 refine zaa zbf ?_
 refine zac ty3 (zay hA4) hx04 fun _=>?_
 refine zai ?_
 refine br (fun c7=>?_) (fun c7=>?_)
 · obtain ⟨ha,_,hq6⟩:=zfi hc hi.1 (.inr c7)
   have hpw:=zfI hq6
   refine NIL.mk rfl ?_
   refine zaa za5 ?_
   refine zaa zaG ?_
   refine zab zcO (zal hW.wl.code) hx04 fun v46 h46=>?_
   refine zad u26 zc6 h46 hi.1 fun b5 o5 hA5=>?_
   rw [zaF] at hA5
   refine zaa zbu ?_
   refine zac ty3 (zaC hA5) hx04 fun _=>?_
   rw [ha]
   refine zdA (by kernel_rfl) u97 (by omega) ?_
   refine zer (by omega) ?_
   have h64:=hK4.1
   refine zjj (m:=m4) (n:=2^agN c i) (by omega) (by omega) ?_
   refine zaf (by omega) ?_
   refine ⟨mj-1,by omega,j+1,by omega,_,rfl,by omega,hx4,hK4.drop fun l=>?_⟩
   constructor
   · rintro (h | ⟨r,hr,h1,h2⟩)
     · exact .inl (.inl h)
     rcases (htj r).1 hr with hr | rfl
     · exact .inl (.inr ⟨r,hr,h1,h2⟩)
     exact .inr h2
   rintro ((h | ⟨r,hr,h1⟩) | h)
   · exact .inl h
   · exact .inr ⟨r,(htj r).2 (.inl hr),h1⟩
   exact .inr ⟨i,(htj i).2 (.inr rfl),c7,h⟩
 refine zaf (by omega) ?_
 refine ⟨mj-1,by omega,j+1,by omega,_,rfl,by omega,hx4,hK4.congr fun l=>?_⟩
 constructor
 · rintro (h | ⟨r,hr,h1,h2⟩)
   · exact .inl h
   rcases (htj r).1 hr with hr | rfl
   · exact .inr ⟨r,hr,h1,h2⟩
   exact absurd h1 c7
 rintro (h | ⟨r,hr,h1⟩)
 · exact .inl h
 exact .inr ⟨r,(htj r).2 (.inl hr),h1⟩
theorem zpn {w W0:World} {v0:Value} {p:Nat} {c:DCode} (h0:Is W0 v0 c) (e0:Ext W0 w) (hc:CodeR c) (hp:p<c.procs.length) :
   CALL Tryz.prog 337 [v0,.int .i64 (p:Int)] w fun r w'=>Ext w w'∧r=.int .i64 (zeS c p:Nat):=by
 refine F337_call ?_
 unfold F337
 have h8:=hc.1.procs8
 have hil:=hc.f.ins
 refine zaV h0 e0 fun w0 hx0 hA=>?_
 refine zab zbm hA (Ext.refl _) fun v10 h10=>?_
 refine (zfg h10 (Ext.refl _) hc hp).mono ?_
 rintro _ w1 ⟨hx1,g,rfl,hg,hM1⟩
 have hFr:(fun i=>i=p∨RP (zjl c) p i)=FromP c p:=rfl
 rw [hFr] at hM1
 refine zas c.procs.length (fun k us w'=>∃ m:Nat,us=[.int .i64 (m:Int),.int .i64 (k:Int)]∧k≤c.procs.length∧Ext w1 w'∧KI m (fun l=>∃ q,q<k∧FromP c p q∧zmq c q l)) 0 (Nat.zero_le _) ⟨63,rfl,Nat.zero_le _,Ext.refl _,KI.start (by simp)⟩ ?_
 rintro k mk u w2 hkm ⟨m,hu,hkl,hx2,hK⟩
 obtain ⟨hu1,hu2⟩:=zcC hu;clear hu
 rw [hu1,hu2]
 have hx02:=hx1.trans hx2
 refine zaa zbb ?_
 refine zab zcj (zat hA) hx02 fun v15 h15=>?_
 refine zag u24 h15 ?_
 refine zah ?_
 refine br (fun hlt=>?_) (fun hge=>?_)
 case refine_2=>
   have hke:k=c.procs.length:=by omega
   rw [hke] at hK
   refine ⟨hx0.trans hx02,?_⟩
   have:m=zeS c p:=by
     rw [hK.eq]
     refine zov fun l hl=>not_congr ?_
     constructor
     · rintro ⟨q,hq,hf,i,h1,h2,h3⟩
       exact ⟨q,i,hq,hf,h1,h2,h3⟩
     rintro ⟨q,i,h0,hf,h1,h2,h3⟩
     exact ⟨q,h0,hf,i,h1,h2,h3⟩
   rw [this]
 have hk:k<c.procs.length:=by omega
 refine zad zcX ty4 (i:=k) hM1.is (by rw [zam];exact hk) fun b2 o2 hA2=>?_
 refine zaz ty4 hA2 hx2 ?_
 have hmk:=zaH (n:=c.procs.length) (p:=FromP c p) (i:=k)
 rw [zaO (by rw [zam];exact hk)] at hmk
 refine zaJ ?_
 refine zbw (fun hf=>?_) (fun hf=>?_)
 · have hnf:¬FromP c p k:=fun h=>by rw [hmk.2 ⟨hk,h⟩] at hf;cases hf
   refine zaf (by omega) ?_
   refine ⟨mk-1,by omega,k+1,by omega,m,rfl,by omega,hx2,hK.congr fun l=>?_⟩
   constructor
   · rintro ⟨q,hq,h1,h2⟩
     by_cases e:q=k
     · subst e;exact absurd h1 hnf
     exact ⟨q,by omega,h1,h2⟩
   rintro ⟨q,hq,h1⟩;exact ⟨q,by omega,h1⟩
 have hfr:FromP c p k:=(hmk.1 (by simpa using hf)).2
 refine zab zbm hA hx02 fun v25 h25=>?_
 refine (zeP h25 hx02 hc (by rw [hc.2.1.1];exact hk)).mono ?_
 rintro v27 w3 ⟨hx3,ho3⟩
 refine zas c.ins.length (fun j us w'=>∃ m:Nat,us=[.int .i64 (m:Int),.int .i64 (j:Int)]∧j≤c.ins.length∧Ext w3 w'∧KI m (fun l=>(∃ q,q<k∧FromP c p q∧zmq c q l)∨∃ i,i<j∧zaB c k i∧(zak c i).op=7∧agN c i=l)) 0 (Nat.zero_le _) ⟨m,rfl,Nat.zero_le _,Ext.refl _,hK.congr fun l=>by simp⟩ ?_
 rintro j mj u w4 hjm ⟨m4,hu,hjl,hx4,hK4⟩
 obtain ⟨hu1,hu2⟩:=zcC hu
 rw [hu1,hu2]
 have hx04:=hx02.trans (hx3.trans hx4)
 refine zaa zaG ?_
 refine zab zcO (zal hA) hx04 fun v30 h30=>?_
 refine zag u26 h30 ?_
 refine zah ?_
 refine br (fun hlt=>?_) (fun hge=>?_)
 case refine_2=>
   have hje:j=c.ins.length:=by omega
   rw [hje] at hK4
   refine zaf (by omega) ?_
   refine ⟨mk-1,by omega,k+1,by omega,m4,rfl,by omega,hx2.trans (hx3.trans hx4),hK4.congr fun l=>?_⟩
   constructor
   · rintro ⟨q,hq,h1,h2⟩
     by_cases e:q=k
     · subst e
       obtain ⟨i,h3,h4⟩:=h2
       exact .inr ⟨i,(zbq hc (by rw [hc.2.1.1];exact hk) h3).1,h3,h4⟩
     exact .inl ⟨q,by omega,h1,h2⟩
   rintro (⟨q,hq,h1⟩ | ⟨i,hi,h2⟩)
   · exact ⟨q,by omega,h1⟩
   exact ⟨k,by omega,hfr,i,h2⟩
 have hj:j<c.ins.length:=by omega
 refine zad zcX ty4 (i:=j) ho3.is (by rw [zam];exact hj) fun b3 o3 hA3=>?_
 refine zaz ty4 hA3 hx4 ?_
 have hmj:=zaH (n:=c.ins.length) (p:=zaB c k) (i:=j)
 rw [zaO (by rw [zam];exact hj)] at hmj
 have hno:∀ w',Ext w3 w'→¬(zaB c k j∧(zak c j).op=7)→∃ m:Nat,[Value.int .i64 (m4:Int),Value.int .i64 ((j+1:Nat):Int)]=[.int .i64 (m:Int),.int .i64 ((j+1:Nat):Int)]∧j+1≤c.ins.length∧Ext w3 w'∧KI m (fun l=>(∃ q,q<k∧FromP c p q∧zmq c q l)∨∃ i,i<j+1∧zaB c k i∧(zak c i).op=7∧agN c i=l):=fun w' hx hn=>by
   refine ⟨m4,rfl,by omega,hx,hK4.congr fun l=>or_congr Iff.rfl ?_⟩
   constructor
   · rintro ⟨i,h1,h2,h3,h4⟩
     by_cases e:i=j
     · subst e;exact absurd ⟨h2,h3⟩ hn
     exact ⟨i,by omega,h2,h3,h4⟩
   rintro ⟨i,h1,h2⟩;exact ⟨i,by omega,h2⟩
 refine zbw (fun hf4=>?_) (fun hf4=>?_)
 · refine zaa zaG ?_
   refine zab zcO (zal hA) hx04 fun v41 h41=>?_
   refine zad u26 zc6 h41 hj fun b4 o4 hA4=>?_
   rw [zaF] at hA4
   refine zaa zbf ?_
   refine zac ty3 (zay hA4) hx04 fun _=>?_
   refine zai ?_
   refine br (fun c7=>?_) (fun c7=>?_)
   · obtain ⟨ha,_,hq6⟩:=zfi hc hj (.inr c7)
     have hpw:=zfI hq6
     refine zaa zaG ?_
     refine zab zcO (zal hA) hx04 fun v50 h50=>?_
     refine zad u26 zc6 h50 hj fun b5 o5 hA5=>?_
     rw [zaF] at hA5
     refine zaa zbu ?_
     refine zac ty3 (zaC hA5) hx04 fun _=>?_
     rw [ha]
     refine (zfH (by omega)).mono ?_
     rintro _ w5 ⟨hx5,rfl⟩
     refine (zhJ hK4.1 hpw).mono ?_
     rintro _ w6 ⟨hx6,rfl⟩
     rw [zgv hK4.1 hpw]
     refine zaf (by omega) ?_
     refine ⟨mj-1,by omega,j+1,by omega,_,rfl,by omega,hx4.trans (hx5.trans hx6),hK4.drop fun l=>?_⟩
     constructor
     · rintro (h | ⟨i,h1,h2,h3,h4⟩)
       · exact .inl (.inl h)
       by_cases e:i=j
       · subst e;exact .inr h4
       exact .inl (.inr ⟨i,by omega,h2,h3,h4⟩)
     rintro ((h | ⟨i,h1,h2⟩) | h)
     · exact .inl h
     · exact .inr ⟨i,by omega,h2⟩
     exact .inr ⟨j,by omega,(hmj.1 hf4).2,c7,h⟩
   refine zaf (by omega) ?_
   exact ⟨mj-1,by omega,j+1,by omega,hno w4 hx4 fun h=>c7 h.2⟩
 refine zaf (by omega) ?_
 exact ⟨mj-1,by omega,j+1,by omega,hno w4 hx4 fun h=>by rw [hmj.2 ⟨hj,h.1⟩] at hf4;cases hf4⟩
def F335 (a0 a1 a2:Value) (w:World) (R:VW):Prop:=
 (fun w=>NIL a0 <|
 rF 180 a0 0 w fun x13=>
 rL 28 x13 w fun x14=>
 (fun w_=>cL 300 [a0,a1,a2,(iV 0)] w_ fun x10 w=>
 Ext w_ w ∧
 cL 132 [x14,a2] w fun x16 w=>
 rB .sub 3 T0 U0 x16 (iV 1) w fun x17=>
 rX 25 x10 x17 w fun x18=>
 rL 3 x18 w fun x19=>
 R x19 w) w) (World.drew1 w)
def cfg335:Cfg:=⟨extL,[],[],[(1,[0,1,2,4,5,6,7,8,3,9,10,11,12,13],8)],[],[],[]⟩
theorem F335_call {a0 a1 a2:Value} {w:World} {R:VW} (h:F335 a0 a1 a2 w R):cL 335 [a0,a1,a2] w R:=co (g:=cfg335) Tryz.func335 (by kernel_rfl) (by kernel_rfl) (by kernel_rfl) h
def F305 (a0 a1 a2:Value) (w:World) (R:VW):Prop:=
 oP (Instr.box 28 a0) w fun x3 w=>
 (fun w=>rL 28 x3 w fun x7=>
 rL 28 x3 w fun x11=>
 (fun w_=>cL 256 [x7,a1,a2,(iV 0)] w_ fun x10 w=>
 Ext w_ w ∧
 cL 213 [x11,a2] w fun x13 w=>
 rX 25 x10 x13 w fun x14=>
 rL 3 x14 w fun x15=>
 R x15 w) w) (World.drew1 w)
def cfg305:Cfg:=⟨extL,[],[],[(1,[0,1,2,4,5,3,6,7,8,9],8)],[],[],[]⟩
theorem F305_call {a0 a1 a2:Value} {w:World} {R:VW} (h:F305 a0 a1 a2 w R):cL 305 [a0,a1,a2] w R:=co (g:=cfg305) Tryz.func305 (by kernel_rfl) (by kernel_rfl) (by kernel_rfl) h
def F334 (a0:Value) (w:World) (R:VW):Prop:=
 NIL a0 <|
 rF 180 a0 0 w fun x7=>
 rF 28 x7 2 w fun x8=>
 rL 24 x8 w fun x9=>
 rN 24 3 x9 w fun x10=>
 LOOPI [3,11] [(Value.slice none 0 0),(iV 0)] w fun u3 w next3=>
 rC (u3 11) x10 w fun x12=>
 BR x12
 (cL 346 [a0,(u3 11)] w fun x17 w=>
 rD (Instr.build 279 #[(0,x17),(1,(iV 63))]) w fun x18=>
 oP (Instr.buildSlice 240 1 #[(0,x18)]) w fun x19 w=>
 oP (Builtin.append_ #[240,240] 240 [(u3 3),x19].toArray) w fun x20 w=>
 rA (u3 11) (iV 1) w fun x21=>
 next3 [x20,x21] w)
 (R (u3 3) w)
def cfg334:Cfg:=⟨extL,[],[(3,4192280,[3,11])],[],[],[],[]⟩
theorem F334_call {a0:Value} {w:World} {R:VW} (h:F334 a0 w R):cL 334 [a0] w R:=co (g:=cfg334) Tryz.func334 (by kernel_rfl) (by kernel_rfl) (by kernel_rfl) h
def F304 (a0:Value) (w:World) (R:VW):Prop:=
 oP (Instr.box 28 a0) w fun x1 w=>
 oP (Instr.buildSlice 240 0 #[]) w fun x5 w=>
 LOOPI [3,4] [x5,(iV 0)] w fun u3 w next3=>
 rF 28 x1 2 w fun x7=>
 rL 24 x7 w fun x8=>
 rN 24 3 x8 w fun x9=>
 rC (u3 4) x9 w fun x10=>
 BR x10
 (rL 28 x1 w fun x14=>
 cL 337 [x14,(u3 4)] w fun x16 w=>
 rD (Instr.build 279 #[(0,x16),(1,(iV 63))]) w fun x17=>
 oP (Instr.buildSlice 240 1 #[(0,x17)]) w fun x18 w=>
 oP (Builtin.append_ #[240,240] 240 [(u3 3),x18].toArray) w fun x19 w=>
 rA (u3 4) (iV 1) w fun x12=>
 next3 [x19,x12] w)
 (R (u3 3) w)
def cfg304:Cfg:=⟨extL,[],[(3,1048536,[3,4])],[],[],[],[]⟩
theorem F304_call {a0:Value} {w:World} {R:VW} (h:F304 a0 w R):cL 304 [a0] w R:=co (g:=cfg304) Tryz.func304 (by kernel_rfl) (by kernel_rfl) (by kernel_rfl) h
def F298 (a0:Value) (w:World) (R:VW):Prop:=
 cL 334 [a0] w fun x8 w=>
 LOOPI [4] [(Value.bool true)] w fun u3 w next3=>
 BR (u3 4)
 (rN 240 3 x8 w fun x11=>
 LOOPI [4,12] [(Value.bool false),(iV 0)] w fun u6 w next6=>
 rC (u6 12) x11 w fun x13=>
 BR x13
 (cL 335 [a0,x8,(u6 12)] w fun x18 w=>
 rX 240 x8 (u6 12) w fun x22=>
 rF 279 x22 1 w fun x23=>
 rL 3 x23 w fun x24=>
 rB .neq 3 T0 T0 x18 x24 w fun x25=>
 BR x25
 (rX 240 x8 (u6 12) w fun x29=>
 rF 279 x29 1 w fun x30=>
 oS 3 x30 x18 w fun w=>
 rA (u6 12) (iV 1) w fun x31=>
 next6 [(Value.bool true),x31] w)
 (rA (u6 12) (iV 1) w fun x31=>
 next6 [(u6 4),x31] w))
 (next3 [(u6 4)] w))
 (R x8 w)
def cfg298:Cfg:=⟨extL,[],[(3,4294966896,[4]),(6,4294963312,[4,12])],[],[],[],[]⟩
theorem F298_call {a0:Value} {w:World} {R:VW} (h:F298 a0 w R):cL 298 [a0] w R:=co (g:=cfg298) Tryz.func298 (by kernel_rfl) (by kernel_rfl) (by kernel_rfl) h
def F253 (a0:Value) (w:World) (R:VW):Prop:=
 oP (Instr.box 28 a0) w fun x1 w=>
 rL 28 x1 w fun x7=>
 cL 304 [x7] w fun x8 w=>
 LOOPI [4] [(Value.bool true)] w fun u3 w next3=>
 BR (u3 4)
 (LOOPI [4,5] [(Value.bool false),(iV 0)] w fun u6 w next6=>
 rF 28 x1 2 w fun x11=>
 rL 24 x11 w fun x12=>
 rN 24 3 x12 w fun x13=>
 rC (u6 5) x13 w fun x14=>
 BR x14
 (rL 28 x1 w fun x17=>
 cL 305 [x17,x8,(u6 5)] w fun x20 w=>
 rX 240 x8 (u6 5) w fun x24=>
 rF 279 x24 1 w fun x25=>
 rL 3 x25 w fun x26=>
 rB .neq 3 T0 T0 x20 x26 w fun x27=>
 BR x27
 (rX 240 x8 (u6 5) w fun x31=>
 rF 279 x31 1 w fun x32=>
 oS 3 x32 x20 w fun w=>
 rA (u6 5) (iV 1) w fun x16=>
 next6 [(Value.bool true),x16] w)
 (rA (u6 5) (iV 1) w fun x16=>
 next6 [(u6 4),x16] w))
 (next3 [(u6 4)] w))
 (R x8 w)
def cfg253:Cfg:=⟨extL,[],[(3,8589934192,[4]),(6,8589933680,[4,5])],[],[],[],[]⟩
theorem F253_call {a0:Value} {w:World} {R:VW} (h:F253 a0 w R):cL 253 [a0] w R:=co (g:=cfg253) Tryz.func253 (by kernel_rfl) (by kernel_rfl) (by kernel_rfl) h
open Rep (rep)
theorem zen {c:DCode} (hc:CodeR c) {p:Nat} (hp:p<c.procs.length):zdk c p=((zN c p+1:Nat):Int)∧zeF c p=(zN c p:Int)∧zN c p<c.ins.length:=by
 have h:=zjE hc (p:=p) (by rw [hc.2.1.1];exact hp)
 refine ⟨by omega,?_,h.2.2⟩
 rw [zdH];omega
theorem zso {w W0 W1:World} {b p:Nat} {v1:Value} {c:DCode} {T:Tab} (hW:WL W0 b c) (e0:Ext W0 w) (h1:Is W1 v1 (zgb T)) (e1:Ext W1 w) (hc:CodeR c) (hT:zqV c T) (hp:p<c.procs.length) :
   CALL Tryz.prog 335 [.pointer (some ⟨b,0,none⟩),v1,.int .i64 (p:Int)] w fun r w'=>Ext w w'∧r=.int .i64 (zdv c T p:Nat):=by
 refine F335_call ?_
 unfold F335
 obtain ⟨hz1,hz2,hz3⟩:=zen hc hp
 have hil:=hc.f.ins
 have h8:=hc.1.procs8
 have hxd:=zaj w
 generalize World.drew1 w=w1 at *
 refine NIL.mk rfl ?_
 refine zaa za5 ?_
 refine zab zbm hW.code (e0.trans hxd) fun v14 h14=>?_
 refine (zns hW (e0.trans hxd) h1 (e1.trans hxd) hc hT hp (h:=0) (by omega)).mono ?_
 rintro v10 w2 ⟨hx2,ho2⟩
 refine ⟨hx2,?_⟩
 refine (zdq h14 ((e0.trans hxd).trans hx2) (by omega)).mono ?_
 rintro _ w3 ⟨hx3,rfl⟩
 rw [hz1]
 refine zbp (by unfold I64;omega) ?_
 rw [show ((zN c p+1:Nat):Int)-1=(zN c p:Int) by omega]
 refine zad u25 ty3 ho2.is (by rw [zae,zdu];exact hz3) fun b1 o1 hA1=>?_
 rw [zaK] at hA1
 refine zac ty3 hA1 hx3 fun _=>?_
 exact ⟨hxd.trans (hx2.trans hx3),rfl⟩
theorem zq2 {w W0 W1:World} {p:Nat} {v0 v1:Value} {c:DCode} {T:Tab} (h0:Is W0 v0 c) (e0:Ext W0 w) (h1:Is W1 v1 (zgb T)) (e1:Ext W1 w) (hc:CodeR c) (hT:zqV c T) (hp:p<c.procs.length) :
   CALL Tryz.prog 305 [v0,v1,.int .i64 (p:Int)] w fun r w'=>Ext w w'∧r=.int .i64 (zdv c T p:Nat):=by
 refine F305_call ?_
 unfold F305
 obtain ⟨hz1,hz2,hz3⟩:=zen hc hp
 have hil:=hc.f.ins
 have h8:=hc.1.procs8
 refine zaV h0 e0 fun w0 hx0 hA=>?_
 have hxd:=zaj w0
 generalize World.drew1 w0=w1 at *
 refine zab zbm hA hxd fun v7 h7=>?_
 refine zab zbm hA hxd fun v11 h11=>?_
 refine (zhL h7 hxd h1 (e1.trans (hx0.trans hxd)) hc hT hp (h:=0) (by omega)).mono ?_
 rintro v10 w2 ⟨hx2,ho2⟩
 refine ⟨hx2,?_⟩
 refine (zd2 h11 (hxd.trans hx2) (p:=(p:Int)) (by omega) (by omega) hc.2.1.nonneg).mono ?_
 rintro _ w3 ⟨hx3,rfl⟩
 rw [hz2]
 refine zad u25 ty3 ho2.is (by rw [zae,zdu];exact hz3) fun b1 o1 hA1=>?_
 rw [zaK] at hA1
 refine zac ty3 hA1 hx3 fun _=>?_
 exact ⟨(hx0.trans hxd).trans (hx2.trans hx3),rfl⟩
noncomputable def zpI (c:DCode) (k:Nat):Tab:=(List.range k).map fun p=>(zeS c p,63)
theorem zmr (c:DCode) (k:Nat):zgb (zpI c (k+1))=zgb (zpI c k)++[zrK (zeS c k,63)]:=by simp [zpI,zgb,List.range_succ]
theorem zip (c:DCode) (k:Nat):(zgb (zpI c k)).length=k:=by simp [zpI,zgb]
theorem zoA {w:World} (lo hi:Nat) {x:Nat×Nat} (h1:x.1<64) (h2:x.2<64):OwnI lo hi w (.agg #[.int .i64 (x.1:Int),.int .i64 (x.2:Int)]) (zrK x):=
 ⟨[],zpm (x:=zrK x) (by unfold zrK I64;simp only;omega) (by unfold zrK I64;simp only;omega),by simp⟩
theorem zjp {w W0:World} {b:Nat} {c:DCode} (hW:WAt W0 b c) (e0:Ext W0 w) (hc:CodeR c) :
   CALL Tryz.prog 334 [.pointer (some ⟨b,0,none⟩)] w fun r w'=>Ext w w'∧Own w.heap.size w' r (zgb (zpI c c.procs.length)):=by
 refine F334_call ?_
 unfold F334
 have h8:=hc.1.procs8
 refine NIL.mk rfl ?_
 refine zaa za5 ?_
 refine zaa zbb ?_
 refine zab zcj (zat hW.wl.code) e0 fun v9 h9=>?_
 refine zag u24 h9 ?_
 refine zas c.procs.length (fun k us w'=>∃ v:Value,us=[v,.int .i64 (k:Int)]∧k≤c.procs.length∧Ext w w'∧RowI w.heap.size w'.heap.size 279 w' v (zgb (zpI c k))) 0 (Nat.zero_le _) ⟨_,rfl,Nat.zero_le _,Ext.refl _,zc0 _ _ _ _⟩ ?_
 rintro k mk u w2 hkm ⟨v,hu,hkl,hx2,hr2⟩
 obtain ⟨hu1,hu2⟩:=zcC hu
 rw [hu1,hu2]
 refine zah ?_
 refine br (fun hlt=>?_) (fun hge=>?_)
 case refine_2=>
   have:k=c.procs.length:=by omega
   rw [this] at hr2
   exact ⟨hx2,hr2.own.own⟩
 have hk:k<c.procs.length:=by omega
 have hs2:=hx2.size
 refine (zq1 hW (e0.trans hx2) hc hk).mono ?_
 rintro _ w3 ⟨hx3,rfl⟩
 have hs3:=hx3.size
 refine zaS (cells:=#[.int .i64 (zeS c k:Nat),.int .i64 63]) (by kernel_rfl) ?_
 refine zbV (lo2:=w3.heap.size) (hi2:=w3.heap.size) (x:=zrK (zeS c k,63)) zqf zjB zvq zux (by decide) (hr2.ext hx3) (by omega) (zoA _ _ (x:=(zeS c k,63)) zlc (by omega)) (by omega) (by omega) (by rw [zap,zip];omega) (by rw [zip];omega) fun v54 w9 hc9 hr9=>?_
 refine zaf (by omega) ?_
 refine ⟨mk-1,by omega,k+1,by omega,v54,rfl,by omega,(hx2.trans hx3).chgI hc9 (Nat.le_refl _),?_⟩
 rw [zmr]
 exact hr9
theorem zq3 {w W0:World} {v0:Value} {c:DCode} (h0:Is W0 v0 c) (e0:Ext W0 w) (hc:CodeR c) :
   CALL Tryz.prog 304 [v0] w fun r w'=>Ext w w'∧Own w.heap.size w' r (zgb (zpI c c.procs.length)):=by
 refine F304_call ?_
 unfold F304
 have h8:=hc.1.procs8
 refine zaV h0 e0 fun w0 hx0 hA=>?_
 have hs0:=hx0.size
 refine zaP (α:=DEffect) zqf zjB fun a w1 hx1 hr1=>?_
 have hs1:=hx1.size
 refine zas c.procs.length (fun k us w'=>∃ v:Value,us=[v,.int .i64 (k:Int)]∧k≤c.procs.length∧Ext w0 w'∧RowI w0.heap.size w'.heap.size 279 w' v (zgb (zpI c k))) 0 (Nat.zero_le _) ⟨_,rfl,Nat.zero_le _,hx1,hr1.mono hs1 (Nat.le_refl _)⟩ ?_
 rintro k mk u w2 hkm ⟨v,hu,hkl,hx2,hr2⟩
 obtain ⟨hu1,hu2⟩:=zcC hu
 rw [hu1,hu2]
 refine zaa zbb ?_
 refine zab zcj (zat hA) hx2 fun v9 h9=>?_
 refine zag u24 h9 ?_
 refine zah ?_
 refine br (fun hlt=>?_) (fun hge=>?_)
 case refine_2=>
   have:k=c.procs.length:=by omega
   rw [this] at hr2
   exact ⟨hx0.trans hx2,hr2.own.own.mono (by omega)⟩
 have hk:k<c.procs.length:=by omega
 have hs2:=hx2.size
 refine zab zbm hA hx2 fun v14 h14=>?_
 refine (zpn h14 hx2 hc hk).mono ?_
 rintro _ w3 ⟨hx3,rfl⟩
 have hs3:=hx3.size
 refine zaS (cells:=#[.int .i64 (zeS c k:Nat),.int .i64 63]) (by kernel_rfl) ?_
 refine zbV (lo2:=w3.heap.size) (hi2:=w3.heap.size) (x:=zrK (zeS c k,63)) zqf zjB zvq zux (by decide) (hr2.ext hx3) (by omega) (zoA _ _ (x:=(zeS c k,63)) zlc (by omega)) (by omega) (by omega) (by rw [zap,zip];omega) (by rw [zip];omega) fun v54 w9 hc9 hr9=>?_
 refine zaf (by omega) ?_
 refine ⟨mk-1,by omega,k+1,by omega,v54,rfl,by omega,(hx2.trans hx3).chgI hc9 (by omega),?_⟩
 rw [zmr]
 exact hr9
structure FE (w1 w:World) (g:Nat) (v:Value) (T:Tab):Prop where
 ext:Ext w1 w
 mine:Mine [g] w v (zgb T)
 g0:w1.heap.size≤g
section
variable {w1 w w':World} {g:Nat} {v:Value} {T:Tab}
theorem FE.step (h:FE w1 w g v T) (hx:Ext w w'):FE w1 w' g v T:=⟨h.ext.trans hx,h.mine.ext hx,h.g0⟩
theorem FE.own (h:FE w1 w g v T):Own w1.heap.size w v (zgb T):=⟨[g],h.mine,fun b hb=>by simp only [List.mem_cons,List.not_mem_nil,or_false] at hb;have:=h.g0;omega⟩
theorem FE.make (ho:Own w1.heap.size w v (zgb T)) (hx:Ext w1 w) (hT:T≠[]):∃ g,FE w1 w g v T:=by
 obtain ⟨F,hm,hF⟩:=ho
 obtain ⟨b,o,cap,hv,rfl⟩:=zej hm (by intro e;exact hT (List.map_eq_nil_iff.1 e))
 exact ⟨b,hx,hm,hF b (by simp)⟩
theorem zq4 {q m:Nat} {K:World→Prop} (h:FE w1 w g v T) (hT:T≠[]) (hq:q<T.length) (hm:m<64) (k:∀ w',FE w1 w' g v (T.set q ((tbl T q).1,m))→ChgI g (g+1) w w'→K w') :
   RD Tryz.prog (Instr.indexAt 240 v (.int .i64 (q:Int))) w fun a=>RD Tryz.prog (Instr.fieldAt 279 a 1) w fun f=>OPU Tryz.prog (Instr.storeAt 3 f (.int .i64 (m:Int))) w K:=by
 refine zuE (α:=DEffect) (β:=Int) (sel:=DEffect.gen) (g:=fun a y=>⟨a.keep,y⟩) zqf zjB ziK ty3 (fun h=>zjF h) h.mine (by rw [zem];exact hq) (zbt (v:=m) (by omega)) fun w2 F2 hc2 hm2 hF2=>?_
 have hF:F2=[g]:=by
   obtain ⟨b,o,cap,hv,rfl⟩:=zej hm2 (by intro e;have:=congrArg List.length e;rw [List.length_set,zem] at this;simp only [List.length_nil] at this;omega)
   have:=hF2 b (by simp)
   simpa using this
 subst hF
 have hcc:=zd8 hc2
 refine k w2 ⟨h.ext.chgI hcc h.g0,?_,h.g0⟩ hcc
 rw [zsn]
 rw [zfj] at hm2
 exact hm2
end
theorem zq5 {c:DCode} (hc:CodeR c):EI c (zpI c c.procs.length):=EI.start c hc
theorem EI.len {c:DCode} {T:Tab} (h:EI c T):T.length=c.procs.length:=h.tab.1
theorem EI.ne {c:DCode} (hc:CodeR c) {T:Tab} (h:EI c T):T≠[]:=fun e=>by
 have h1:=h.len
 have h2:=hc.1.procs8
 rw [e] at h1;simp at h1;omega
structure EP (c:DCode) (T0:Tab) (k:Nat) (ag:Bool) (T:Tab):Prop where
 ei:EI c T
 yes:ag=true→zqY T<zqY T0
 no:ag=false→T=T0∧∀ p,p<k→zdv c T0 p=(tbl T0 p).2
theorem EP.set {c:DCode} (hc:CodeR c) {T0 T:Tab} {k:Nat} {ag:Bool} (H:EP c T0 k ag T) (hk:k<c.procs.length) (hne:zdv c T k≠(tbl T k).2):EP c T0 (k+1) true (T.set k ((tbl T k).1,zdv c T k)):=by
 refine ⟨H.ei.upd hc hk,fun _=>?_,fun e=>by cases e⟩
 have h1:=zsl (T:=T) (p:=k) (v:=((tbl T k).1,zdv c T k)) (by rw [H.ei.len];exact hk)
 have h2:=H.ei.le hc hk
 simp only at h1
 cases ag with
 | true=>have:=H.yes rfl;omega
 | false=>rw [(H.no rfl).1] at h1 h2 hne ⊢;omega
theorem EP.skip {c:DCode} {T0 T:Tab} {k:Nat} {ag:Bool} (H:EP c T0 k ag T) (he:zdv c T k=(tbl T k).2):EP c T0 (k+1) ag T:=
 ⟨H.ei,H.yes,fun e=>⟨(H.no e).1,fun p hp=>by
   by_cases h:p=k
   · subst h;rw [(H.no e).1] at he;exact he
   exact (H.no e).2 p (by omega)⟩⟩
theorem zpo {w W0:World} {b:Nat} {c:DCode} (hW:WAt W0 b c) (e0:Ext W0 w) (hc:CodeR c) :
   CALL Tryz.prog 298 [.pointer (some ⟨b,0,none⟩)] w fun r w'=>Ext w w'∧Own w.heap.size w' r (zgb (zcB c)):=by
 refine F298_call ?_
 unfold F298
 have h8:=hc.1.procs8
 refine (zjp hW e0 hc).mono ?_
 rintro v8 w1 ⟨hx1,ho1⟩
 have hE1:=zq5 hc
 obtain ⟨g,hF1⟩:=FE.make ho1 hx1 (hE1.ne hc)
 generalize zpI c c.procs.length=T at *
 refine LOOPI.mk (fun m us w'=>∃ (ag:Bool) (T:Tab),us=[.bool ag]∧m=zqY T+(if ag then 1 else 0)∧FE w w' g v8 T∧EI c T∧(ag=false→∀ p,p<c.procs.length→zdv c T p=(tbl T p).2)) (zqY T+1) ⟨true,T,rfl,rfl,hF1,hE1,fun e=>by cases e⟩ ?_
 rintro m u w2 ⟨ag,T,hu,hm,hF2,hE2,hsh⟩
 simp only [List.map_cons,List.map_nil,List.cons.injEq,and_true] at hu
 rw [hu]
 refine zbw (fun hag=>?_) (fun hag=>?_)
 case refine_2=>
   rw [hE2.fin hc (hsh hag)] at hF2
   exact ⟨hF2.ext,hF2.own⟩
 rw [hag,if_pos rfl] at hm
 refine zag zqf hF2.mine.is ?_
 rw [zem,hE2.len]
 refine zas c.procs.length (fun k us w'=>∃ (ag:Bool) (T':Tab),us=[.bool ag,.int .i64 (k:Int)]∧k≤c.procs.length∧FE w w' g v8 T'∧EP c T k ag T') 0 (Nat.zero_le _) ⟨false,T,rfl,Nat.zero_le _,hF2,hE2,fun e=>(by cases e),fun _=>⟨rfl,fun p hp=>by omega⟩⟩ ?_
 rintro k mk u w3 hkm ⟨ag3,T3,hu,hkl,hF3,hP3⟩
 obtain ⟨hu1,hu2⟩:=zcC hu
 rw [hu1,hu2]
 refine zah ?_
 refine br (fun hlt=>?_) (fun hge=>?_)
 case refine_2=>
   refine ⟨zqY T3+(if ag3 then 1 else 0),?_,ag3,T3,rfl,rfl,hF3,hP3.ei,fun e p hp=>?_⟩
   · cases ag3 with
     | true=>have:=hP3.yes rfl;simp;omega
     | false=>rw [(hP3.no rfl).1];simp;omega
   have:=hP3.no e
   rw [this.1]
   exact this.2 p (by omega)
 have hk:k<c.procs.length:=by omega
 refine (zso hW.wl (e0.trans hF3.ext) hF3.mine.is (Ext.refl _) hc hP3.ei.tab hk).mono ?_
 rintro _ w4 ⟨hx4,rfl⟩
 have hF4:=hF3.step hx4
 have hal:=zin (T:=T3) hc hk
 have hgl:=hP3.ei.tab.2 k
 have hkT:k<T3.length:=by rw [hP3.ei.len];exact hk
 refine zad zqf zjB hF4.mine.is (by rw [zem];exact hkT) fun b1 o1 hA1=>?_
 rw [zfj] at hA1
 refine zaa ziK ?_
 refine zac ty3 (zel hA1) (Ext.refl _) fun _=>?_
 refine zaN ?_
 refine br (fun hne=>?_) (fun heq=>?_)
 · refine zq4 hF4 (hP3.ei.ne hc) hkT hal fun w5 hF5 hc5=>?_
   refine zaf (by omega) ?_
   exact ⟨mk-1,by omega,k+1,by omega,true,_,rfl,by omega,hF5,hP3.set hc hk fun e=>hne (by rw [e];rfl)⟩
 refine zaf (by omega) ?_
 exact ⟨mk-1,by omega,k+1,by omega,ag3,T3,rfl,by omega,hF4,hP3.skip (Int.ofNat_inj.1 (Decidable.not_not.1 heq))⟩
theorem zlj {w W0:World} {v0:Value} {c:DCode} (h0:Is W0 v0 c) (e0:Ext W0 w) (hc:CodeR c) :
   CALL Tryz.prog 253 [v0] w fun r w'=>Ext w w'∧Own w.heap.size w' r (zgb (zcB c)):=by
 refine F253_call ?_
 unfold F253
 have h8:=hc.1.procs8
 refine zaV h0 e0 fun w0 hx0 hA=>?_
 have hs0:=hx0.size
 refine zab zbm hA (Ext.refl _) fun v7 h7=>?_
 refine (zq3 h7 (Ext.refl _) hc).mono ?_
 rintro v8 w1 ⟨hx1,ho1⟩
 have hE1:=zq5 hc
 obtain ⟨g,hF1⟩:=FE.make ho1 hx1 (hE1.ne hc)
 generalize zpI c c.procs.length=T at *
 refine LOOPI.mk (fun m us w'=>∃ (ag:Bool) (T:Tab),us=[.bool ag]∧m=zqY T+(if ag then 1 else 0)∧FE w0 w' g v8 T∧EI c T∧(ag=false→∀ p,p<c.procs.length→zdv c T p=(tbl T p).2)) (zqY T+1) ⟨true,T,rfl,rfl,hF1,hE1,fun e=>by cases e⟩ ?_
 rintro m u w2 ⟨ag,T,hu,hm,hF2,hE2,hsh⟩
 simp only [List.map_cons,List.map_nil,List.cons.injEq,and_true] at hu
 rw [hu]
 refine zbw (fun hag=>?_) (fun hag=>?_)
 case refine_2=>
   rw [hE2.fin hc (hsh hag)] at hF2
   exact ⟨hx0.trans hF2.ext,hF2.own.mono (by omega)⟩
 rw [hag,if_pos rfl] at hm
 refine zas c.procs.length (fun k us w'=>∃ (ag:Bool) (T':Tab),us=[.bool ag,.int .i64 (k:Int)]∧k≤c.procs.length∧FE w0 w' g v8 T'∧EP c T k ag T') 0 (Nat.zero_le _) ⟨false,T,rfl,Nat.zero_le _,hF2,hE2,fun e=>(by cases e),fun _=>⟨rfl,fun p hp=>by omega⟩⟩ ?_
 rintro k mk u w3 hkm ⟨ag3,T3,hu,hkl,hF3,hP3⟩
 obtain ⟨hu1,hu2⟩:=zcC hu
 rw [hu1,hu2]
 refine zaa zbb ?_
 refine zab zcj (zat hA) hF3.ext fun v12 h12=>?_
 refine zag u24 h12 ?_
 refine zah ?_
 refine br (fun hlt=>?_) (fun hge=>?_)
 case refine_2=>
   refine ⟨zqY T3+(if ag3 then 1 else 0),?_,ag3,T3,rfl,rfl,hF3,hP3.ei,fun e p hp=>?_⟩
   · cases ag3 with
     | true=>have:=hP3.yes rfl;simp;omega
     | false=>rw [(hP3.no rfl).1];simp;omega
   have:=hP3.no e
   rw [this.1]
   exact this.2 p (by omega)
 have hk:k<c.procs.length:=by omega
 refine zab zbm hA hF3.ext fun v17 h17=>?_
 refine (zq2 h17 hF3.ext hF3.mine.is (Ext.refl _) hc hP3.ei.tab hk).mono ?_
 rintro _ w4 ⟨hx4,rfl⟩
 have hF4:=hF3.step hx4
 have hal:=zin (T:=T3) hc hk
 have hgl:=hP3.ei.tab.2 k
 have hkT:k<T3.length:=by rw [hP3.ei.len];exact hk
 refine zad zqf zjB hF4.mine.is (by rw [zem];exact hkT) fun b1 o1 hA1=>?_
 rw [zfj] at hA1
 refine zaa ziK ?_
 refine zac ty3 (zel hA1) (Ext.refl _) fun _=>?_
 refine zaN ?_
 refine br (fun hne=>?_) (fun heq=>?_)
 · refine zq4 hF4 (hP3.ei.ne hc) hkT hal fun w5 hF5 hc5=>?_
   refine zaf (by omega) ?_
   exact ⟨mk-1,by omega,k+1,by omega,true,_,rfl,by omega,hF5,hP3.set hc hk fun e=>hne (by rw [e];rfl)⟩
 refine zaf (by omega) ?_
 exact ⟨mk-1,by omega,k+1,by omega,ag3,T3,rfl,by omega,hF4,hP3.skip (Int.ofNat_inj.1 (Decidable.not_not.1 heq))⟩
def F241 (a0:Value) (w:World) (R:VW):Prop:=
 oP (Instr.box 28 a0) w fun x1 w=>
 rF 28 x1 2 w fun x10=>
 rL 24 x10 w fun x11=>
 rN 24 3 x11 w fun x12=>
 oP (Instr.makeSlice 135 x12 x12) w fun x13 w=>
 rL 28 x1 w fun x15=>
 cL 90 [x15] w fun x16 w=>
 rX 135 x13 x16 w fun x17=>
 oS 4 x17 (Value.bool true) w fun w=>
 rL 28 x1 w fun x18=>
 cL 90 [x18] w fun x19 w=>
 oP (Instr.buildSlice 25 1 #[(0,x19)]) w fun x20 w=>
 LOOPI [4,5] [x20,(iV 0)] w fun u5 w next5=>
 rN 25 3 (u5 4) w fun x23=>
 rC (u5 5) x23 w fun x24=>
 BR x24
 ((fun w=>rL 28 x1 w fun x27=>
 rX 25 (u5 4) (u5 5) w fun x30=>
 rL 3 x30 w fun x31=>
 cL 251 [x27,x31] w fun x32 w=>
 cL 240 [x32] w fun x33 w=>
 LOOPI [4,7] [(u5 4),(iV 0)] w fun u9 w next9=>
 rN 25 3 x33 w fun x36=>
 rC (u9 7) x36 w fun x37=>
 BR x37
 ((fun w=>rL 28 x1 w fun x40=>
 rX 25 x33 (u9 7) w fun x43=>
 rL 3 x43 w fun x44=>
 cL 289 [x40,x44,(iV 5)] w fun x45 w=>
 LOOPI [4,9] [(u9 4),(iV 0)] w fun u13 w next13=>
 rN 25 3 x45 w fun x48=>
 rC (u13 9) x48 w fun x49=>
 BR x49
 (rX 25 x45 (u13 9) w fun x55=>
 rL 3 x55 w fun x56=>
 rX 135 x13 x56 w fun x57=>
 rL 4 x57 w fun x58=>
 rD (Op.unary .not x58) w fun x59=>
 BR x59
 (rX 25 x45 (u13 9) w fun x63=>
 rL 3 x63 w fun x64=>
 rX 135 x13 x64 w fun x65=>
 oS 4 x65 (Value.bool true) w fun w=>
 rX 25 x45 (u13 9) w fun x69=>
 rL 3 x69 w fun x70=>
 oP (Instr.buildSlice 25 1 #[(0,x70)]) w fun x71 w=>
 oP (Builtin.append_ #[25,25] 25 [(u13 4),x71].toArray) w fun x72 w=>
 rA (u13 9) (iV 1) w fun x51=>
 next13 [x72,x51] w)
 (rA (u13 9) (iV 1) w fun x51=>
 next13 [(u13 4),x51] w))
 (rA (u9 7) (iV 1) w fun x39=>
 next9 [(u13 4),x39] w)) (World.drew1 w))
 (rA (u5 5) (iV 1) w fun x26=>
 next5 [(u9 4),x26] w)) (World.drew1 w))
 (R x13 w)
def cfg241:Cfg:=⟨extL,[],[(5,9444732965739288331248,[4,5]),(9,9444732965722110559120,[4,7]),(13,9444732895370546250256,[4,9])],[(7,[0,1,2,3,4,5,6,7],0),(11,[0,1,2,3,4,5,6],0)],[],[],[]⟩
theorem F241_call {a0:Value} {w:World} {R:VW} (h:F241 a0 w R):cL 241 [a0] w R:=co (g:=cfg241) Tryz.func241 (by kernel_rfl) (by kernel_rfl) (by kernel_rfl) h
def F255 (a0:Value) (w:World) (R:VW):Prop:=
 oP (Instr.box 28 a0) w fun x1 w=>
 rL 28 x1 w fun x8=>
 cL 241 [x8] w fun x9 w=>
 rF 28 x1 2 w fun x10=>
 rL 24 x10 w fun x11=>
 rN 24 3 x11 w fun x12=>
 oP (Instr.makeSlice 135 x12 x12) w fun x13 w=>
 LOOPI [5] [(iV 0)] w fun u4 w next4=>
 rF 28 x1 2 w fun x15=>
 rL 24 x15 w fun x16=>
 rN 24 3 x16 w fun x17=>
 rC (u4 5) x17 w fun x18=>
 BR x18
 (rX 135 x9 (u4 5) w fun x23=>
 rL 4 x23 w fun x24=>
 rD (Op.unary .not x24) w fun x25=>
 BR x25
 (rA (u4 5) (iV 1) w fun x20=>
 next4 [x20] w)
 (rL 28 x1 w fun x26=>
 cL 251 [x26,(u4 5)] w fun x28 w=>
 LOOPI [7] [(iV 0)] w fun u9 w next9=>
 rN 135 3 x28 w fun x31=>
 rC (u9 7) x31 w fun x32=>
 BR x32
 (rX 135 x13 (u9 7) w fun x39=>
 rL 4 x39 w fun x40=>
 BR x40
 (rX 135 x13 (u9 7) w fun x47=>
 oS 4 x47 (Value.bool true) w fun w=>
 rA (u9 7) (iV 1) w fun x34=>
 next9 [x34] w)
 (rX 135 x28 (u9 7) w fun x44=>
 rL 4 x44 w fun x45=>
 rX 135 x13 (u9 7) w fun x47=>
 oS 4 x47 x45 w fun w=>
 rA (u9 7) (iV 1) w fun x34=>
 next9 [x34] w))
 (rA (u4 5) (iV 1) w fun x20=>
 next4 [x20] w)))
 (R x13 w)
def cfg255:Cfg:=⟨extL,[],[(4,281474976694496,[5]),(9,281474439839872,[7])],[],[],[],[]⟩
theorem F255_call {a0:Value} {w:World} {R:VW} (h:F255 a0 w R):cL 255 [a0] w R:=co (g:=cfg255) Tryz.func255 (by kernel_rfl) (by kernel_rfl) (by kernel_rfl) h
open Rep (rep)
noncomputable def zpJ (c:DCode) (p:Nat):List Nat:=zbn c.procs.length (zil c p 5)
noncomputable def zsp (c:DCode) (r:Nat):List Nat:=zbn c.procs.length (FromP c r)
noncomputable def zj6 (c:DCode) (r:Nat):List Nat:=(zsp c r).flatMap (zpJ c)
theorem zq6 {c:DCode} (hc:CodeR c) (q:Nat):RootP c q↔q=zb4 c∨RP (zj6 c) (zb4 c) q:=by
 have hmem:∀ r q,q∈zj6 c r↔∃ p,p<c.procs.length∧FromP c r p∧q<c.procs.length∧zil c p 5 q:=fun r q=>by
   unfold zj6 zsp zpJ
   simp only [List.mem_flatMap,zaT]
   exact ⟨fun ⟨p,⟨h1,h2⟩,h3,h4⟩=>⟨p,h1,h2,h3,h4⟩,fun ⟨p,h1,h2,h3,h4⟩=>⟨p,⟨h1,h2⟩,h3,h4⟩⟩
 constructor
 · intro h
   induction h with
   | main=>exact .inl rfl
   | @spawn r p q h0 h1 h2 hq ih=>
     have hm:=(hmem r q).2 ⟨p,h1.lt (h0.lt hc),h1,hq,h2⟩
     rcases ih with rfl | ih
     · exact .inr (.one hm)
     exact .inr (.more ih hm)
 rintro (rfl | h)
 · exact .main
 refine h.keeps (p:=RootP c) .main fun i j hi hj=>?_
 obtain ⟨p,_,h1,h2,h3⟩:=(hmem i j).1 hj
 exact .spawn hi h1 h3 h2
theorem zsq {α β:Type} {f:α→List β} {L:List α} {i j:Nat} (hi:i<L.length) (hj:j<(f L[i]).length):∃ h:((L.take i).flatMap f).length+j<(L.flatMap f).length,(L.flatMap f)[((L.take i).flatMap f).length+j]=(f L[i])[j]:=by
 have e:L.flatMap f=(L.take i).flatMap f++(f L[i]++(L.drop (i+1)).flatMap f):=by
   rw [←List.flatMap_cons,←List.flatMap_append]
   congr 1
   rw [←List.drop_eq_getElem_cons hi,List.take_append_drop]
 have hlt:((L.take i).flatMap f).length+j<(L.flatMap f).length:=by rw [e];simp only [List.length_append];omega
 refine ⟨hlt,?_⟩
 have:(L.flatMap f)[((L.take i).flatMap f).length+j]?=some (f L[i])[j]:=by
   rw [e,List.getElem?_append_right (by omega),Nat.add_sub_cancel_left,List.getElem?_append_left hj,List.getElem?_eq_getElem hj]
 rw [List.getElem?_eq_getElem hlt] at this
 exact Option.some.inj this
theorem zq7 {α β:Type} {f:α→List β} {L:List α} {i:Nat} (hi:i<L.length):((L.take (i+1)).flatMap f).length=((L.take i).flatMap f).length+(f L[i]).length:=by
 rw [List.take_succ_eq_append_getElem hi,List.flatMap_append,List.length_append];simp
theorem zfk {w W0:World} {v0:Value} {c:DCode} (h0:Is W0 v0 c) (e0:Ext W0 w) (hc:CodeR c) :
   CALL Tryz.prog 241 [v0] w fun r w'=>Ext w w'∧Own w.heap.size w' r (zbP c.procs.length (RootP c)):=by
 refine F241_call ?_
 unfold F241
 have h8:=hc.1.procs8
 obtain ⟨hm1,hm2⟩:=zdM hc
 have hR:=zq6 hc
 have hcn:∀ x,zj6 c x=(zsp c x).flatMap (zpJ c):=fun _=>rfl
 have hnl:∀ {i j:Nat},i<c.procs.length→j∈zj6 c i→j<c.procs.length∧True:=fun {i j} _ hj=>by
   rw [hcn] at hj
   obtain ⟨p,_,h⟩:=List.mem_flatMap.1 hj
   exact ⟨(zaT.1 h).1,trivial⟩
 refine zaV h0 e0 fun w1 hx1 hA=>?_
 have hs1:=hx1.size
 refine zaa zbb ?_
 refine zab zcj (zat hA) (Ext.refl _) fun v11 h11=>?_
 refine zag u24 h11 ?_
 refine zdL h8.2 (by omega) fun w2 hx2 hM2=>?_
 have hs2:=hx2.size
 refine zab zbm hA hx2 fun v15 h15=>?_
 refine (zfZ h15 hx2).mono ?_
 rintro _ w2a ⟨hx2a,rfl⟩
 rw [hm1]
 have hs2a:=hx2a.size
 have hM2a:=hM2.ext hx2a
 generalize hn:c.procs.length=n at *
 generalize zb4 c=a at *
 refine zbv (α:=Bool) rfl zcX ty4 hm2 ?_
 refine za0 (α:=Bool) rfl ty4 hM2a (by simp) hm2 zbl fun w2b hc2 hM2b=>?_
 have hc2':ChgI w1.heap.size (w1.heap.size+1) w2a w2b:=hc2.toI fun b hb=>by simp only [List.mem_cons,List.not_mem_nil,or_false] at hb;omega
 have hs2b:=hc2'.size
 have hM0l:((List.replicate n false).set a true).length=n:=by simp
 have hM0:∀ i,mkd ((List.replicate n false).set a true) i↔i=a:=fun i=>by
   rw [zcw (by simp;exact hm2)]
   exact ⟨fun h=>h.resolve_left zbz,.inr⟩
 generalize (List.replicate n false).set a true=M0 at *
 have hx12b:Ext w1 w2b:=(hx2.trans hx2a).chgI hc2' (by omega)
 refine zab zbm hA hx12b fun v18 h18=>?_
 refine (zfZ h18 hx12b).mono ?_
 rintro _ w2c ⟨hx2c,rfl⟩
 rw [hm1]
 have hs2c:=hx2c.size
 refine zbH (x:=(a:Int)) u25 ty3 z3 (by decide) (zcg (by unfold I64;omega)) fun v20 w3 hx3 hr3=>?_
 have hs3:=hx3.size
 generalize hm:w1.heap.size=m at *
 have hW3:WI w1 w3 m n w2c.heap.size w3.heap.size v20 [a] M0:=⟨(((hx2.trans hx2a).toI.trans hc2').trans hx2c.toI).trans hx3.toI,hr3,(hM2b.ext hx2c).ext hx3,by omega,by have:=hM2b.lt m (by simp);omega,hs3,Nat.le_refl _⟩
 have hfl:∀ x p,p∈zsp c x→p<n:=fun x p hp=>by have:=(zaT.1 hp).1;omega
 have hfll:∀ x,(zsp c x).length≤n:=fun x=>by have:=za6 (n:=c.procs.length) (p:=FromP c x);rw [hn] at this;unfold zsp;rw [hn];exact this
 have holl:∀ x,(zpJ c x).length≤n:=fun x=>by have:=za6 (n:=c.procs.length) (p:=zil c x 5);rw [hn] at this;unfold zpJ;rw [hn];exact this
 generalize hnx:zj6 c=nx at *
 refine zas (1+n) (fun h us w'=>∃ (tv:Value) (lo hi:Nat) (L:List Nat) (ms:List Bool),us=[tv,.int .i64 (h:Int)]∧h≤L.length∧WI w1 w' m n lo hi tv L ms∧SInv nx n a M0 ms (L.drop h) h) 0 (Nat.zero_le _) ⟨v20,_,_,[a],_,rfl,by simp,hW3,SInv.start hM0l hm2⟩ ?_
 rintro h mk u w4 hkm ⟨tv,lo,hi,L,ms,hu,hhL,hW4,hS4⟩
 obtain ⟨hu1,hu2⟩:=zcC hu;clear hu
 rw [hu1,hu2]
 have hb4:=hS4.bound
 rw [List.length_drop] at hb4
 refine zag u25 hW4.row.is ?_
 rw [zae]
 refine zah ?_
 refine br (fun hlt=>?_) (fun hge=>?_)
 case refine_2=>
   have hhe:h=L.length:=by omega
   rw [hhe,List.drop_length] at hS4
   have hfin:=hS4.fin fun i hi hne=>absurd ((hM0 i).1 hi) hne
   have hms:ms=zbP n (RootP c):=zcc hS4.len fun i hi=>by rw [hfin i,hM0,hR]
   rw [←hms]
   have hx4:Ext w1 w4:=(Ext.refl w1).chgI hW4.chg (by omega)
   exact ⟨hx1.trans hx4,[m],hW4.mks,fun b hb=>by simp only [List.mem_cons,List.not_mem_nil,or_false] at hb;omega⟩
 have hh:h<L.length:=by omega
 have hx5:=zaj w4
 have hW5:=hW4.step hx5
 generalize World.drew1 w4=w5 at *
 have hxa:∀ {w:World} {lo hi tv L ms},WI w1 w m n lo hi tv L ms→Ext w1 w:=fun h=>(Ext.refl w1).chgI h.chg (by omega)
 refine zab zbm hA (hxa hW5) fun v27 h27=>?_
 refine zad u25 ty3 (i:=h) hW5.row.is (by rw [zae];exact hh) fun b1 o1 hA1=>?_
 rw [zaM] at hA1
 refine zac ty3 hA1 (Ext.refl _) fun _=>?_
 generalize hx:L[h]=x at *
 have hdr:L.drop h=x :: L.drop (h+1):=by rw [List.drop_eq_getElem_cons hh,hx]
 have hxn:x<n:=(hS4.tdo x (by rw [hdr];simp)).2
 refine (zfg h27 (hxa hW5) hc (by rw [hn];exact hxn)).mono ?_
 rintro _ w6a ⟨hx6a,gf,rfl,hgf,hMf⟩
 refine (zek hMf.is (Ext.refl _) (by rw [zam];omega)).mono ?_
 rintro v33 w6 ⟨hx6,ho6⟩
 have hFr:(fun i=>i=x∨RP (zjl c) x i)=FromP c x:=rfl
 rw [zam,zfG,hFr] at ho6
 have ho6':Own w6a.heap.size w6 v33 (zaI (zsp c x)):=ho6
 have hW6:=(hW5.step hx6a).step hx6
 have hI6:=hW5.h3
 have hs6a:=hx6a.size
 have hs6:=hx6.size
 have hS6:SIn2 nx n a M0 ms (L.drop (h+1)) h x 0:=hS4.pop (fun i=>by rw [hdr];simp [or_comm]) (by rw [hdr];simp)
 have hfx:=hfll x
 have hflx:=hfl x
 have hnxx:nx x=(zsp c x).flatMap (zpJ c):=hcn x
 generalize zsp c x=Fl at *
 refine zas Fl.length (fun k us w'=>∃ (tv:Value) (lo hi:Nat) (L:List Nat) (ms:List Bool),us=[tv,.int .i64 (k:Int)]∧k≤Fl.length∧h<L.length∧WI w1 w' m n lo hi tv L ms∧SIn2 nx n a M0 ms (L.drop (h+1)) h x ((Fl.take k).flatMap (zpJ c)).length∧OwnI w6a.heap.size w6.heap.size w' v33 (zaI Fl)∧(hi≤w6a.heap.size∨w6.heap.size≤lo)∧w6.heap.size≤w'.heap.size) 0 (Nat.zero_le _) ⟨tv,lo,hi,L,ms,rfl,Nat.zero_le _,hh,hW6,hS6,ho6'.toI,.inl (by omega),Nat.le_refl _⟩ ?_
 rintro k mk9 u w7 hkm9 ⟨tv7,lo7,hi7,L7,ms7,hu,hkl,hh7,hW7,hS7,ho7,hd7,hz7⟩
 obtain ⟨hu1,hu2⟩:=zcC hu;clear hu
 rw [hu1,hu2]
 refine zag u25 ho7.is ?_
 rw [zae]
 refine zah ?_
 refine br (fun hlt7=>?_) (fun hge7=>?_)
 case refine_2=>
   refine zaf (by omega) ?_
   refine ⟨mk-1,by omega,h+1,by omega,tv7,lo7,hi7,L7,ms7,rfl,by omega,hW7,hS7.done ?_⟩
   rw [hnxx,show Fl.take k=Fl from List.take_of_length_le (by omega)]
   exact Nat.le_refl _
 have hk:k<Fl.length:=by omega
 have hx8:=zaj w7
 have hW8:=hW7.step hx8
 have ho8:=ho7.ext hx8
 have hs8:=hx8.size
 generalize World.drew1 w7=w8 at *
 refine zab zbm hA (hxa hW8) fun v40 h40=>?_
 refine zad u25 ty3 (i:=k) ho8.is (by rw [zae];exact hk) fun b2 o2 hA2=>?_
 rw [zaM] at hA2
 refine zac ty3 hA2 (Ext.refl _) fun _=>?_
 have hfp:=fun j=>zsq (f:=zpJ c) (L:=Fl) (i:=k) (j:=j) hk
 have hfn:=zq7 (f:=zpJ c) (L:=Fl) (i:=k) hk
 have hpn:=hflx _ (List.getElem_mem hk)
 rw [←hnxx] at hfp
 generalize Fl[k]=p at *
 refine (zji h40 (hxa hW8) hc (p:=p) (op:=5) (by rw [hc.2.1.1,hn];exact hpn) (.inr rfl)).mono ?_
 rintro v45 w9 ⟨hx9,ho9⟩
 have ho9':Own w8.heap.size w9 v45 (zaI (zpJ c p)):=ho9
 have hW9:=hW8.step hx9
 have hs9:=hx9.size
 have hop:=holl p
 generalize zpJ c p=Ol at *
 generalize hq0:((Fl.take k).flatMap (zpJ c)).length=q0 at *
 have hI8:=hW8.h3
 refine zas Ol.length (fun j us w'=>∃ (tv:Value) (lo hi:Nat) (L:List Nat) (ms:List Bool),us=[tv,.int .i64 (j:Int)]∧j≤Ol.length∧h<L.length∧WI w1 w' m n lo hi tv L ms∧SIn2 nx n a M0 ms (L.drop (h+1)) h x (q0+j)∧OwnI w6a.heap.size w6.heap.size w' v33 (zaI Fl)∧(hi≤w6a.heap.size∨w6.heap.size≤lo)∧OwnI w8.heap.size w9.heap.size w' v45 (zaI Ol)∧(hi≤w8.heap.size∨w9.heap.size≤lo)∧w9.heap.size≤w'.heap.size) 0 (Nat.zero_le _) ⟨tv7,lo7,hi7,L7,ms7,rfl,Nat.zero_le _,hh7,hW9,hS7,ho8.ext hx9,hd7,ho9'.toI,.inl hI8,Nat.le_refl _⟩ ?_
 rintro j mk13 u w10 hkm13 ⟨tv10,lo10,hi10,L10,ms10,hu,hjl,hh10,hW10,hS10,ho10,hd10,hp10,hd10b,hz10⟩
 obtain ⟨hu1,hu2⟩:=zcC hu
 rw [hu1,hu2]
 refine zag u25 hp10.is ?_
 rw [zae]
 refine zah ?_
 refine br (fun hlt10=>?_) (fun hge10=>?_)
 case refine_2=>
   refine zaf (by omega) ?_
   refine ⟨mk9-1,by omega,k+1,by omega,tv10,lo10,hi10,L10,ms10,rfl,by omega,hh10,hW10,?_,ho10,hd10,by omega⟩
   rw [hfn,show Ol.length=j by omega]
   exact hS10
 have hj:j<Ol.length:=by omega
 obtain ⟨hq,hqe⟩:=hfp j hj
 have hrd:∀ {w:World} {K:Value→Prop} (ho:OwnI w8.heap.size w9.heap.size w v45 (zaI Ol)) (kk:K (.int .i64 (((nx x)[q0+j]:Nat):Int))),RD Tryz.prog (Instr.indexAt 25 v45 (.int .i64 (j:Int))) w fun x37=>RD Tryz.prog (Instr.loadAt 3 x37) w K:=fun ho kk=>by
   refine zad u25 ty3 (i:=j) ho.is (by rw [zae];exact hj) fun b1 o1 hA1=>?_
   rw [zaM,←hqe] at hA1
   exact zac ty3 hA1 (Ext.refl _) fun _=>kk
 have hy:=hnl hxn (List.getElem_mem hq)
 refine hrd hp10 ?_
 have hlen10:=hS10.len
 refine zad zcX ty4 hW10.mks.is (by rw [hlen10];exact hy.1) fun b3 o3 hA3=>?_
 refine zaz ty4 hA3 (Ext.refl _) ?_
 refine zaJ ?_
 have hmk10:=zaO (ms:=ms10) (i:=(nx x)[q0+j]) (by rw [hlen10];exact hy.1)
 refine zbw (fun hf=>?_) (fun hf=>?_)
 · have hnm:¬mkd ms10 (nx x)[q0+j]:=by rw [hmk10];simpa using hf
   refine hrd hp10 ?_
   refine zbv (α:=Bool) rfl zcX ty4 hy.1 ?_
   refine za0 (α:=Bool) rfl ty4 hW10.mks hlen10 hy.1 zbl fun w11 hc11 hm11=>?_
   have hW11:=hW10.mark hc11 hm11
   have hc11':ChgI m (m+1) w10 w11:=hc11.toI fun b hb=>by simp only [List.mem_cons,List.not_mem_nil,or_false] at hb;omega
   have hm4:=hW5.mks.lt m (by simp)
   have ho11:=ho10.chg hc11' (by omega)
   have hp11:=hp10.chg hc11' (by omega)
   refine hrd hp11 ?_
   have hS11:=hS10.push hq hy.1 hnm
   generalize (nx x)[q0+j]=y at *
   have hLb:L10.length≤2+n:=by
     have h1:=hS10.cnt
     have h2:=zfF ms10
     rw [List.length_drop] at h1
     omega
   refine zd6 (x:=(y:Int)) u25 ty3 z3 zc3 (by decide) hW11.row (zcx 0 0 (by unfold I64;omega)) (by rw [zap,zae];omega) (by rw [zae];omega) fun v54 w12 lo12 hi12 hc12 hr12 hd12=>?_
   have hW12:=hW11.push hc12 hr12 hd12
   have hsz11:=hc11'.size
   have hsz12:=hc12.size
   refine zaf (by omega) ?_
   refine ⟨mk13-1,by omega,j+1,by omega,v54,lo12,hi12,L10++[y],_,rfl,by omega,by simp;omega,hW12,?_,ho11.chg hc12 (by omega),by omega,hp11.chg hc12 (by omega),by omega,by omega⟩
   rw [List.drop_append_of_le_length (by omega)]
   exact hS11
 have hnm:mkd ms10 (nx x)[q0+j]:=by rw [hmk10];simpa using hf
 refine zaf (by omega) ?_
 exact ⟨mk13-1,by omega,j+1,by omega,tv10,lo10,hi10,L10,ms10,rfl,by omega,hh10,hW10,hS10.skip hq hnm,ho10,hd10,hp10,hd10b,hz10⟩
theorem zf2 {w W0:World} {v0:Value} {c:DCode} (h0:Is W0 v0 c) (e0:Ext W0 w) (hc:CodeR c) :
   CALL Tryz.prog 255 [v0] w fun r w'=>Ext w w'∧Own w.heap.size w' r (zbP c.procs.length (UsedP c)):=by
 refine F255_call ?_
 unfold F255
 have h8:=hc.1.procs8
 refine zaV h0 e0 fun w1 hx1 hA=>?_
 have hs1:=hx1.size
 refine zab zbm hA (Ext.refl _) fun v8 h8'=>?_
 refine (zfk h8' (Ext.refl _) hc).mono ?_
 rintro v9 w2 ⟨hx2,ho2⟩
 have hs2:=hx2.size
 refine zaa zbb ?_
 refine zab zcj (zat hA) hx2 fun v11 h11=>?_
 refine zag u24 h11 ?_
 refine zdL h8.2 (by omega) fun w3 hx3 hM3=>?_
 have hs3:=hx3.size
 have ho3:=ho2.toI.ext hx3
 have hm3:=hM3.lt _ (List.mem_singleton.2 rfl)
 have hx13:=hx2.trans hx3
 generalize hm:w2.heap.size=m at *
 rw [zdm c.procs.length (p:=fun q=>∃ r,r<0∧RootP c r∧FromP c r q) (fun i ⟨j,h,_⟩=>by omega)] at hM3
 refine zas c.procs.length (fun k us w'=>us=[.int .i64 (k:Int)]∧k≤c.procs.length∧ChgI m (m+1) w3 w'∧Mine [m] w' (.slice (some ⟨m,0,none⟩) c.procs.length c.procs.length) (zbP c.procs.length fun q=>∃ r,r<k∧RootP c r∧FromP c r q)) 0 (Nat.zero_le _) ⟨rfl,Nat.zero_le _,ChgI.refl _,hM3⟩ ?_
 rintro k mk u w4 hkm ⟨hu,hkl,hc4,hM4⟩
 simp only [List.map_cons,List.map_nil,List.cons.injEq,and_true] at hu
 rw [hu]
 have hx4:Ext w1 w4:=hx13.chgI hc4 (by omega)
 have ho4:=ho3.chg hc4 (by omega)
 have hm4:=hM4.lt _ (List.mem_singleton.2 rfl)
 refine zaa zbb ?_
 refine zab zcj (zat hA) hx4 fun v16 h16=>?_
 refine zag u24 h16 ?_
 refine zah ?_
 refine br (fun hlt=>?_) (fun hge=>?_)
 case refine_2=>
   have hke:k=c.procs.length:=by omega
   have hS:(zbP c.procs.length fun q=>∃ r,r<k∧RootP c r∧FromP c r q)=zbP c.procs.length (UsedP c):=zbD fun q _=>
     ⟨fun ⟨r,_,h1,h2⟩=>⟨r,h1,h2⟩,fun ⟨r,h1,h2⟩=>⟨r,by rw [hke];exact h1.lt hc,h1,h2⟩⟩
   rw [hS] at hM4
   exact ⟨hx1.trans hx4,[m],hM4,fun b hb=>by simp only [List.mem_cons,List.not_mem_nil,or_false] at hb;omega⟩
 have hk:k<c.procs.length:=by omega
 refine zad zcX ty4 (i:=k) ho4.is (by rw [zam];exact hk) fun b2 o2 hA2=>?_
 refine zaz ty4 hA2 (Ext.refl _) ?_
 have hmk:=zaH (n:=c.procs.length) (p:=RootP c) (i:=k)
 rw [zaO (by rw [zam];exact hk)] at hmk
 refine zaJ ?_
 refine zbw (fun hf=>?_) (fun hf=>?_)
 · have hnr:¬RootP c k:=fun h=>by rw [hmk.2 ⟨hk,h⟩] at hf;cases hf
   refine zaf (by omega) ?_
   refine ⟨mk-1,by omega,k+1,by omega,rfl,by omega,hc4,?_⟩
   rw [zbD (q:=fun q=>∃ r,r<k∧RootP c r∧FromP c r q) fun q _=>⟨fun ⟨r,h1,h2,h3⟩=>by
     by_cases e:r=k
     · subst e;exact absurd h2 hnr
     exact ⟨r,by omega,h2,h3⟩,fun ⟨r,h1,h2⟩=>⟨r,by omega,h2⟩⟩]
   exact hM4
 have hroot:RootP c k:=(hmk.1 (by simpa using hf)).2
 refine zab zbm hA hx4 fun v26 h26=>?_
 refine (zfg h26 hx4 hc hk).mono ?_
 rintro _ w5 ⟨hx5,gf,rfl,hgf,hMf⟩
 have hFr:(fun i=>i=k∨RP (zjl c) k i)=FromP c k:=rfl
 rw [hFr] at hMf
 have ho5:=ho4.ext hx5
 have hM5:=hM4.ext hx5
 have hc5:=hc4.trans hx5.toI
 refine zas c.procs.length (fun j us w'=>us=[.int .i64 (j:Int)]∧j≤c.procs.length∧ChgI m (m+1) w5 w'∧Mine [m] w' (.slice (some ⟨m,0,none⟩) c.procs.length c.procs.length) (zbP c.procs.length fun q=>(∃ r,r<k∧RootP c r∧FromP c r q)∨(q<j∧FromP c k q))) 0 (Nat.zero_le _) ⟨rfl,Nat.zero_le _,ChgI.refl _,by rw [zbD (q:=fun q=>∃ r,r<k∧RootP c r∧FromP c r q) fun q _=>⟨fun h=>h.resolve_right fun h=>by omega,.inl⟩];exact hM5⟩ ?_
 rintro j mj u w6 hjm ⟨hu,hjl,hc6,hM6⟩
 simp only [List.map_cons,List.map_nil,List.cons.injEq,and_true] at hu
 rw [hu]
 refine zhK zcX ?_
 refine zah ?_
 refine br (fun hlt6=>?_) (fun hge6=>?_)
 case refine_2=>
   refine zaf (by omega) ?_
   refine ⟨mk-1,by omega,k+1,by omega,rfl,by omega,hc5.trans hc6,?_⟩
   rw [zbD (q:=fun q=>(∃ r,r<k∧RootP c r∧FromP c r q)∨(q<j∧FromP c k q)) fun q hq=>⟨fun ⟨r,h1,h2,h3⟩=>by
     by_cases e:r=k
     · subst e;exact .inr ⟨by omega,h3⟩
     exact .inl ⟨r,by omega,h2,h3⟩,fun h=>h.elim (fun ⟨r,h1,h2⟩=>⟨r,by omega,h2⟩) fun ⟨_,h⟩=>⟨k,by omega,hroot,h⟩⟩]
   exact hM6
 have hj:j<c.procs.length:=by omega
 have hMf6:Is w6 (.slice (some ⟨gf,0,none⟩) c.procs.length c.procs.length) (zbP c.procs.length (FromP c k)):=(hMf.keep fun b hb=>by
   simp only [List.mem_cons,List.not_mem_nil,or_false] at hb
   subst hb
   exact hc6.block b (hMf.lt b (by simp)) (by omega)).is
 refine zad zcX ty4 (i:=j) hM6.is (by rw [zam];exact hj) fun b3 o3 hA3=>?_
 refine zaz ty4 hA3 (Ext.refl _) ?_
 have hm1:=zaH (n:=c.procs.length) (p:=fun q=>(∃ r,r<k∧RootP c r∧FromP c r q)∨(q<j∧FromP c k q)) (i:=j)
 have hm2:=zaH (n:=c.procs.length) (p:=FromP c k) (i:=j)
 rw [zaO (by rw [zam];exact hj)] at hm1 hm2
 have hst:∀ (bb:Bool),(bb=true↔((∃ r,r<k∧RootP c r∧FromP c r j)∨FromP c k j))→RD Tryz.prog (Instr.indexAt 135 (.slice (some ⟨m,0,none⟩) c.procs.length c.procs.length) (.int .i64 (j:Int))) w6 fun x47=>OPU Tryz.prog (Instr.storeAt 4 x47 (.bool bb)) w6 fun w=>RD Tryz.prog (bin .add 3 (.tmp 0) (.const undef) (.int .i64 (j:Int)) (.int .i64 1)) w fun x34=>∃ m',m'<mj∧∃ k',k'+m'=c.procs.length∧[x34]=[.int .i64 (k':Int)]∧k'≤c.procs.length∧ChgI m (m+1) w5 w∧Mine [m] w (.slice (some ⟨m,0,none⟩) c.procs.length c.procs.length) (zbP c.procs.length fun q=>(∃ r,r<k∧RootP c r∧FromP c r q)∨(q<k'∧FromP c k q)):=fun bb hbb=>by
   refine zbv (α:=Bool) rfl zcX ty4 hj ?_
   refine za0 (α:=Bool) rfl ty4 hM6 zam hj zbl fun w7 hc7 hm7=>?_
   have hc7':ChgI m (m+1) w6 w7:=hc7.toI fun b hb=>by simp only [List.mem_cons,List.not_mem_nil,or_false] at hb;omega
   refine zaf (by omega) ?_
   refine ⟨mj-1,by omega,j+1,by omega,rfl,by omega,hc6.trans hc7',?_⟩
   have hset:(zbP c.procs.length fun q=>(∃ r,r<k∧RootP c r∧FromP c r q)∨(q<j∧FromP c k q)).set j bb=zbP c.procs.length fun q=>(∃ r,r<k∧RootP c r∧FromP c r q)∨(q<j+1∧FromP c k q):=zcc (by rw [List.length_set,zam]) fun q hq=>by
     unfold mkd
     rw [List.getD_eq_getElem?_getD,List.getElem?_set]
     by_cases e:j=q
     · subst e
       simp only [zam,hj,if_true,Option.getD_some,hbb]
       exact ⟨fun h=>h.imp id fun h=>⟨by omega,h⟩,fun h=>h.imp id (·.2)⟩
     rw [if_neg e,←List.getD_eq_getElem?_getD]
     show mkd _ q↔_
     rw [zaH]
     exact ⟨fun ⟨_,h⟩=>h.imp id fun h=>⟨by omega,h.2⟩,fun h=>⟨hq,h.imp id fun h=>⟨by omega,h.2⟩⟩⟩
   rw [←hset];exact hm7
 refine zbw (fun hf6=>?_) (fun hf6=>?_)
 · refine hst true ⟨fun _=>((hm1.1 hf6).2).imp id (·.2),fun _=>rfl⟩
 refine zad zcX ty4 (i:=j) hMf6 (by rw [zam];exact hj) fun b4 o4 hA4=>?_
 refine zaz ty4 hA4 (Ext.refl _) ?_
 refine hst _ ⟨fun h=>.inr (hm2.1 h).2,fun h=>hm2.2 ⟨hj,h.resolve_left fun h=>?_⟩⟩
 rw [hm1.2 ⟨hj,.inl h⟩] at hf6;cases hf6
def F299 (a0 a1:Value) (w:World) (R:VW):Prop:=
 NIL a0 <|
 rF 180 a0 0 w fun x16=>
 rF 28 x16 2 w fun x17=>
 rL 24 x17 w fun x18=>
 rN 24 3 x18 w fun x19=>
 oP (Instr.makeSlice 25 x19 x19) w fun x20 w=>
 rN 25 3 x20 w fun x22=>
 LOOPI [23] [(iV 0)] w fun u3 w next3=>
 rC (u3 23) x22 w fun x24=>
 BR x24
 (NIL a0 <|
 rF 180 a0 5 w fun x28=>
 rL 3 x28 w fun x29=>
 cL 117 [x29,(u3 23)] w fun x31 w=>
 rD (Op.unary .not x31) w fun x32=>
 BR x32
 (rX 25 x20 (u3 23) w fun x35=>
 oS 3 x35 (iV 63) w fun w=>
 rA (u3 23) (iV 1) w fun x36=>
 next3 [x36] w)
 (rA (u3 23) (iV 1) w fun x36=>
 next3 [x36] w))
 (LOOPI [7] [(Value.bool true)] w fun u9 w next9=>
 BR (u9 7)
 (NIL a0 <|
 rF 180 a0 6 w fun x40=>
 rL 3 x40 w fun x41=>
 cL 97 [x41] w fun x42 w=>
 rN 25 3 x42 w fun x43=>
 LOOPI [7,44] [(Value.bool false),(iV 0)] w fun u12 w next12=>
 rC (u12 44) x43 w fun x45=>
 BR x45
 (rX 25 x42 (u12 44) w fun x46=>
 rL 3 x46 w fun x47=>
 rX 25 x20 x47 w fun x53=>
 rL 3 x53 w fun x54=>
 cL 300 [a0,a1,x47,x54] w fun x55 w=>
 cL 234 [a0,x47] w fun x58 w=>
 rN 25 3 x58 w fun x59=>
 LOOPI [7,60] [(u12 7),(iV 0)] w fun u16 w next16=>
 rC (u16 60) x59 w fun x61=>
 BR x61
 (rX 25 x58 (u16 60) w fun x62=>
 rL 3 x62 w fun x63=>
 NIL a0 <|
 rF 180 a0 0 w fun x66=>
 rF 28 x66 4 w fun x67=>
 rL 26 x67 w fun x68=>
 rX 26 x68 x63 w fun x70=>
 rL 77 x70 w fun x71=>
 oP (Instr.alloc 77 true (.tuple #[])) w fun x13 w=>
 oS 77 x13 x71 w fun w=>
 (fun w=>rF 77 x13 0 w fun x72=>
 rL 3 x72 w fun x73=>
 rB .eql 3 T0 U0 x73 (iV 4) w fun x74=>
 BR x74
 (rF 77 x13 1 w fun x77=>
 rL 3 x77 w fun x78=>
 rX 25 x20 x78 w fun x79=>
 rL 3 x79 w fun x80=>
 rX 25 x55 x63 w fun x83=>
 rL 3 x83 w fun x84=>
 rB .and 3 T0 T0 x80 x84 w fun x85=>
 rF 77 x13 1 w fun x87=>
 rL 3 x87 w fun x88=>
 rX 25 x20 x88 w fun x89=>
 rL 3 x89 w fun x90=>
 rB .neq 3 T0 T0 x85 x90 w fun x91=>
 BR x91
 ((fun w=>rF 77 x13 1 w fun x94=>
 rL 3 x94 w fun x95=>
 rX 25 x20 x95 w fun x96=>
 rL 3 x96 w fun x97=>
 rX 25 x55 x63 w fun x100=>
 rL 3 x100 w fun x101=>
 rB .and 3 T0 T0 x97 x101 w fun x102=>
 rX 25 x20 x95 w fun x103=>
 oS 3 x103 x102 w fun w=>
 rA (u16 60) (iV 1) w fun x104=>
 next16 [(Value.bool true),x104] w) (World.drew1 w))
 (rA (u16 60) (iV 1) w fun x104=>
 next16 [(u16 7),x104] w))
 (rA (u16 60) (iV 1) w fun x104=>
 next16 [(u16 7),x104] w)) (World.drew1 w))
 (rA (u12 44) (iV 1) w fun x105=>
 next12 [(u16 7),x105] w))
 (next9 [(u12 7)] w))
 (R x20 w))
def cfg299:Cfg:=⟨extL,[],[(3,137430564928,[23]),(9,81129638414606681695651566204544,[7]),(12,81129638414606681678196819113600,[7,44]),(16,40564819207302187926389895737472,[7,60])],[(19,[0,1,2,3,4,5,6,7,8,9,10,11,12,13,14,15,16,17,18,19,20],0),(20,[0,1,2,3,4,5,6,7,8,9,10,11],0)],[],[],[]⟩
theorem F299_call {a0 a1:Value} {w:World} {R:VW} (h:F299 a0 a1 w R):cL 299 [a0,a1] w R:=co (g:=cfg299) Tryz.func299 (by kernel_rfl) (by kernel_rfl) (by kernel_rfl) h
open Rep (rep)
theorem BI.updM {c:DCode} (hc:CodeR c) {out:List Nat} (h:BI c out) {p i hh:Nat} (hu:UsedP c p) (hi:zaB c p i) (ho:(zak c i).op=4) (hgz:∀ l,l<6→hh.testBit l=false→LostM c (tK (zcB c)) (tG (zcB c)) p none l) :
   BI c (out.set (agN c i) (zaw out (agN c i) &&& zaw (zbQ c (zcB c) p hh) i)):=by
 have hp:=hu.lt hc
 have hil:=(zbq hc (by rw [hc.2.1.1];exact hp) hi).1
 have hq:=(zbN hc hil (.inl ho)).2
 refine ⟨by simp [h.len],fun x hx=>?_,fun r l hr hl hb=>?_,fun r l hr hl=>?_⟩
 · rcases zgu hx with rfl | hx
   · exact Nat.lt_of_le_of_lt Nat.and_le_left (h.lt0 _)
   exact h.lt x hx
 · rw [zbF (by rw [h.len];exact hq)] at hb
   split at hb
   · rename_i e
     subst e
     rw [Nat.testBit_and,Bool.and_eq_false_iff] at hb
     rcases hb with hb | hb
     · exact h.snd _ l hr hl hb
     refine .call hu hi ho ?_
     have k:=(zlg hil hl).1 hb
     have key:∀ {i l:Nat},l<6→LostP c (tK (zcB c)) (tG (zcB c)) p (fun l=>hh.testBit l=true) i l→LostM c (tK (zcB c)) (tG (zcB c)) p (some i) l:=fun {i l} hl k=>by
       induction k with
       | ent h0=>exact .ent (hgz _ hl (by simpa using h0))
       | gen h0 hj h1=>exact .gen h0 hj h1
       | pass h0 hj _ h2 ih=>exact .pass h0 hj (ih hl) h2
     exact key hl k
   exact h.snd r l hr hl hb
 rw [zbF (by rw [h.len];exact hq)]
 split
 · rename_i e
   rw [Nat.testBit_and,e,h.root r l hr hl];rfl
 exact h.root r l hr hl
def CL (c:DCode) (out:List Nat) (p i:Nat):Prop:=zaw out (agN c i) &&& zaw (zbQ c (zcB c) p (zaw out p)) i=zaw out (agN c i)
structure BQ (c:DCode) (out0:List Nat) (ag:Bool) (out:List Nat) (D:Nat→Nat→Prop):Prop where
 bi:BI c out
 yes:ag=true→out.sum<out0.sum
 no:ag=false→out=out0∧∀ p i,D p i→UsedP c p→zaB c p i→(zak c i).op=4→CL c out0 p i
theorem BQ.mono {c:DCode} {out0 out:List Nat} {ag:Bool} {D D':Nat→Nat→Prop} (H:BQ c out0 ag out D) (h:∀ p i,UsedP c p→zaB c p i→(zak c i).op=4→D' p i→D p i):BQ c out0 ag out D':=
 ⟨H.bi,H.yes,fun e=>⟨(H.no e).1,fun p i hd hu hl ho=>(H.no e).2 p i (h p i hu hl ho hd) hu hl ho⟩⟩
theorem BQ.set {c:DCode} (hc:CodeR c) {out0 out:List Nat} {ag:Bool} {D D':Nat→Nat→Prop} (H:BQ c out0 ag out D) {p i hh:Nat} (hu:UsedP c p) (hi:zaB c p i) (ho:(zak c i).op=4) (hb:∀ l,l<6→hh.testBit l=false→LostM c (tK (zcB c)) (tG (zcB c)) p none l)
   (hne:zaw out (agN c i) &&& zaw (zbQ c (zcB c) p hh) i≠zaw out (agN c i)):BQ c out0 true (out.set (agN c i) (zaw out (agN c i) &&& zaw (zbQ c (zcB c) p hh) i)) D':=by
 have hil:=(zbq hc (by rw [hc.2.1.1];exact hu.lt hc) hi).1
 have hq:=(zbN hc hil (.inl ho)).2
 refine ⟨H.bi.updM hc hu hi ho hb,fun _=>?_,fun e=>by cases e⟩
 have h1:=zhG (l:=out) (i:=agN c i) (v:=zaw out (agN c i) &&& zaw (zbQ c (zcB c) p hh) i) (by rw [H.bi.len];exact hq)
 have h2:=zs1 hne
 cases ag with
 | true=>have:=H.yes rfl;omega
 | false=>rw [(H.no rfl).1] at h1 h2 ⊢;omega
theorem BQ.skip {c:DCode} {out0 out:List Nat} {ag:Bool} {D D':Nat→Nat→Prop} (H:BQ c out0 ag out D) {p i hh:Nat} (hz:ag=false→hh=zaw out0 p) (hD:∀ q j,D' q j→D q j∨(q=p∧j=i)) (he:zaw out (agN c i) &&& zaw (zbQ c (zcB c) p hh) i=zaw out (agN c i)):BQ c out0 ag out D':=
 ⟨H.bi,H.yes,fun e=>⟨(H.no e).1,fun q j hd hu hl ho=>by
   rcases hD q j hd with h | ⟨rfl,rfl⟩
   · exact (H.no e).2 q j h hu hl ho
   unfold CL;rw [←hz e,←(H.no e).1];exact he⟩⟩
def BS (c:DCode) (k:Nat) (out:List Nat):Prop:=out.length=c.procs.length∧∀ p,p<c.procs.length→(¬(p<k∧¬RootP c p)→zaw out p=0)∧(p<k→¬RootP c p→zaw out p=63)
theorem BS.fin {c:DCode} (hc:CodeR c) {out:List Nat} (h:BS c c.procs.length out):BI c out:=BI.start hc out h.1 fun p hp=>⟨fun hr=>(h.2 p hp).1 fun hn=>hn.2 hr,fun hr=>(h.2 p hp).2 hp hr⟩
theorem zpp {w W0 W1:World} {b:Nat} {v1:Value} {c:DCode} (hW:WAt W0 b c) (e0:Ext W0 w) (h1:Is W1 v1 (zgb (zcB c))) (e1:Ext W1 w) (hc:CodeR c) :
   CALL Tryz.prog 299 [.pointer (some ⟨b,0,none⟩),v1] w fun r w'=>Ext w w'∧Own w.heap.size w' r (zaI (ztQ c)):=by
 refine F299_call ?_
 unfold F299
 have h8:=hc.1.procs8
 have hil:=hc.f.ins
 have hTR:=zf1 c
 refine NIL.mk rfl ?_
 refine zaa za5 ?_
 refine zaa zbb ?_
 refine zab zcj (zat hW.wl.code) e0 fun v18 h18=>?_
 refine zag u24 h18 ?_
 have hn:c.procs.length=c.procs.length:=rfl
 generalize hnn:c.procs.length=n at hn
 rw [hnn] at h8
 refine zdn (by omega) (by omega) fun w2 hx2 hM2=>?_
 have hs2:=hx2.size
 generalize hg:w.heap.size=g at *
 have hF2:FW w w2 g n (List.replicate n 0):=⟨hx2,hM2,by omega⟩
 have hB2:BS c 0 (List.replicate n 0):=⟨by simp [hnn],fun p hp=>⟨fun _=>by rw [←zaU (by simp;omega)];simp,fun h=>by omega⟩⟩
 refine zhK u25 ?_
 have hrs:zci c<256:=zaY (by rw [hnn];omega)
 refine zas n (fun k us w'=>∃ out,us=[.int .i64 (k:Int)]∧k≤n∧FW w w' g n out∧BS c k out) 0 (Nat.zero_le _) ⟨_,rfl,Nat.zero_le _,hF2,hB2⟩ ?_
 rintro k mk u w3 hkm ⟨out,hu,hkl,hF3,hB3⟩
 simp only [List.map_cons,List.map_nil,List.cons.injEq,and_true] at hu
 rw [hu]
 have hol:=hB3.1
 refine zah ?_
 refine br (fun hlt=>?_) (fun hge=>?_)
 · have hk:k<n:=by omega
   refine NIL.mk rfl ?_
   refine zaa zgj ?_
   refine zac ty3 hW.roots (e0.trans hF3.ext) fun _=>?_
   refine (zeQ (m:=zci c) (i:=k) (by omega) (by omega)).mono ?_
   rintro _ w4 ⟨hx4,rfl⟩
   have hF4:=hF3.step hx4
   have hbit:(zci c).testBit k=true↔RootP c k:=by
     unfold zci;rw [zch]
     exact ⟨fun h=>h.2,fun h=>⟨by omega,h⟩⟩
   refine zaJ ?_
   refine zbw (fun hf=>?_) (fun hf=>?_)
   · have hnr:¬RootP c k:=fun h=>by rw [hbit.2 h] at hf;cases hf
     refine zbv (α:=Int) rfl u25 ty3 hk ?_
     refine za0 (α:=Int) rfl ty3 hF4.mine (by rw [zae];omega) hk (zbt (v:=63) (by omega)) fun w5 hc5 hm5=>?_
     have hF5:=hF4.set (v:=63) hc5 hm5
     refine zaf (by omega) ?_
     refine ⟨mk-1,by omega,k+1,by omega,_,rfl,by omega,hF5,by simp [hol],fun p hp=>?_⟩
     rw [zbF (by rw [hol,hnn];exact hk)]
     have:=hB3.2 p hp
     by_cases e:k=p
     · subst e
       exact ⟨fun h=>absurd ⟨by omega,hnr⟩ h,fun _ _=>by rw [if_pos rfl]⟩
     rw [if_neg e]
     exact ⟨fun h=>this.1 fun h2=>h ⟨by omega,h2.2⟩,fun h=>this.2 (by omega)⟩
   have hr:RootP c k:=hbit.1 (by simpa using hf)
   refine zaf (by omega) ?_
   refine ⟨mk-1,by omega,k+1,by omega,_,rfl,by omega,hF4,hol,fun p hp=>?_⟩
   have:=hB3.2 p hp
   by_cases e:k=p
   · subst e
     exact ⟨fun _=>this.1 fun h=>h.2 hr,fun _ h=>absurd hr h⟩
   exact ⟨fun h=>this.1 fun h2=>h ⟨by omega,h2.2⟩,fun h=>this.2 (by omega)⟩
 have hk:k=n:=by omega
 rw [hk,←hnn] at hB3
 have hBI:=hB3.fin hc
 clear hF2 hM2 hB2 hu hkm hB3
 have hus:zdD c<256:=zaY (by rw [hnn];omega)
 refine LOOPI.mk (fun m us w'=>∃ (ag:Bool) (out:List Nat),us=[.bool ag]∧m=out.sum+(if ag then 1 else 0)∧FW w w' g n out∧BI c out∧(ag=false→∀ p i,UsedP c p→zaB c p i→(zak c i).op=4→CL c out p i)) (out.sum+1) ⟨true,out,rfl,rfl,hF3,hBI,fun e=>by cases e⟩ ?_
 rintro m u w6 ⟨ag,out,hu,hm,hF6,hB6,hsh⟩
 simp only [List.map_cons,List.map_nil,List.cons.injEq,and_true] at hu
 rw [hu]
 refine zbw (fun hag=>?_) (fun hag=>?_)
 case refine_2=>
   rw [hB6.fin hc (hsh hag)] at hF6
   have hoo:=hF6.own
   rw [hg] at hoo
   exact ⟨hF6.ext,hoo⟩
 rw [hag,if_pos rfl] at hm
 refine NIL.mk rfl ?_
 refine zaa zgk ?_
 refine zac ty3 hW.used (e0.trans hF6.ext) fun _=>?_
 refine (zdt (m:=zdD c) (by omega)).mono ?_
 rintro v42 w7 ⟨hx7,ho7⟩
 unfold zdD at ho7
 rw [zdi (by rw [hnn];omega)] at ho7
 have hF7:=hF6.step hx7
 have hg6:=hF6.lt
 have hL:∀ p,p∈zbn c.procs.length (UsedP c)↔UsedP c p:=fun p=>by rw [zaT];exact ⟨fun h=>h.2,fun h=>⟨h.lt hc,h⟩⟩
 have hLl:(zbn c.procs.length (UsedP c)).length≤8:=Nat.le_trans za6 (by rw [hnn];omega)
 generalize zbn c.procs.length (UsedP c)=L at *
 have hO7:=ho7.toI
 generalize hlo:w6.heap.size=lo at *
 generalize hhi:w7.heap.size=hi at *
 refine zag u25 ho7.is ?_
 rw [zae]
 refine zas L.length (fun k us w'=>∃ (ag:Bool) (out':List Nat),us=[.bool ag,.int .i64 (k:Int)]∧k≤L.length∧FW w w' g n out'∧OwnI lo hi w' v42 (zaI L)∧BQ c out ag out' (fun p i=>p∈L.take k)) 0 (Nat.zero_le _) ⟨false,out,rfl,Nat.zero_le _,hF7,hO7,hB6,fun e=>(by cases e),fun _=>⟨rfl,fun p i h=>by simp at h⟩⟩ ?_
 rintro k mk u w8 hkm ⟨ag8,out8,hu,hkl,hF8,hO8,hQ8⟩
 obtain ⟨hu1,hu2⟩:=zcC hu;clear hu
 rw [hu1,hu2]
 refine zah ?_
 refine br (fun hlt=>?_) (fun hge=>?_)
 case refine_2=>
   refine ⟨out8.sum+(if ag8 then 1 else 0),?_,ag8,out8,rfl,rfl,hF8,hQ8.bi,fun e p i hu hl ho=>?_⟩
   · cases ag8 with
     | true=>have:=hQ8.yes rfl;simp;omega
     | false=>rw [(hQ8.no rfl).1];simp;omega
   have:=hQ8.no e
   rw [this.1]
   exact this.2 p i (by rw [List.take_of_length_le (by omega)];exact (hL p).2 hu) hu hl ho
 have hk:k<L.length:=by omega
 refine zad u25 ty3 (i:=k) hO8.is (by rw [zae];exact hk) fun b2 o2 hA2=>?_
 rw [zaM] at hA2
 refine zac ty3 hA2 (Ext.refl _) fun _=>?_
 have htk:=fun x=>zbe hk (x:=x)
 have hup:=(hL L[k]).1 (List.getElem_mem hk)
 generalize L[k]=p at *
 have hpn:=hup.lt hc
 have hpe:p<c.entry.length:=by rw [hc.2.1.1];exact hpn
 have hl8:=hQ8.bi.len
 refine zad u25 ty3 (i:=p) hF8.mine.is (by rw [zae,hl8];exact hpn) fun b3 o3 hA3=>?_
 rw [zaK] at hA3
 refine zac ty3 hA3 (Ext.refl _) fun _=>?_
 have hh64:=hQ8.bi.lt0 p
 have hhb:∀ l,l<6→(zaw out8 p).testBit l=false→LostM c (tK (zcB c)) (tG (zcB c)) p none l:=fun l hl hb=>hQ8.bi.snd p l hpn hl hb
 have hhz:ag8=false→zaw out8 p=zaw out p:=fun e=>by rw [(hQ8.no e).1]
 generalize zaw out8 p=hh at *
 refine (zns hW.wl (e0.trans hF8.ext) h1 (e1.trans hF8.ext) hc hTR hpn hh64).mono ?_
 rintro v55 w9 ⟨hx9,ho9⟩
 have hF9:=hF8.step hx9
 have hO9:=hO8.ext hx9
 have hg8:=hF8.lt
 refine (zfJ hW.wl (e0.trans hF9.ext) hc hpn).mono ?_
 rintro v58 w10 ⟨hx10,ho10⟩
 have hF10:=hF9.step hx10
 have hO10:=hO9.ext hx10
 have hg9:=hF9.lt
 have hA10:=ho9.toI.ext hx10
 have hM:∀ i,i∈zbn c.ins.length (zaB c p)↔zaB c p i:=fun i=>by rw [zaT];exact ⟨fun h=>h.2,fun h=>⟨(zbq hc hpe h).1,h⟩⟩
 have hMl:(zbn c.ins.length (zaB c p)).length≤1500:=Nat.le_trans za6 hil
 generalize zbn c.ins.length (zaB c p)=M at *
 have hLv10:=ho10.toI
 generalize hl9:w9.heap.size=lo9 at *
 generalize hl10:w10.heap.size=hi10 at *
 generalize hl8':w8.heap.size=lo8 at *
 refine zag u25 ho10.is ?_
 rw [zae]
 have hfl:(zbQ c (zcB c) p hh).length=c.ins.length:=zdu _ _ _ _
 have hf64:=zg1 (c:=c) (T:=zcB c) (p:=p) (h:=hh)
 refine zas M.length (fun j us w'=>∃ (ag:Bool) (out':List Nat),us=[.bool ag,.int .i64 (j:Int)]∧j≤M.length∧FW w w' g n out'∧OwnI lo hi w' v42 (zaI L)∧OwnI lo8 lo9 w' v55 (zaI (zbQ c (zcB c) p hh))∧OwnI lo9 hi10 w' v58 (zaI M)∧BQ c out ag out' (fun q i=>q∈L.take k∨(q=p∧i∈M.take j))∧(ag=false→hh=zaw out p)) 0 (Nat.zero_le _) ⟨ag8,out8,rfl,Nat.zero_le _,hF10,hO10,hA10,hLv10,hQ8.mono fun q i _ _ _ h=>h.elim id fun h=>by simp at h,hhz⟩ ?_
 rintro j mj u w11 hjm ⟨ag11,out11,hu,hjl,hF11,hO11,hA11,hLv11,hQ11,hz11⟩
 obtain ⟨hu1,hu2⟩:=zcC hu;clear hu
 rw [hu1,hu2]
 refine zah ?_
 refine br (fun hlt=>?_) (fun hge=>?_)
 case refine_2=>
   refine zaf (by omega) ?_
   refine ⟨mk-1,by omega,k+1,by omega,ag11,out11,rfl,by omega,hF11,hO11,hQ11.mono fun q i hu hl ho h=>?_⟩
   rcases (htk q).1 h with h | rfl
   · exact .inl h
   exact .inr ⟨rfl,by rw [List.take_of_length_le (by omega)];exact (hM i).2 hl⟩
 have hj:j<M.length:=by omega
 refine zad u25 ty3 (i:=j) hLv11.is (by rw [zae];exact hj) fun b4 o4 hA4=>?_
 rw [zaM] at hA4
 refine zac ty3 hA4 (Ext.refl _) fun _=>?_
 have htj:=fun x=>zbe hj (x:=x)
 have hiv:=(hM M[j]).1 (List.getElem_mem hj)
 generalize M[j]=i at *
 have hin:=(zbq hc hpe hiv).1
 refine NIL.mk rfl ?_
 refine zaa za5 ?_
 refine zaa zaG ?_
 refine zab zcO (zal hW.wl.code) (e0.trans hF11.ext) fun v68 h68=>?_
 refine zad u26 zc6 h68 hin fun b5 o5 hA5=>?_
 rw [zaF] at hA5
 refine zab zc6 hA5 (e0.trans hF11.ext) fun v71 h71=>?_
 refine zce zpE rfl zc6 rfl h71 (e0.trans hF11.ext) fun w12 hx12 hA12 hV12=>?_
 have hx13:=zaj w12
 have hx123:=hx12.trans hx13
 have hF13:=hF11.step hx123
 have hO13:=hO11.ext hx123
 have hA13:=hA11.ext hx123
 have hLv13:=hLv11.ext hx123
 generalize World.drew1 w12=w13 at *
 refine zaa zbf ?_
 refine zac ty3 (zay hA12) hx13 fun _=>?_
 refine zai ?_
 have hno:¬(zak c i).op=4→BQ c out ag11 out11 (fun q i=>q∈L.take k∨(q=p∧i∈M.take (j+1))):=fun hn=>hQ11.mono fun q i' _ _ ho h=>h.imp id fun ⟨h1,h2⟩=>⟨h1,by
   rcases (htj i').1 h2 with h | rfl
   · exact h
   exact absurd ho hn⟩
 refine br (fun c4=>?_) (fun c4=>?_)
 case refine_2=>
   refine zaf (by omega) ?_
   exact ⟨mj-1,by omega,j+1,by omega,ag11,out11,rfl,by omega,hF13,hO13,hA13,hLv13,hno c4,hz11⟩
 obtain ⟨hag4,hagn⟩:=zbN hc hin (.inl c4)
 have hl11:=hQ11.bi.len
 have hset:=fun D'=>hQ11.set (D':=D') hc hup hiv c4 hhb
 have hskip:=hQ11.skip (D':=fun q i=>q∈L.take k∨(q=p∧i∈M.take (j+1))) (p:=p) (i:=i) hz11 fun q j' h=>by
   rcases h with h | ⟨h1,h2⟩
   · exact .inl (.inl h)
   rcases (htj j').1 h2 with h | h
   · exact .inl (.inr ⟨h1,h⟩)
   exact .inr ⟨h1,h⟩
 have hq64:=hQ11.bi.lt0 (agN c i)
 have ha64:=zdC hf64 i
 have hrO:∀ {w':World} {K:Value→Prop} (hF:FW w w' g n out11) (k:K (.int .i64 (zaw out11 (agN c i):Int))),RD Tryz.prog (Instr.indexAt 25 (.slice (some ⟨g,0,none⟩) n n) (.int .i64 (agN c i:Int))) w' fun x37=>RD Tryz.prog (Instr.loadAt 3 x37) w' K:=fun hF k=>by
   refine zad u25 ty3 (i:=agN c i) hF.mine.is (by rw [zae,hl11];exact hagn) fun b1 o1 hA1=>?_
   rw [zaK] at hA1
   exact zac ty3 hA1 (Ext.refl _) fun _=>k
 have hrA:∀ {w':World} {K:Value→Prop} (hA:OwnI lo8 lo9 w' v55 (zaI (zbQ c (zcB c) p hh))) (k:K (.int .i64 (zaw (zbQ c (zcB c) p hh) i:Int))),RD Tryz.prog (Instr.indexAt 25 v55 (.int .i64 (i:Int))) w' fun x37=>RD Tryz.prog (Instr.loadAt 3 x37) w' K:=fun hA k=>by
   refine zad u25 ty3 (i:=i) hA.is (by rw [zae,hfl];exact hin) fun b1 o1 hA1=>?_
   rw [zaK] at hA1
   exact zac ty3 hA1 (Ext.refl _) fun _=>k
 refine zaa zbu ?_
 refine zac ty3 (zaC hA12) hx13 fun _=>?_
 rw [hag4]
 refine hrO hF13 ?_
 refine hrA hA13 ?_
 refine zd7 (by omega) (by omega) ?_
 refine zaa zbu ?_
 refine zac ty3 (zaC hA12) hx13 fun _=>?_
 rw [hag4]
 refine hrO hF13 ?_
 refine zaN ?_
 refine br (fun hne=>?_) (fun heq=>?_)
 · have hx14:=zaj w13
   have hF14:=hF13.step hx14
   have hO14:=hO13.ext hx14
   have hA14:=hA13.ext hx14
   have hLv14:=hLv13.ext hx14
   generalize World.drew1 w13=w14 at *
   refine zaa zbu ?_
   refine zac ty3 (zaC hA12) (hx13.trans hx14) fun _=>?_
   rw [hag4]
   refine hrO hF14 ?_
   refine hrA hA14 ?_
   refine zd7 (by omega) (by omega) ?_
   have hvl:=Nat.and_le_left (n:=zaw out11 (agN c i)) (m:=zaw (zbQ c (zcB c) p hh) i)
   refine zbv (α:=Int) rfl u25 ty3 (by omega) ?_
   refine za0 (α:=Int) rfl ty3 hF14.mine (by rw [zae,hl11,hnn]) (by omega) (zbt (v:=zaw out11 (agN c i) &&& zaw (zbQ c (zcB c) p hh) i) (by omega)) fun w15 hc15 hm15=>?_
   have hF15:=hF14.set (v:=zaw out11 (agN c i) &&& zaw (zbQ c (zcB c) p hh) i) hc15 hm15
   have hc15':=zd8 hc15
   refine zaf (by omega) ?_
   exact ⟨mj-1,by omega,j+1,by omega,true,_,rfl,by omega,hF15,hO14.chg hc15' (by omega),hA14.chg hc15' (by omega),hLv14.chg hc15' (by omega),hset _ fun e=>hne (by rw [e]),fun e=>by cases e⟩
 refine zaf (by omega) ?_
 exact ⟨mj-1,by omega,j+1,by omega,ag11,out11,rfl,by omega,hF13,hO13,hA13,hLv13,hskip (Int.ofNat_inj.1 (Decidable.not_not.1 heq)),hz11⟩
def F254 (a0 a1:Value) (w:World) (R:VW):Prop:=
 oP (Instr.box 28 a0) w fun x2 w=>
 rL 28 x2 w fun x16=>
 cL 241 [x16] w fun x17 w=>
 rL 28 x2 w fun x18=>
 cL 255 [x18] w fun x19 w=>
 oP (Instr.buildSlice 25 0 #[]) w fun x20 w=>
 LOOPI [7,8] [x20,(iV 0)] w fun u5 w next5=>
 rF 28 x2 2 w fun x22=>
 rL 24 x22 w fun x23=>
 rN 24 3 x23 w fun x24=>
 rC (u5 8) x24 w fun x25=>
 BR x25
 (rX 135 x17 (u5 8) w fun x30=>
 rL 4 x30 w fun x31=>
 BR x31
 (oP (Instr.buildSlice 25 1 #[(0,(iV 0))]) w fun x34 w=>
 oP (Builtin.append_ #[25,25] 25 [(u5 7),x34].toArray) w fun x35 w=>
 rA (u5 8) (iV 1) w fun x27=>
 next5 [x35,x27] w)
 (oP (Instr.buildSlice 25 1 #[(0,(iV 63))]) w fun x34 w=>
 oP (Builtin.append_ #[25,25] 25 [(u5 7),x34].toArray) w fun x35 w=>
 rA (u5 8) (iV 1) w fun x27=>
 next5 [x35,x27] w))
 (LOOPI [10] [(Value.bool true)] w fun u12 w next12=>
 BR (u12 10)
 (LOOPI [10,11] [(Value.bool false),(iV 0)] w fun u15 w next15=>
 rF 28 x2 2 w fun x38=>
 rL 24 x38 w fun x39=>
 rN 24 3 x39 w fun x40=>
 rC (u15 11) x40 w fun x41=>
 BR x41
 (rX 135 x19 (u15 11) w fun x46=>
 rL 4 x46 w fun x47=>
 rD (Op.unary .not x47) w fun x48=>
 BR x48
 (rA (u15 11) (iV 1) w fun x43=>
 next15 [(u15 10),x43] w)
 ((fun w=>rL 28 x2 w fun x49=>
 rX 25 (u5 7) (u15 11) w fun x54=>
 rL 3 x54 w fun x55=>
 cL 256 [x49,a1,(u15 11),x55] w fun x56 w=>
 rL 28 x2 w fun x57=>
 cL 306 [x57,(u15 11)] w fun x59 w=>
 rF 28 x2 3 w fun x60=>
 rL 25 x60 w fun x61=>
 rX 25 x61 (u15 11) w fun x63=>
 rL 3 x63 w fun x64=>
 LOOPI [10,14] [(u15 10),x64] w fun u21 w next21=>
 rL 28 x2 w fun x66=>
 cL 213 [x66,(u15 11)] w fun x68 w=>
 rB .leq 3 T0 T0 (u21 14) x68 w fun x69=>
 BR x69
 (rF 28 x2 4 w fun x72=>
 rL 26 x72 w fun x73=>
 rX 26 x73 (u21 14) w fun x75=>
 rL 77 x75 w fun x76=>
 oP (Instr.alloc 77 true (.tuple #[])) w fun x15 w=>
 oS 77 x15 x76 w fun w=>
 (fun w=>rX 135 x59 (u21 14) w fun x79=>
 rL 4 x79 w fun x80=>
 BR x80
 (rF 77 x15 0 w fun x82=>
 rL 3 x82 w fun x83=>
 rB .eql 3 T0 U0 x83 (iV 4) w fun x84=>
 BR x84
 (rF 77 x15 1 w fun x88=>
 rL 3 x88 w fun x89=>
 rX 25 (u5 7) x89 w fun x90=>
 rL 3 x90 w fun x91=>
 rX 25 x56 (u21 14) w fun x94=>
 rL 3 x94 w fun x95=>
 rB .and 3 T0 T0 x91 x95 w fun x96=>
 rF 77 x15 1 w fun x98=>
 rL 3 x98 w fun x99=>
 rX 25 (u5 7) x99 w fun x100=>
 rL 3 x100 w fun x101=>
 rB .neq 3 T0 T0 x96 x101 w fun x102=>
 BR x102
 ((fun w=>rF 77 x15 1 w fun x105=>
 rL 3 x105 w fun x106=>
 rF 77 x15 1 w fun x108=>
 rL 3 x108 w fun x109=>
 rX 25 (u5 7) x109 w fun x110=>
 rL 3 x110 w fun x111=>
 rX 25 x56 (u21 14) w fun x114=>
 rL 3 x114 w fun x115=>
 rB .and 3 T0 T0 x111 x115 w fun x116=>
 rX 25 (u5 7) x106 w fun x117=>
 oS 3 x117 x116 w fun w=>
 rA (u21 14) (iV 1) w fun x71=>
 next21 [(Value.bool true),x71] w) (World.drew1 w))
 (rA (u21 14) (iV 1) w fun x71=>
 next21 [(u21 10),x71] w))
 (rA (u21 14) (iV 1) w fun x71=>
 next21 [(u21 10),x71] w))
 (rA (u21 14) (iV 1) w fun x71=>
 next21 [(u21 10),x71] w)) (World.drew1 w))
 (rA (u15 11) (iV 1) w fun x43=>
 next15 [(u21 10),x43] w)) (World.drew1 w)))
 (next12 [(u15 10)] w))
 (R (u5 7) w))
def cfg254:Cfg:=⟨extL,[],[(5,68717380480,[7,8]),(12,332306998946228968225951696350673920,[10]),(15,332306998946228968225951627631197184,[10,11]),(21,332306998946228931332463617651033088,[10,14])],[(18,[0,1,2,3,4,5,6,7,8],0),(24,[0,1,2,3,4,5,6,7,8,9,10,11,12,13,14,15,16,17,18,19,20,21,22,23,24,25,26],0),(25,[0,1,2,3,4,5,6,7,8,9,10,11,12,13,14],0)],[],[],[]⟩
theorem F254_call {a0 a1:Value} {w:World} {R:VW} (h:F254 a0 a1 w R):cL 254 [a0,a1] w R:=co (g:=cfg254) Tryz.func254 (by kernel_rfl) (by kernel_rfl) (by kernel_rfl) h
open Rep (rep)
structure FV (w1 w:World) (g:Nat) (v:Value) (out:List Nat):Prop where
 ext:Ext w1 w
 mine:Mine [g] w v (zaI out)
 g0:w1.heap.size≤g
section
variable {w1 w w':World} {g:Nat} {v:Value} {out:List Nat}
theorem FV.step (h:FV w1 w g v out) (hx:Ext w w'):FV w1 w' g v out:=⟨h.ext.trans hx,h.mine.ext hx,h.g0⟩
theorem FV.lt (h:FV w1 w g v out):g<w.heap.size:=h.mine.lt g (by simp)
theorem FV.own (h:FV w1 w g v out):Own w1.heap.size w v (zaI out):=⟨[g],h.mine,fun b hb=>by simp only [List.mem_cons,List.not_mem_nil,or_false] at hb;have:=h.g0;omega⟩
theorem FV.make (ho:Own w1.heap.size w v (zaI out)) (hx:Ext w1 w) (hT:0<out.length):∃ g,FV w1 w g v out:=by
 obtain ⟨F,hm,hF⟩:=ho
 obtain ⟨b,o,cap,hv,rfl⟩:=zej hm (by intro e;have:=congrArg List.length e;rw [zae] at this;simp only [List.length_nil] at this;omega)
 exact ⟨b,hx,hm,hF b (by simp)⟩
theorem ztS {q m:Nat} {K:World→Prop} (h:FV w1 w g v out) (hq:q<out.length) (hm:m<9223372036854775808) (k:∀ w',FV w1 w' g v (out.set q m)→ChgI g (g+1) w w'→K w') :
   RD Tryz.prog (Instr.indexAt 25 v (.int .i64 (q:Int))) w fun a=>OPU Tryz.prog (Instr.storeAt 3 a (.int .i64 (m:Int))) w K:=by
 refine zkX u25 ty3 h.mine (by rw [zae];exact hq) fun b o G hL=>?_
 refine zgP (upd:=fun y=>(zaI out).set q y) (y':=(m:Int)) ty3 hL (zbt hm) fun w2 F2 hc2 hm2 hF2=>?_
 have hF:F2=[g]:=by
   obtain ⟨b,o,cap,hv,rfl⟩:=zej hm2 (by intro e;have:=congrArg List.length e;rw [List.length_set,zae] at this;simp only [List.length_nil] at this;omega)
   have:=hF2 b (by simp)
   simpa using this
 subst hF
 have hcc:=zd8 hc2
 exact k w2 ⟨h.ext.chgI hcc h.g0,by rw [zfh];exact hm2,h.g0⟩ hcc
end
noncomputable def bg0 (c:DCode) (p:Nat):Nat:=@ite _ (RootP c p) (Classical.propDecidable _) 0 63
noncomputable def bgL (c:DCode) (k:Nat):List Nat:=(List.range k).map (bg0 c)
theorem zoB (c:DCode) (k:Nat):zaI (bgL c (k+1))=zaI (bgL c k)++[(bg0 c k:Int)]:=by simp [bgL,zaI,List.range_succ]
theorem zgw (c:DCode) (k:Nat):(bgL c k).length=k:=by simp [bgL]
theorem zuS {c:DCode} (hc:CodeR c):BI c (bgL c c.procs.length):=BI.start hc _ (zgw c _) fun p hp=>by
 have:zaw (bgL c c.procs.length) p=bg0 c p:=by rw [←zaU (by rw [zgw];exact hp)];simp [bgL]
 rw [this]
 unfold bg0
 exact ⟨fun h=>by rw [if_pos h],fun h=>by rw [if_neg h]⟩
theorem zlk {w W0 W1:World} {v0 v1:Value} {c:DCode} (h0:Is W0 v0 c) (e0:Ext W0 w) (h1:Is W1 v1 (zgb (zcB c))) (e1:Ext W1 w) (hc:CodeR c) :
   CALL Tryz.prog 254 [v0,v1] w fun r w'=>Ext w w'∧Own w.heap.size w' r (zaI (ztQ c)):=by
 refine F254_call ?_
 unfold F254
 have h8:=hc.1.procs8
 have hil:=hc.f.ins
 have hTR:=zf1 c
 have hBI:=zuS hc
 refine zaV h0 e0 fun w0 hx0 hA=>?_
 have hs0:=hx0.size
 refine zab zbm hA (Ext.refl _) fun v16 h16=>?_
 refine (zfk h16 (Ext.refl _) hc).mono ?_
 rintro v17 wa ⟨hxa,hoa⟩
 have hsa:=hxa.size
 refine zab zbm hA hxa fun v18 h18=>?_
 refine (zf2 h18 hxa hc).mono ?_
 rintro v19 wb ⟨hxb,hob⟩
 have hsb:=hxb.size
 have hx0b:=hxa.trans hxb
 have hRo:=hoa.is.ext hxb
 have hUs:=hob.is
 have hn:c.procs.length=c.procs.length:=rfl
 generalize hnn:c.procs.length=n at hn
 rw [hnn] at h8
 refine zaP (α:=Int) u25 ty3 fun a w1 hx1 hr1=>?_
 have hs1:=hx1.size
 refine zas n (fun k us w'=>∃ v,us=[v,.int .i64 (k:Int)]∧k≤n∧Ext wb w'∧RowI wb.heap.size w'.heap.size 3 w' v (zaI (bgL c k))) 0 (Nat.zero_le _) ⟨_,rfl,Nat.zero_le _,hx1,by simpa [bgL,zaI] using hr1.mono hs1 (Nat.le_refl _)⟩ ?_
 rintro k mk u w3 hkm ⟨v,hu,hkl,hx3,hr3⟩
 obtain ⟨hu1,hu2⟩:=zcC hu;clear hu
 rw [hu1,hu2]
 have hs3:=hx3.size
 have hx03:=hx0b.trans hx3
 refine zaa zbb ?_
 refine zab zcj (zat hA) hx03 fun v23 h23=>?_
 refine zag u24 h23 ?_
 rw [hnn]
 refine zah ?_
 refine br (fun hlt=>?_) (fun hge=>?_)
 · have hk:k<n:=by omega
   refine zad zcX ty4 (i:=k) hRo (by rw [zam];omega) fun b2 o2 hA2=>?_
   refine zaz ty4 hA2 hx3 ?_
   have hmk:=zaH (n:=c.procs.length) (p:=RootP c) (i:=k)
   rw [zaO (by rw [zam];omega)] at hmk
   refine zbw (fun hf=>?_) (fun hf=>?_)
   · have hb0:bg0 c k=0:=by unfold bg0;rw [if_pos (hmk.1 hf).2]
     refine zbV (lo2:=w3.heap.size) (hi2:=w3.heap.size) (x:=((0:Nat):Int)) u25 ty3 z3 zc3 (by decide) hr3 (by omega) (zcx _ _ (by unfold I64;omega)) (by omega) (by omega) (by rw [zap,zae,zgw];omega) (by rw [zae,zgw];omega) fun v54 w9 hc9 hr9=>?_
     refine zaf (by omega) ?_
     refine ⟨mk-1,by omega,k+1,by omega,v54,rfl,by omega,hx3.chgI hc9 (Nat.le_refl _),?_⟩
     rw [zoB,hb0];exact hr9
   have hb0:bg0 c k=63:=by unfold bg0;rw [if_neg fun h=>by rw [hmk.2 ⟨by omega,h⟩] at hf;cases hf]
   refine zbV (lo2:=w3.heap.size) (hi2:=w3.heap.size) (x:=((63:Nat):Int)) u25 ty3 z3 zc3 (by decide) hr3 (by omega) (zcx _ _ (by unfold I64;omega)) (by omega) (by omega) (by rw [zap,zae,zgw];omega) (by rw [zae,zgw];omega) fun v54 w9 hc9 hr9=>?_
   refine zaf (by omega) ?_
   refine ⟨mk-1,by omega,k+1,by omega,v54,rfl,by omega,hx3.chgI hc9 (Nat.le_refl _),?_⟩
   rw [zoB,hb0];exact hr9
 have hk:k=c.procs.length:=by omega
 rw [hk] at hr3
 obtain ⟨g,hF3⟩:=FV.make hr3.own.own hx3 (by rw [zgw];omega)
 generalize bgL c c.procs.length=out at *
 clear hr3 hkm
 refine LOOPI.mk (fun m us w'=>∃ (ag:Bool) (out:List Nat),us=[.bool ag]∧m=out.sum+(if ag then 1 else 0)∧FV wb w' g v out∧BI c out∧(ag=false→∀ p i,UsedP c p→zaB c p i→(zak c i).op=4→CL c out p i)) (out.sum+1) ⟨true,out,rfl,rfl,hF3,hBI,fun e=>by cases e⟩ ?_
 rintro m u w6 ⟨ag,out,hu,hm,hF6,hB6,hsh⟩
 simp only [List.map_cons,List.map_nil,List.cons.injEq,and_true] at hu
 rw [hu]
 refine zbw (fun hag=>?_) (fun hag=>?_)
 case refine_2=>
   rw [hB6.fin hc (hsh hag)] at hF6
   exact ⟨hx0.trans (hx0b.trans hF6.ext),hF6.own.mono (by omega)⟩
 rw [hag,if_pos rfl] at hm
 refine zas n (fun k us w'=>∃ (ag:Bool) (out':List Nat),us=[.bool ag,.int .i64 (k:Int)]∧k≤n∧FV wb w' g v out'∧BQ c out ag out' (fun p i=>p<k)) 0 (Nat.zero_le _) ⟨false,out,rfl,Nat.zero_le _,hF6,hB6,fun e=>(by cases e),fun _=>⟨rfl,fun p i h=>by omega⟩⟩ ?_
 rintro p mk u w8 hkm ⟨ag8,out8,hu,hkl,hF8,hQ8⟩
 obtain ⟨hu1,hu2⟩:=zcC hu;clear hu
 rw [hu1,hu2]
 have hx08:=hx0b.trans hF8.ext
 refine zaa zbb ?_
 refine zab zcj (zat hA) hx08 fun v38 h38=>?_
 refine zag u24 h38 ?_
 rw [hnn]
 refine zah ?_
 refine br (fun hlt=>?_) (fun hge=>?_)
 case refine_2=>
   refine ⟨out8.sum+(if ag8 then 1 else 0),?_,ag8,out8,rfl,rfl,hF8,hQ8.bi,fun e p' i hu hl ho=>?_⟩
   · cases ag8 with
     | true=>have:=hQ8.yes rfl;simp;omega
     | false=>rw [(hQ8.no rfl).1];simp;omega
   have:=hQ8.no e
   rw [this.1]
   exact this.2 p' i (by have:=hu.lt hc;omega) hu hl ho
 have hpn':p<n:=by omega
 have hpn:p<c.procs.length:=by omega
 have hpe:p<c.entry.length:=by rw [hc.2.1.1];exact hpn
 refine zad zcX ty4 (i:=p) hUs (by rw [zam];omega) fun b2 o2 hA2=>?_
 refine zaz ty4 hA2 hF8.ext ?_
 have hmk:=zaH (n:=c.procs.length) (p:=UsedP c) (i:=p)
 rw [zaO (by rw [zam];omega)] at hmk
 refine zaJ ?_
 refine zbw (fun hf=>?_) (fun hf=>?_)
 · have hnu:¬UsedP c p:=fun h=>by rw [hmk.2 ⟨hpn,h⟩] at hf;cases hf
   refine zaf (by omega) ?_
   refine ⟨mk-1,by omega,p+1,by omega,ag8,out8,rfl,by omega,hF8,hQ8.mono fun q i hu _ _ h=>?_⟩
   by_cases e:q=p
   · subst e;exact absurd hu hnu
   omega
 have hup:UsedP c p:=(hmk.1 (by simpa using hf)).2
 have hxd:=zaj w8
 have hF8d:=hF8.step hxd
 generalize World.drew1 w8=w8d at *
 have hl8:=hQ8.bi.len
 refine zab zbm hA (hx0b.trans hF8d.ext) fun v49 h49=>?_
 refine zad u25 ty3 (i:=p) hF8d.mine.is (by rw [zae,hl8];exact hpn) fun b3 o3 hA3=>?_
 rw [zaK] at hA3
 refine zac ty3 hA3 (Ext.refl _) fun _=>?_
 have hh64:=hQ8.bi.lt0 p
 have hhb:∀ l,l<6→(zaw out8 p).testBit l=false→LostM c (tK (zcB c)) (tG (zcB c)) p none l:=fun l hl hb=>hQ8.bi.snd p l hpn hl hb
 have hhz:ag8=false→zaw out8 p=zaw out p:=fun e=>by rw [(hQ8.no e).1]
 generalize zaw out8 p=hh at *
 refine (zhL h49 (hx0b.trans hF8d.ext) h1 (e1.trans (hx0.trans (hx0b.trans hF8d.ext))) hc hTR hpn hh64).mono ?_
 rintro v55 w9 ⟨hx9,ho9⟩
 have hF9:=hF8d.step hx9
 have hg8:=hF8d.lt
 refine zab zbm hA (hx0b.trans hF9.ext) fun v57 h57=>?_
 refine (zeP h57 (hx0b.trans hF9.ext) hc hpe).mono ?_
 rintro v58 w10 ⟨hx10,ho10⟩
 have hF10:=hF9.step hx10
 have hg9:=hF9.lt
 have hA10:=ho9.toI.ext hx10
 have hLv10:=ho10.toI
 generalize hl9:w9.heap.size=lo9 at *
 generalize hl10:w10.heap.size=hi10 at *
 generalize hl8':w8d.heap.size=lo8 at *
 obtain ⟨he1,he2,he3⟩:=zfp hc hpe
 obtain ⟨hz1,hz2,hz3⟩:=zen hc hpn
 obtain ⟨_,hez,_⟩:=zjE hc hpe
 refine zaa za1 ?_
 refine zab zcN (zaq hA) (hx0b.trans hF10.ext) fun v61 h61=>?_
 refine zad u25 ty3 h61 hpe fun b5 o5 hA5=>?_
 rw [zbh hpe,he1] at hA5
 refine zac ty3 hA5 (hx0b.trans hF10.ext) fun _=>?_
 have hfl:(zbQ c (zcB c) p hh).length=c.ins.length:=zdu _ _ _ _
 have hf64:=zg1 (c:=c) (T:=zcB c) (p:=p) (h:=hh)
 have hlz:∀ i,zaB c p i→eN c p≤i∧i≤zN c p:=fun i h=>by
   have:=zbq hc hpe h
   exact znn hc this.1 hpe this.2
 generalize hE:eN c p=E at *
 generalize hZ:zN c p=Z at *
 refine zas (Z+1-E) (fun j us w'=>∃ (ag:Bool) (out':List Nat),us=[.bool ag,.int .i64 ((E+j:Nat):Int)]∧E+j≤Z+1∧FV wb w' g v out'∧OwnI lo8 lo9 w' v55 (zaI (zbQ c (zcB c) p hh))∧OwnI lo9 hi10 w' v58 (zbP c.ins.length (zaB c p))∧BQ c out ag out' (fun q i=>q<p∨(q=p∧i<E+j))∧(ag=false→hh=zaw out p)) 0 (Nat.zero_le _) ⟨ag8,out8,rfl,by omega,hF10,hA10,hLv10,hQ8.mono fun q i _ hl _ h=>h.elim id fun ⟨h1,h2⟩=>by subst h1;have:=hlz i hl;omega,hhz⟩ ?_
 rintro j mj u w11 hjm ⟨ag11,out11,hu,hjl,hF11,hA11,hLv11,hQ11,hz11⟩
 obtain ⟨hu1,hu2⟩:=zcC hu;clear hu
 rw [hu1,hu2]
 have hx11:=hx0b.trans hF11.ext
 refine zab zbm hA hx11 fun v66 h66=>?_
 refine (zd2 h66 hx11 (p:=(p:Int)) (by omega) (by omega) hc.2.1.nonneg).mono ?_
 rintro _ w12 ⟨hx12,rfl⟩
 rw [hz2]
 have hF12:=hF11.step hx12
 have hA12:=hA11.ext hx12
 have hLv12:=hLv11.ext hx12
 have hx012:=hx0b.trans hF12.ext
 refine zcT ?_
 refine br (fun hlt=>?_) (fun hge=>?_)
 case refine_2=>
   refine zaf (by omega) ?_
   refine ⟨mk-1,by omega,p+1,by omega,ag11,out11,rfl,by omega,hF12,hQ11.mono fun q i hu hl ho h=>?_⟩
   by_cases e:q=p
   · subst e
     have:=hlz i hl
     exact .inr ⟨rfl,by omega⟩
   exact .inl (by omega)
 have hin:E+j<c.ins.length:=by omega
 generalize hij:E+j=i at *
 refine zaa zaG ?_
 refine zab zcO (zal hA) hx012 fun v73 h73=>?_
 refine zad u26 zc6 h73 hin fun b6 o6 hA6=>?_
 rw [zaF] at hA6
 refine zab zc6 hA6 hx012 fun v76 h76=>?_
 refine zce zpE rfl zc6 rfl h76 hx012 fun w12b hx12b hAI hV12=>?_
 have hx13:=zaj w12b
 have hx123:=hx12b.trans hx13
 have hF13:=hF12.step hx123
 have hA13:=hA12.ext hx123
 have hLv13:=hLv12.ext hx123
 generalize World.drew1 w12b=w13 at *
 have hml:=zaH (n:=c.ins.length) (p:=zaB c p) (i:=i)
 rw [zaO (by rw [zam];exact hin)] at hml
 have hno:¬(zaB c p i∧(zak c i).op=4)→BQ c out ag11 out11 (fun q i'=>q<p∨(q=p∧i'<i+1)):=fun hn=>hQ11.mono fun q i' _ hl ho h=>h.imp id fun ⟨h1,h2⟩=>⟨h1,by
   by_cases e:i'=i
   · subst e;subst h1;exact absurd ⟨hl,ho⟩ hn
   omega⟩
 have hnext:∀ {w':World} {ag':Bool} {out':List Nat} (hF:FV wb w' g v out') (hA:OwnI lo8 lo9 w' v55 (zaI (zbQ c (zcB c) p hh))) (hL:OwnI lo9 hi10 w' v58 (zbP c.ins.length (zaB c p))) (hQ:BQ c out ag' out' (fun q i'=>q<p∨(q=p∧i'<i+1))) (hz:ag'=false→hh=zaw out p),
     ∃ m',m'<mj∧∃ k',k'+m'=Z+1-E∧∃ (ag:Bool) (out'':List Nat),[Value.bool ag',Value.int .i64 ((i+1:Nat):Int)]=[.bool ag,.int .i64 ((E+k':Nat):Int)]∧E+k'≤Z+1∧FV wb w' g v out''∧OwnI lo8 lo9 w' v55 (zaI (zbQ c (zcB c) p hh))∧OwnI lo9 hi10 w' v58 (zbP c.ins.length (zaB c p))∧BQ c out ag out'' (fun q i=>q<p∨(q=p∧i<E+k'))∧(ag=false→hh=zaw out p):=fun {w' ag' out'} hF hA hL hQ hz=>
   ⟨mj-1,by omega,j+1,by omega,ag',out',by rw [show i+1=E+(j+1) by omega],by omega,hF,hA,hL,by rw [show E+(j+1)=i+1 by omega];exact hQ,hz⟩
 refine zad zcX ty4 (i:=i) hLv13.is (by rw [zam];exact hin) fun b7 o7 hA7=>?_
 refine zaz ty4 hA7 (Ext.refl _) ?_
 refine zbw (fun hf7=>?_) (fun hf7=>?_)
 case refine_2=>
   refine zaf (by omega) ?_
   exact hnext hF13 hA13 hLv13 (hno fun h=>by rw [hml.2 ⟨hin,h.1⟩] at hf7;cases hf7) hz11
 have hiv:zaB c p i:=(hml.1 hf7).2
 refine zaa zbf ?_
 refine zac ty3 (zay hAI) hx13 fun _=>?_
 refine zai ?_
 refine br (fun c4=>?_) (fun c4=>?_)
 case refine_2=>
   refine zaf (by omega) ?_
   exact hnext hF13 hA13 hLv13 (hno fun h=>c4 h.2) hz11
 obtain ⟨hag4,hagn⟩:=zbN hc hin (.inl c4)
 have hl11:=hQ11.bi.len
 have hset:=fun D'=>hQ11.set (D':=D') hc hup hiv c4 hhb
 have hskip:=hQ11.skip (D':=fun q i'=>q<p∨(q=p∧i'<i+1)) (p:=p) (i:=i) hz11 fun q j' h=>by
   rcases h with h | ⟨h1,h2⟩
   · exact .inl (.inl h)
   by_cases e:j'=i
   · exact .inr ⟨h1,e⟩
   exact .inl (.inr ⟨h1,by omega⟩)
 have hq64:=hQ11.bi.lt0 (agN c i)
 have ha64:=zdC hf64 i
 have hrO:∀ {w':World} {K:Value→Prop} (hF:FV wb w' g v out11) (k:K (.int .i64 (zaw out11 (agN c i):Int))),RD Tryz.prog (Instr.indexAt 25 v (.int .i64 (agN c i:Int))) w' fun x37=>RD Tryz.prog (Instr.loadAt 3 x37) w' K:=fun hF k=>by
   refine zad u25 ty3 (i:=agN c i) hF.mine.is (by rw [zae,hl11];exact hagn) fun b1 o1 hA1=>?_
   rw [zaK] at hA1
   exact zac ty3 hA1 (Ext.refl _) fun _=>k
 have hrA:∀ {w':World} {K:Value→Prop} (hA:OwnI lo8 lo9 w' v55 (zaI (zbQ c (zcB c) p hh))) (k:K (.int .i64 (zaw (zbQ c (zcB c) p hh) i:Int))),RD Tryz.prog (Instr.indexAt 25 v55 (.int .i64 (i:Int))) w' fun x37=>RD Tryz.prog (Instr.loadAt 3 x37) w' K:=fun hA k=>by
   refine zad u25 ty3 (i:=i) hA.is (by rw [zae,hfl];exact hin) fun b1 o1 hA1=>?_
   rw [zaK] at hA1
   exact zac ty3 hA1 (Ext.refl _) fun _=>k
 refine zaa zbu ?_
 refine zac ty3 (zaC hAI) hx13 fun _=>?_
 rw [hag4]
 refine hrO hF13 ?_
 refine hrA hA13 ?_
 refine zd7 (by omega) (by omega) ?_
 refine zaa zbu ?_
 refine zac ty3 (zaC hAI) hx13 fun _=>?_
 rw [hag4]
 refine hrO hF13 ?_
 refine zaN ?_
 refine br (fun hne=>?_) (fun heq=>?_)
 · have hx14:=zaj w13
   have hF14:=hF13.step hx14
   have hA14:=hA13.ext hx14
   have hLv14:=hLv13.ext hx14
   generalize World.drew1 w13=w14 at *
   refine zaa zbu ?_
   refine zac ty3 (zaC hAI) (hx13.trans hx14) fun _=>?_
   rw [hag4]
   refine zaa zbu ?_
   refine zac ty3 (zaC hAI) (hx13.trans hx14) fun _=>?_
   rw [hag4]
   refine hrO hF14 ?_
   refine hrA hA14 ?_
   refine zd7 (by omega) (by omega) ?_
   have hvl:=Nat.and_le_left (n:=zaw out11 (agN c i)) (m:=zaw (zbQ c (zcB c) p hh) i)
   refine ztS (m:=zaw out11 (agN c i) &&& zaw (zbQ c (zcB c) p hh) i) hF14 (by rw [hl11];exact hagn) (by omega) fun w15 hF15 hc15'=>?_
   refine zaf (by omega) ?_
   exact hnext hF15 (hA14.chg hc15' (by omega)) (hLv14.chg hc15' (by omega)) (hset _ fun e=>hne (by rw [e])) (fun e=>by cases e)
 refine zaf (by omega) ?_
 exact hnext hF13 hA13 hLv13 (hskip (Int.ofNat_inj.1 (Decidable.not_not.1 heq))) hz11
def F250 (a0:Value) (w:World) (R:VW):Prop:=
 cL 298 [a0] w fun x12 w=>
 cL 299 [a0,x12] w fun x15 w=>
 NIL a0 <|
 rF 180 a0 0 w fun x18=>
 rF 28 x18 4 w fun x19=>
 rL 26 x19 w fun x20=>
 rN 26 3 x20 w fun x21=>
 oP (Instr.makeSlice 25 x21 x21) w fun x22 w=>
 rN 25 3 x22 w fun x24=>
 LOOPI [25] [(iV 0)] w fun u5 w next5=>
 rC (u5 25) x24 w fun x26=>
 BR x26
 (rX 25 x22 (u5 25) w fun x30=>
 oS 3 x30 (iV 63) w fun w=>
 rA (u5 25) (iV 1) w fun x31=>
 next5 [x31] w)
 (NIL a0 <|
 rF 180 a0 6 w fun x34=>
 rL 3 x34 w fun x35=>
 cL 97 [x35] w fun x36 w=>
 rN 25 3 x36 w fun x37=>
 LOOPI [38] [(iV 0)] w fun u10 w next10=>
 rC (u10 38) x37 w fun x39=>
 BR x39
 (rX 25 x36 (u10 38) w fun x40=>
 rL 3 x40 w fun x41=>
 rX 25 x15 x41 w fun x47=>
 rL 3 x47 w fun x48=>
 cL 300 [a0,x12,x41,x48] w fun x49 w=>
 NIL a0 <|
 rF 180 a0 0 w fun x52=>
 rF 28 x52 3 w fun x53=>
 rL 25 x53 w fun x54=>
 rX 25 x54 x41 w fun x56=>
 rL 3 x56 w fun x57=>
 LOOPI [10] [x57] w fun u14 w next14=>
 NIL a0 <|
 rF 180 a0 0 w fun x61=>
 rL 28 x61 w fun x62=>
 cL 132 [x62,x41] w fun x64 w=>
 rC (u14 10) x64 w fun x65=>
 BR x65
 (rX 25 x49 (u14 10) w fun x72=>
 rL 3 x72 w fun x73=>
 rX 25 x22 (u14 10) w fun x74=>
 oS 3 x74 x73 w fun w=>
 rA (u14 10) (iV 1) w fun x67=>
 next14 [x67] w)
 (rA (u10 38) (iV 1) w fun x75=>
 next10 [x75] w))
 (R x22 w))
def cfg250:Cfg:=⟨extL,[],[(5,4261412928,[25]),(10,75557863725639445513984,[38]),(14,37778643632581009998848,[10])],[],[],[],[]⟩
theorem F250_call {a0:Value} {w:World} {R:VW} (h:F250 a0 w R):cL 250 [a0] w R:=co (g:=cfg250) Tryz.func250 (by kernel_rfl) (by kernel_rfl) (by kernel_rfl) h
def F195 (a0:Value) (w:World) (R:VW):Prop:=
 oP (Instr.box 28 a0) w fun x1 w=>
 rL 28 x1 w fun x10=>
 cL 253 [x10] w fun x11 w=>
 rL 28 x1 w fun x12=>
 cL 254 [x12,x11] w fun x14 w=>
 rL 28 x1 w fun x15=>
 cL 255 [x15] w fun x16 w=>
 rF 28 x1 4 w fun x17=>
 rL 26 x17 w fun x18=>
 rN 26 3 x18 w fun x19=>
 oP (Instr.makeSlice 25 x19 x19) w fun x20 w=>
 LOOPI [7] [(iV 0)] w fun u6 w next6=>
 rF 28 x1 2 w fun x22=>
 rL 24 x22 w fun x23=>
 rN 24 3 x23 w fun x24=>
 rC (u6 7) x24 w fun x25=>
 BR x25
 ((fun w=>rL 28 x1 w fun x28=>
 rX 25 x14 (u6 7) w fun x33=>
 rL 3 x33 w fun x34=>
 cL 256 [x28,x11,(u6 7),x34] w fun x35 w=>
 rF 28 x1 3 w fun x36=>
 rL 25 x36 w fun x37=>
 rX 25 x37 (u6 7) w fun x39=>
 rL 3 x39 w fun x40=>
 LOOPI [9] [x40] w fun u10 w next10=>
 rL 28 x1 w fun x42=>
 cL 213 [x42,(u6 7)] w fun x44 w=>
 rB .leq 3 T0 T0 (u10 9) x44 w fun x45=>
 BR x45
 (rX 25 x20 (u10 9) w fun x50=>
 oS 3 x50 (iV 63) w fun w=>
 rX 135 x16 (u6 7) w fun x53=>
 rL 4 x53 w fun x54=>
 BR x54
 (rX 25 x35 (u10 9) w fun x59=>
 rL 3 x59 w fun x60=>
 rX 25 x20 (u10 9) w fun x61=>
 oS 3 x61 x60 w fun w=>
 rA (u10 9) (iV 1) w fun x47=>
 next10 [x47] w)
 (rA (u10 9) (iV 1) w fun x47=>
 next10 [x47] w))
 (rA (u6 7) (iV 1) w fun x27=>
 next6 [x27] w)) (World.drew1 w))
 (R x20 w)
def cfg195:Cfg:=⟨extL,[],[(6,4611686018425291648,[7]),(10,4611683819404132864,[9])],[(8,[0,1,2,3,4,5,6,7,8],0)],[],[],[]⟩
theorem F195_call {a0:Value} {w:World} {R:VW} (h:F195 a0 w R):cL 195 [a0] w R:=co (g:=cfg195) Tryz.func195 (by kernel_rfl) (by kernel_rfl) (by kernel_rfl) h
open Rep (rep)
def MS (c:DCode) (out:List Nat) (D:Nat→Prop):Prop:=out.length=c.ins.length∧∀ i,i<c.ins.length→D i→zaw out i=zeT c i
theorem MS.set {c:DCode} {out:List Nat} {D D':Nat→Prop} (h:MS c out D) {i v:Nat} (hi:i<c.ins.length) (hv:v=zeT c i) (hD:∀ j,D' j→D j∨j=i):MS c (out.set i v) D':=by
 refine ⟨by simp [h.1],fun j hj hd=>?_⟩
 rw [zbF (by rw [h.1];exact hi)]
 by_cases e:i=j
 · subst e;rw [if_pos rfl];exact hv
 rw [if_neg e]
 exact h.2 j hj ((hD j hd).resolve_right fun e'=>e e'.symm)
theorem MS.mono {c:DCode} {out:List Nat} {D D':Nat→Prop} (h:MS c out D) (hD:∀ j,j<c.ins.length→D' j→D j):MS c out D':=⟨h.1,fun j hj hd=>h.2 j hj (hD j hj hd)⟩
theorem MS.fin {c:DCode} {out:List Nat} {D:Nat→Prop} (h:MS c out D) (hD:∀ j,j<c.ins.length→D j):out=zhI c:=by
 refine List.ext_getElem (by rw [h.1,zg4]) fun i h1 h2=>?_
 have hi:i<c.ins.length:=by rw [←h.1];exact h1
 rw [zaU h1,zaU h2,zsm hi,h.2 i hi (hD i hi)]
theorem zdw {c:DCode} (hc:CodeR c) {i:Nat} (hi:i<c.ins.length):∃ p,p<c.procs.length∧zar c i=p∧eN c p≤i∧i≤zN c p:=by
 obtain ⟨q,hq,h1,h2,h3⟩:=hc.f.find hc.1.procs8.2 (a:=(i:Int)) (by omega) (by omega)
 have hin:=znn hc hi hq h3
 exact ⟨q,by have:=hc.2.1.1;omega,h3,hin⟩
theorem ztT {w W0:World} {b:Nat} {c:DCode} (hW:WAt W0 b c) (e0:Ext W0 w) (hc:CodeR c) :
   CALL Tryz.prog 250 [.pointer (some ⟨b,0,none⟩)] w fun r w'=>Ext w w'∧Own w.heap.size w' r (zaI (zhI c)):=by
 refine F250_call ?_
 unfold F250
 have h8:=hc.1.procs8
 have hil:=hc.f.ins
 have hTR:=zf1 c
 refine (zpo hW e0 hc).mono ?_
 rintro v12 w1 ⟨hx1,ho1⟩
 have hs1:=hx1.size
 refine (zpp hW (e0.trans hx1) ho1.is (Ext.refl _) hc).mono ?_
 rintro v15 w2 ⟨hx2,ho2⟩
 have hs2:=hx2.size
 have hx12:=hx1.trans hx2
 have e2:=e0.trans hx12
 have hE2:=ho1.is.ext hx2
 have hB2:=ho2.is
 refine NIL.mk rfl ?_
 refine zaa za5 ?_
 refine zaa zaG ?_
 refine zab zcO (zal hW.wl.code) e2 fun v20 h20=>?_
 refine zag u26 h20 ?_
 have hn:c.ins.length=c.ins.length:=rfl
 generalize hnn:c.ins.length=n at hn
 rw [hnn] at hil
 have hz0:=(zen hc h8.2).2.2
 refine zdn (by omega) (by omega) fun w3 hx3 hM3=>?_
 have hs3:=hx3.size
 generalize hg:w2.heap.size=g at *
 have hF3:FW w2 w3 g n (fil n 0):=⟨hx3,by simpa [fil] using hM3,by omega⟩
 refine zhK u25 ?_
 refine zas n (fun k us w'=>us=[.int .i64 (k:Int)]∧k≤n∧FW w2 w' g n (fil n k)) 0 (Nat.zero_le _) ⟨rfl,Nat.zero_le _,hF3⟩ ?_
 rintro k mk u w4 hkm ⟨hu,hkl,hF4⟩
 simp only [List.map_cons,List.map_nil,List.cons.injEq,and_true] at hu
 rw [hu]
 refine zah ?_
 refine br (fun hlt=>?_) (fun hge=>?_)
 · have hk:k<n:=by omega
   refine zbv (α:=Int) rfl u25 ty3 hk ?_
   refine za0 (α:=Int) rfl ty3 hF4.mine (by rw [zae,znq hkl]) hk (zbt (v:=63) (by omega)) fun w5 hc5 hm5=>?_
   have hF5:=hF4.set (v:=63) hc5 hm5
   rw [znr hk] at hF5
   refine zaf (by omega) ?_
   exact ⟨mk-1,by omega,k+1,by omega,rfl,by omega,hF5⟩
 have hk:k=n:=by omega
 rw [hk,zli] at hF4
 have hMS:MS c (List.replicate n 63) (fun i=>¬UsedP c (zar c i).toNat):=⟨by simp [hnn],fun i hi hd=>by
   rw [←zaU (by simp;omega)]
   obtain ⟨p,_,h1,_⟩:=zdw hc hi
   have hd':¬UsedP c (zar c i).toNat:=hd
   rw [h1,Int.toNat_natCast] at hd'
   rw [zj5 (p:=p) h1 hd']
   simp⟩
 generalize List.replicate n 63=out at *
 clear hu hkm
 have hus:zdD c<256:=zaY h8.1
 refine NIL.mk rfl ?_
 refine zaa zgk ?_
 refine zac ty3 hW.used (e2.trans hF4.ext) fun _=>?_
 refine (zdt (m:=zdD c) (by omega)).mono ?_
 rintro v36 w5 ⟨hx5,ho5⟩
 unfold zdD at ho5
 rw [zdi (by omega)] at ho5
 have hF5:=hF4.step hx5
 have hg4:=hF4.lt
 have hL:∀ p,p∈zbn c.procs.length (UsedP c)↔UsedP c p:=fun p=>by rw [zaT];exact ⟨fun h=>h.2,fun h=>⟨h.lt hc,h⟩⟩
 have hLl:(zbn c.procs.length (UsedP c)).length≤8:=Nat.le_trans za6 h8.1
 generalize zbn c.procs.length (UsedP c)=L at *
 have hO5:=ho5.toI
 generalize hlo:w4.heap.size=lo at *
 generalize hhi:w5.heap.size=hi at *
 refine zag u25 ho5.is ?_
 rw [zae]
 refine zas L.length (fun k us w'=>∃ (out':List Nat),us=[.int .i64 (k:Int)]∧k≤L.length∧FW w2 w' g n out'∧OwnI lo hi w' v36 (zaI L)∧MS c out' (fun i=>¬UsedP c (zar c i).toNat∨(zar c i).toNat∈L.take k)) 0 (Nat.zero_le _) ⟨out,rfl,Nat.zero_le _,hF5,hO5,hMS.mono fun j _ h=>h.elim id fun h=>by simp at h⟩ ?_
 rintro k mk u w8 hkm ⟨out8,hu,hkl,hF8,hO8,hS8⟩
 simp only [List.map_cons,List.map_nil,List.cons.injEq,and_true] at hu
 rw [hu]
 refine zah ?_
 refine br (fun hlt=>?_) (fun hge=>?_)
 case refine_2=>
   rw [hS8.fin fun j hj=>by
     by_cases hu:UsedP c (zar c j).toNat
     · exact .inr (by rw [List.take_of_length_le (by omega)];exact (hL _).2 hu)
     exact .inl hu] at hF8
   exact ⟨hx12.trans hF8.ext,hF8.own.mono (by omega)⟩
 have hk:k<L.length:=by omega
 refine zad u25 ty3 (i:=k) hO8.is (by rw [zae];exact hk) fun b2 o2 hA2=>?_
 rw [zaM] at hA2
 refine zac ty3 hA2 (Ext.refl _) fun _=>?_
 have htk:=fun x=>zbe hk (x:=x)
 have hup:=(hL L[k]).1 (List.getElem_mem hk)
 generalize L[k]=p at *
 have hpn:=hup.lt hc
 have hpe:p<c.entry.length:=by rw [hc.2.1.1];exact hpn
 have e8:=e2.trans hF8.ext
 refine zad u25 ty3 (i:=p) hB2 (by rw [zae,zio];exact hpn) fun b3 o3 hA3=>?_
 rw [zaK,zno hpn] at hA3
 refine zac ty3 hA3 hF8.ext fun _=>?_
 refine (zns hW.wl e8 hE2 hF8.ext hc hTR hpn (h:=zow c p) zlc).mono ?_
 rintro v49 w9 ⟨hx9,ho9⟩
 have hF9:=hF8.step hx9
 have hO9:=hO8.ext hx9
 have hg8:=hF8.lt
 have hA9:=ho9.toI
 have e9:=e2.trans hF9.ext
 generalize hl8':w8.heap.size=lo8 at *
 generalize hl9:w9.heap.size=lo9 at *
 obtain ⟨he1,he2,he3⟩:=zfp hc hpe
 obtain ⟨hz1,hz2,hz3⟩:=zen hc hpn
 obtain ⟨_,hez,_⟩:=zjE hc hpe
 have hval:∀ i,eN c p≤i→i≤zN c p→zaw (zbQ c (zcB c) p (zow c p)) i=zeT c i:=fun i h1 h2=>(zjn (zle hc hpe h1 h2) hup).symm
 have hin:∀ i,i<c.ins.length→(zar c i).toNat=p→eN c p≤i∧i≤zN c p:=fun i hi h=>by
   obtain ⟨q,hq,h1,h2⟩:=zdw hc hi
   have:q=p:=by rw [h1,Int.toNat_natCast] at h;exact h
   subst this;exact h2
 have hfl:(zbQ c (zcB c) p (zow c p)).length=c.ins.length:=zdu _ _ _ _
 have hf64:=zg1 (c:=c) (T:=zcB c) (p:=p) (h:=zow c p)
 generalize zbQ c (zcB c) p (zow c p)=fl at *
 refine NIL.mk rfl ?_
 refine zaa za5 ?_
 refine zaa za1 ?_
 refine zab zcN (zaq hW.wl.code) e9 fun v54 h54=>?_
 refine zad u25 ty3 h54 hpe fun b5 o5 hA5=>?_
 rw [zbh hpe,he1] at hA5
 refine zac ty3 hA5 e9 fun _=>?_
 generalize hE:eN c p=E at *
 generalize hZ:zN c p=Z at *
 refine zas (Z+1-E) (fun j us w'=>∃ (out':List Nat),us=[.int .i64 ((E+j:Nat):Int)]∧E+j≤Z+1∧FW w2 w' g n out'∧OwnI lo hi w' v36 (zaI L)∧OwnI lo8 lo9 w' v49 (zaI fl)∧MS c out' (fun i=>¬UsedP c (zar c i).toNat∨(zar c i).toNat∈L.take k∨(E≤i∧i<E+j))) 0 (Nat.zero_le _) ⟨out8,rfl,by omega,hF9,hO9,hA9,hS8.mono fun i _ h=>h.imp id fun h=>h.resolve_right fun h=>by omega⟩ ?_
 rintro j mj u w11 hjm ⟨out11,hu,hjl,hF11,hO11,hA11,hS11⟩
 simp only [List.map_cons,List.map_nil,List.cons.injEq,and_true] at hu
 rw [hu]
 have e11:=e2.trans hF11.ext
 refine NIL.mk rfl ?_
 refine zaa za5 ?_
 refine zab zbm hW.wl.code e11 fun v62 h62=>?_
 refine (zdq h62 e11 (by omega)).mono ?_
 rintro _ w12 ⟨hx12',rfl⟩
 rw [hz1]
 have hF12:=hF11.step hx12'
 have hO12:=hO11.ext hx12'
 have hA12:=hA11.ext hx12'
 refine zah ?_
 refine br (fun hlt=>?_) (fun hge=>?_)
 case refine_2=>
   refine zaf (by omega) ?_
   refine ⟨mk-1,by omega,k+1,by omega,out11,rfl,by omega,hF12,hO12,hS11.mono fun i hi h=>?_⟩
   rcases h with h | h
   · exact .inl h
   rcases (htk _).1 h with h | h
   · exact .inr (.inl h)
   have:=hin i hi h
   exact .inr (.inr (by omega))
 have hij:E+j<n:=by omega
 have hv:=hval (E+j) (by omega) (by omega)
 have hv64:=zdC hf64 (E+j)
 refine zad u25 ty3 (i:=E+j) hA12.is (by rw [zae,hfl,hnn];exact hij) fun b6 o6 hA6=>?_
 rw [zaK] at hA6
 refine zac ty3 hA6 (Ext.refl _) fun _=>?_
 refine zbv (α:=Int) rfl u25 ty3 hij ?_
 refine za0 (α:=Int) rfl ty3 hF12.mine (by rw [zae,hS11.1,hnn]) hij (zbt (v:=zaw fl (E+j)) (by omega)) fun w13 hc13 hm13=>?_
 have hF13:=hF12.set (v:=zaw fl (E+j)) hc13 hm13
 have hc13':=zd8 hc13
 refine zaf (by omega) ?_
 refine ⟨mj-1,by omega,j+1,by omega,_,rfl,by omega,hF13,hO12.chg hc13' (by omega),hA12.chg hc13' (by omega),hS11.set (by rw [hnn];exact hij) hv fun i h=>?_⟩
 by_cases e:i=E+j
 · exact .inr e
 exact .inl (h.imp id fun h=>h.imp id fun h=>by omega)
theorem zpq {w W0:World} {v0:Value} {c:DCode} (h0:Is W0 v0 c) (e0:Ext W0 w) (hc:CodeR c) :
   CALL Tryz.prog 195 [v0] w fun r w'=>Ext w w'∧Own w.heap.size w' r (zaI (zhI c)):=by
 refine F195_call ?_
 unfold F195
 have h8:=hc.1.procs8
 have hil:=hc.f.ins
 have hTR:=zf1 c
 refine zaV h0 e0 fun w0 hx0 hA=>?_
 have hs0:=hx0.size
 refine zab zbm hA (Ext.refl _) fun v10 h10=>?_
 refine (zlj h10 (Ext.refl _) hc).mono ?_
 rintro v12 w1 ⟨hx1,ho1⟩
 have hs1:=hx1.size
 refine zab zbm hA hx1 fun v11 h11=>?_
 refine (zlk h11 hx1 ho1.is (Ext.refl _) hc).mono ?_
 rintro v15 w1b ⟨hx1b,ho1b⟩
 have hs1b:=hx1b.size
 refine zab zbm hA (hx1.trans hx1b) fun v16 h16=>?_
 refine (zf2 h16 (hx1.trans hx1b) hc).mono ?_
 rintro v17 w2 ⟨hx2,ho2⟩
 have hs2:=hx2.size
 have hx12:=hx1.trans (hx1b.trans hx2)
 have hE2:=ho1.is.ext (hx1b.trans hx2)
 have hB2:=ho1b.is.ext hx2
 have hU2:=ho2.is
 refine zaa zaG ?_
 refine zab zcO (zal hA) hx12 fun v20 h20=>?_
 refine zag u26 h20 ?_
 have hn:c.ins.length=c.ins.length:=rfl
 generalize hnn:c.ins.length=n at hn
 rw [hnn] at hil
 have hz0:=(zen hc h8.2).2.2
 refine zdn (by omega) (by omega) fun w3 hx3 hM3=>?_
 have hs3:=hx3.size
 generalize hg:w2.heap.size=g at *
 have hF3:FW w2 w3 g n (List.replicate n 0):=⟨hx3,hM3,by omega⟩
 refine zas c.procs.length (fun k us w'=>∃ (out':List Nat),us=[.int .i64 (k:Int)]∧k≤c.procs.length∧FW w2 w' g n out'∧MS c out' (fun i=>(zar c i).toNat<k)) 0 (Nat.zero_le _) ⟨_,rfl,Nat.zero_le _,hF3,by simp [hnn],fun i _ h=>by omega⟩ ?_
 rintro p mk u w8 hkm ⟨out8,hu,hkl,hF8,hS8⟩
 simp only [List.map_cons,List.map_nil,List.cons.injEq,and_true] at hu
 rw [hu]
 have e8:=hx12.trans hF8.ext
 refine zaa zbb ?_
 refine zab zcj (zat hA) e8 fun v23 h23=>?_
 refine zag u24 h23 ?_
 refine zah ?_
 refine br (fun hlt=>?_) (fun hge=>?_)
 case refine_2=>
   rw [hS8.fin fun j hj=>by obtain ⟨q,hq,h1,_⟩:=zdw hc hj;rw [h1,Int.toNat_natCast];omega] at hF8
   exact ⟨hx0.trans (hx12.trans hF8.ext),hF8.own.mono (by omega)⟩
 have hpn:p<c.procs.length:=by omega
 have hpe:p<c.entry.length:=by rw [hc.2.1.1];exact hpn
 have hxd:=zaj w8
 have hF8d:=hF8.step hxd
 have e8d:=e8.trans hxd
 generalize World.drew1 w8=w8d at *
 refine zab zbm hA e8d fun v28 h28=>?_
 refine zad u25 ty3 (i:=p) hB2 (by rw [zae,zio];exact hpn) fun b3 o3 hA3=>?_
 rw [zaK,zno hpn] at hA3
 refine zac ty3 hA3 hF8d.ext fun _=>?_
 refine (zhL h28 e8d hE2 hF8d.ext hc hTR hpn (h:=zow c p) zlc).mono ?_
 rintro v49 w9 ⟨hx9,ho9⟩
 have hF9:=hF8d.step hx9
 have hg8:=hF8d.lt
 have hA9:=ho9.toI
 have e9:=hx12.trans hF9.ext
 generalize hl8':w8d.heap.size=lo8 at *
 generalize hl9:w9.heap.size=lo9 at *
 obtain ⟨he1,he2,he3⟩:=zfp hc hpe
 obtain ⟨hz1,hz2,hz3⟩:=zen hc hpn
 obtain ⟨_,hez,_⟩:=zjE hc hpe
 have hval:UsedP c p→∀ i,eN c p≤i→i≤zN c p→zaw (zbQ c (zcB c) p (zow c p)) i=zeT c i:=fun hu i h1 h2=>(zjn (zle hc hpe h1 h2) hu).symm
 have hval2:¬UsedP c p→∀ i,eN c p≤i→i≤zN c p→63=zeT c i:=fun hu i h1 h2=>(zj5 (zle hc hpe h1 h2) hu).symm
 have hin:∀ i,i<c.ins.length→(zar c i).toNat=p→eN c p≤i∧i≤zN c p:=fun i hi h=>by
   obtain ⟨q,hq,h1,h2⟩:=zdw hc hi
   have:q=p:=by rw [h1,Int.toNat_natCast] at h;exact h
   subst this;exact h2
 have hfl:(zbQ c (zcB c) p (zow c p)).length=c.ins.length:=zdu _ _ _ _
 have hf64:=zg1 (c:=c) (T:=zcB c) (p:=p) (h:=zow c p)
 generalize zbQ c (zcB c) p (zow c p)=fl at *
 refine zaa za1 ?_
 refine zab zcN (zaq hA) e9 fun v37 h37=>?_
 refine zad u25 ty3 h37 hpe fun b5 o5 hA5=>?_
 rw [zbh hpe,he1] at hA5
 refine zac ty3 hA5 e9 fun _=>?_
 generalize hE:eN c p=E at *
 generalize hZ:zN c p=Z at *
 refine zas (Z+1-E) (fun j us w'=>∃ (out':List Nat),us=[.int .i64 ((E+j:Nat):Int)]∧E+j≤Z+1∧FW w2 w' g n out'∧OwnI lo8 lo9 w' v49 (zaI fl)∧MS c out' (fun i=>(zar c i).toNat<p∨(E≤i∧i<E+j))) 0 (Nat.zero_le _) ⟨out8,rfl,by omega,hF9,hA9,hS8.mono fun i _ h=>h.resolve_right fun h=>by omega⟩ ?_
 rintro j mj u w11 hjm ⟨out11,hu,hjl,hF11,hA11,hS11⟩
 simp only [List.map_cons,List.map_nil,List.cons.injEq,and_true] at hu
 rw [hu]
 have e11:=hx12.trans hF11.ext
 refine zab zbm hA e11 fun v42 h42=>?_
 refine (zd2 h42 e11 (p:=(p:Int)) (by omega) (by omega) hc.2.1.nonneg).mono ?_
 rintro _ w12 ⟨hx12',rfl⟩
 rw [hz2]
 have hF12:=hF11.step hx12'
 have hA12:=hA11.ext hx12'
 refine zcT ?_
 refine br (fun hlt=>?_) (fun hge=>?_)
 case refine_2=>
   refine zaf (by omega) ?_
   refine ⟨mk-1,by omega,p+1,by omega,out11,rfl,by omega,hF12,hS11.mono fun i hi h=>?_⟩
   by_cases e:(zar c i).toNat=p
   · have:=hin i hi e
     exact .inr (by omega)
   exact .inl (by omega)
 have hij:E+j<n:=by omega
 refine zbv (α:=Int) rfl u25 ty3 hij ?_
 refine za0 (α:=Int) rfl ty3 hF12.mine (by rw [zae,hS11.1,hnn]) hij (zbt (v:=63) (by omega)) fun w13 hc13 hm13=>?_
 have hF13:=hF12.set (v:=63) hc13 hm13
 have hc13':=zd8 hc13
 have hA13:=hA12.chg hc13' (by omega)
 refine zad zcX ty4 (i:=p) hU2 (by rw [zam];exact hpn) fun b7 o7 hA7=>?_
 refine zaz ty4 hA7 hF13.ext ?_
 have hmk:=zaH (n:=c.procs.length) (p:=UsedP c) (i:=p)
 rw [zaO (by rw [zam];exact hpn)] at hmk
 have hD:∀ i:Nat,((zar c i).toNat<p∨(E≤i∧i<E+(j+1)))→((zar c i).toNat<p∨(E≤i∧i<E+j))∨i=E+j:=fun i h=>by
   by_cases e:i=E+j
   · exact .inr e
   exact .inl (h.imp id fun h=>by omega)
 refine zbw (fun hf=>?_) (fun hf=>?_)
 · have hv:=hval (hmk.1 hf).2 (E+j) (by omega) (by omega)
   have hv64:=zdC hf64 (E+j)
   refine zad u25 ty3 (i:=E+j) hA13.is (by rw [zae,hfl,hnn];exact hij) fun b6 o6 hA6=>?_
   rw [zaK] at hA6
   refine zac ty3 hA6 (Ext.refl _) fun _=>?_
   refine zbv (α:=Int) rfl u25 ty3 hij ?_
   refine za0 (α:=Int) rfl ty3 hF13.mine (by rw [zae,List.length_set,hS11.1,hnn]) hij (zbt (v:=zaw fl (E+j)) (by omega)) fun w14 hc14 hm14=>?_
   have hF14:=hF13.set (v:=zaw fl (E+j)) hc14 hm14
   have hc14':=zd8 hc14
   rw [List.set_set] at hF14
   refine zaf (by omega) ?_
   exact ⟨mj-1,by omega,j+1,by omega,_,rfl,by omega,hF14,hA13.chg hc14' (by omega),hS11.set (by rw [hnn];exact hij) hv hD⟩
 have hv:=hval2 (fun h=>by rw [hmk.2 ⟨hpn,h⟩] at hf;cases hf) (E+j) (by omega) (by omega)
 refine zaf (by omega) ?_
 exact ⟨mj-1,by omega,j+1,by omega,_,rfl,by omega,hF13,hA13,hS11.set (by rw [hnn];exact hij) hv hD⟩
def MC (c:DCode) (ms:List Bool) (i:Nat):Prop:=
 ((zak c i).op=4→mkd ms (eN c (agN c i))∧(mkd ms (zN c (agN c i))→∀ j∈zax c i,mkd ms j))∧(¬(zak c i).op=4→∀ j∈zax c i,mkd ms j)
structure TP (c:DCode) (ms0:List Bool) (ag:Bool) (ms:List Bool) (k:Nat):Prop where
 len:ms.length=c.ins.length
 snd:∀ i,mkd ms i→MetP c i
 root:∀ p,RootP c p→mkd ms (eN c p)
 yes:ag=true→zik ms0<zik ms
 no:ag=false→ms=ms0∧∀ i,i<k→mkd ms0 i→MC c ms0 i
theorem zeo {ms:List Bool} {i j:Nat} (h:mkd ms j):mkd (ms.set i true) j:=by
 have hl:=zoo h
 by_cases hi:i<ms.length
 · exact (zcw hi).2 (.inl h)
 rw [List.set_eq_of_length_le (by omega)];exact h
theorem zjq {ms:List Bool} {i:Nat} (h:mkd ms i):ms.set i true=ms:=by
 have hl:=zoo h
 rw [zaO hl] at h
 rw [←h];exact List.set_getElem_self hl
def zuj (ms:List Bool) (i:Nat) (ag:Bool):Bool:=ag || !ms.getD i false
theorem zoC {ms:List Bool} {i:Nat} {ag:Bool} (h:mkd ms i):zuj ms i ag=ag:=by
 unfold mkd at h;unfold zuj;rw [h];simp
theorem zoD {ms:List Bool} {i:Nat} {ag:Bool} (h:¬mkd ms i):zuj ms i ag=true:=by
 unfold mkd at h;unfold zuj;rw [Bool.not_eq_true] at h;rw [h];simp
theorem TP.meet {c:DCode} {ms0 ms:List Bool} {ag:Bool} {k i:Nat} (h:TP c ms0 ag ms k) (hi:i<c.ins.length) (hm:MetP c i):TP c ms0 (zuj ms i ag) (ms.set i true) k:=by
 by_cases hk:mkd ms i
 · rw [zoC hk,zjq hk];exact h
 rw [zoD hk]
 have hc:=zgZ (by rw [h.len];exact hi) hk
 refine ⟨by simp [h.len],fun j hj=>?_,fun p hp=>zeo (h.root p hp),fun _=>?_,fun e=>by cases e⟩
 · rcases (zcw (by rw [h.len];exact hi)).1 hj with h1 | h1
   · exact h.snd j h1
   rw [h1];exact hm
 cases ag with
 | true=>have:=h.yes rfl;omega
 | false=>rw [←(h.no rfl).1];omega
theorem TP.next {c:DCode} {ms0 ms:List Bool} {ag:Bool} {k:Nat} (h:TP c ms0 ag ms k) (hk:mkd ms k→MC c ms k):TP c ms0 ag ms (k+1):=
 ⟨h.len,h.snd,h.root,h.yes,fun e=>⟨(h.no e).1,fun i hi hm=>by
   by_cases e2:i=k
   · subst e2;rw [(h.no e).1] at hk;exact hk hm
   exact (h.no e).2 i (by omega) hm⟩⟩
theorem TP.fin {c:DCode} (hc:CodeR c) {ms0 ms:List Bool} (h:TP c ms0 false ms c.ins.length):ms=zox c:=by
 obtain ⟨h1,h2⟩:=h.no rfl
 refine zcc h.len fun i hi=>⟨h.snd i,fun hm=>?_⟩
 have hC:MetC c (mkd ms):=⟨h.root,fun i hi ho=>?_,fun i j hi ho hj=>?_,fun i j hi ho hz hj=>?_⟩
 · exact hC.all hm
 all_goals
   have hil:=zoo hi
   rw [h.len] at hil
   have:=h2 i hil (by rw [←h1];exact hi)
   rw [←h1] at this
 · exact (this.1 ho).1
 · exact this.2 ho j hj
 exact (this.1 ho).2 hz j hj
theorem TP.again {c:DCode} {ms0 ms:List Bool} {ag:Bool} {k:Nat} (h:TP c ms0 ag ms k):TP c ms false ms 0:=
 ⟨h.len,h.snd,h.root,fun e=>(by cases e),fun _=>⟨rfl,fun i hi=>by omega⟩⟩
def zjz (m n:Nat):Prop:=∀ l,l<6→m.testBit l=true→n.testBit l=true
def HC (c:DCode) (out:List Nat) (i:Nat):Prop:=
 ((zak c i).op=4→zjz (zaw out i) (zaw out (eN c (agN c i)))∧(MetP c (zN c (agN c i))→∀ j∈zax c i,zjz (zaw out (zN c (agN c i))) (zaw out j)))∧(¬(zak c i).op=4→∀ j∈zax c i,zjz (aft c [] i (zaw out i)) (zaw out j))
structure HP (c:DCode) (out0:List Nat) (ag:Bool) (out:List Nat) (k:Nat):Prop where
 len:out.length=c.ins.length
 lt:∀ x∈out,x<64
 snd:∀ i l,i<c.ins.length→(zaw out i).testBit l=true→MayP c i l∧MetP c i
 yes:ag=true→out0.sum<out.sum
 no:ag=false→out=out0∧∀ i,i<k→MetP c i→HC c out0 i
theorem HP.lt0 {c:DCode} {out0 out:List Nat} {ag:Bool} {k:Nat} (h:HP c out0 ag out k) (i:Nat):zaw out i<64:=zdC h.lt i
theorem zq8 {m n:Nat} (h:n ||| m=n):zjz m n:=fun l _ hb=>by
 rw [←h,Nat.testBit_or,hb];simp
theorem zuT {m n:Nat}:zjz m (n ||| m):=fun l _ hb=>by rw [Nat.testBit_or,hb];simp
theorem znt {m n k:Nat} (h:zjz k n):zjz k (n ||| m):=fun l hl hb=>by rw [Nat.testBit_or,h l hl hb];rfl
theorem znu {m n:Nat} (hm:m<64) (hn:n<64):n ||| m<64:=Nat.or_lt_two_pow (n:=6) hn hm
theorem zsr {m n:Nat} (h:¬n ||| m=n):n<n ||| m:=by
 have:n≤n ||| m:=Nat.left_le_or
 omega
theorem HP.add {c:DCode} {out0 out:List Nat} {ag:Bool} {k i m:Nat} (h:HP c out0 ag out k) (hi:i<c.ins.length) (hm:m<64) (hmet:MetP c i) (hmay:∀ l,l<6→m.testBit l=true→MayP c i l) (hn:¬zjz m (zaw out i)):HP c out0 true (out.set i (zaw out i ||| m)) k:=by
 have h64:=h.lt0 i
 refine ⟨by simp [h.len],fun x hx=>?_,fun j l hj hb=>?_,fun _=>?_,fun e=>by cases e⟩
 · rcases zgu hx with rfl | hx
   · exact znu hm h64
   exact h.lt x hx
 · rw [zbF (by rw [h.len];exact hi)] at hb
   split at hb
   · rename_i e
     subst e
     rw [Nat.testBit_or,Bool.or_eq_true] at hb
     rcases hb with hb | hb
     · exact h.snd i l hj hb
     exact ⟨hmay l (zhF hm hb) hb,hmet⟩
   exact h.snd j l hj hb
 have h1:=zhG (l:=out) (i:=i) (v:=zaw out i ||| m) (by rw [h.len];exact hi)
 have h2:=zsr (m:=m) (n:=zaw out i) fun e=>hn (zq8 e)
 cases ag with
 | true=>have:=h.yes rfl;omega
 | false=>rw [←(h.no rfl).1];omega
theorem HP.next {c:DCode} {out0 out:List Nat} {ag:Bool} {k:Nat} (h:HP c out0 ag out k) (hk:ag=false→MetP c k→HC c out k):HP c out0 ag out (k+1):=
 ⟨h.len,h.lt,h.snd,h.yes,fun e=>⟨(h.no e).1,fun i hi hm=>by
   by_cases e2:i=k
   · subst e2
     have:=hk e hm
     rw [(h.no e).1] at this
     exact this
   exact (h.no e).2 i (by omega) hm⟩⟩
theorem zll {c:DCode} {i m l:Nat} (h4:¬(zak c i).op=4):(aft c [] i m).testBit l=true↔¬((zak c i).op=7∧agN c i=l)∧(((zak c i).op=6∧agN c i=l)∨m.testBit l=true):=by
 rw [←Bool.not_eq_false,zjm]
 unfold zuQ zqU
 have e4:((zak c i).op=4)=False:=eq_false h4
 simp only [e4,false_and,or_false,not_false_eq_true,and_true,not_or,not_and,Bool.not_eq_false]
 constructor
 · rintro ⟨h1,h2⟩
   refine ⟨h1,?_⟩
   by_cases e:(zak c i).op=6∧agN c i=l
   · exact .inl e
   exact .inr (h2 fun a b=>e ⟨a,b⟩)
 rintro ⟨h1,h2⟩
 refine ⟨h1,fun h3=>?_⟩
 rcases h2 with h2 | h2
 · exact absurd h2.2 (h3 h2.1)
 exact h2
theorem ztU {c:DCode} {i j m l:Nat} (h4:¬(zak c i).op=4) (hm:MetP c i) (hj:j∈zax c i) (hmay:m.testBit l=true→MayP c i l) (hb:(aft c [] i m).testBit l=true):MayP c j l:=by
 obtain ⟨h1,h2⟩:=(zll h4).1 hb
 rcases h2 with h2 | h2
 · exact .lock hm h2.1 h2.2 hj
 exact .pass hm h4 h1 (hmay h2) hj
theorem HC.may {c:DCode} {out:List Nat} (hc:CodeR c) (h:∀ i,MetP c i→HC c out i):MayC c fun i l=>(zaw out i).testBit l=true:=by
 refine ⟨fun i j hm ho hj=>?_,fun i j l hm hl ho ha hb hj=>?_,fun i l hm hl ho hb=>?_,fun i j l hm hl ho hz hb hj=>?_⟩
 · have ha:=zfi hc (hm.lt hc) (.inl ho)
   exact (h i hm).2 (by omega) j hj _ ha.2.2 ((zll (by omega)).2 ⟨fun h=>by omega,.inl ⟨ho,rfl⟩⟩)
 · exact (h i hm).2 ho j hj l hl ((zll ho).2 ⟨ha,.inr hb⟩)
 · exact ((h i hm).1 ho).1 l hl hb
 exact ((h i hm).1 ho).2 hz j hj l hl hb
theorem ztV {c:DCode} (hc:CodeR c) {out:List Nat} (hlen:out.length=c.ins.length) (hlt:∀ x∈out,x<64) (hs:∀ i l,i<c.ins.length→(zaw out i).testBit l=true→MayP c i l) (h:∀ i,MetP c i→HC c out i):out=zs2 c:=by
 have hC:=HC.may hc h
 refine List.ext_getElem (by rw [hlen,zoy]) fun i h1 h2=>?_
 have hi:i<c.ins.length:=by rw [←hlen];exact h1
 rw [zaU h1,zaU h2,ztR hi]
 exact zqS (zdC hlt i) fun l hl=>⟨hs i l hi,fun hm=>hC.all hl hm⟩
theorem HP.start {c:DCode}:HP c (List.replicate c.ins.length 0) false (List.replicate c.ins.length 0) 0:=
 ⟨by simp,fun x hx=>by rw [(List.mem_replicate.1 hx).2];omega,fun i l hi hb=>by rw [←zaU (by simp;exact hi)] at hb;simp at hb,fun e=>(by cases e),fun _=>⟨rfl,fun i hi=>by omega⟩⟩
end Go.Proofs.YtbnjpfjjmhodnaaGreat
namespace Go.Sh
open Rep (rep)
theorem ChgI.one {w w':World} {g:Nat} (h:ChgI g (g+1) w w'):Chg [g] w w':=⟨h.os,h.tape,h.output,h.size,fun b hb hn=>h.block b hb (by simp at hn;omega)⟩
theorem OwnI.chgF {α:Type} [Rep α] {w w':World} {lo hi:Nat} {v:Value} {x:α} {F:List Nat} (h:OwnI lo hi w v x) (hc:Chg F w w') (hd:∀ b∈F,b<lo∨hi≤b):OwnI lo hi w' v x:=by
 obtain ⟨G,hm,hG⟩:=h
 exact ⟨G,hm.keep fun b hb=>hc.block b (hm.lt b hb) fun hF=>by have:=hG b hb;have:=hd b hF;omega,hG⟩
theorem Blk.chgF {w w':World} {g e:Nat} {cs:List Value} {F:List Nat} (h:Blk g e w cs) (hc:Chg F w w') (hd:g∉F):Blk g e w' cs:=h.keep (hc.block g h.lt hd)
theorem Ext.chgF {w0 w w':World} {F:List Nat} (h:Ext w0 w) (hc:Chg F w w') (hd:∀ b∈F,w0.heap.size≤b):Ext w0 w':=
 ⟨hc.os.trans h.os,hc.tape.trans h.tape,hc.output.trans h.output,Nat.le_trans h.size hc.size,fun b hb=>(hc.block b (Nat.lt_of_lt_of_le hb h.size) fun hF=>by have:=hd b hF;omega).trans (h.block b hb)⟩
end Go.Sh
namespace Go.Proofs.YtbnjpfjjmhodnaaGreat
open Go Go.Sh Go.Proofs
open Rep (rep)
def F188 (a0 a1 a2:Value) (w:World) (R:VW):Prop:=
 rL 135 a1 w fun x4=>
 rX 135 x4 a0 w fun x6=>
 rL 4 x6 w fun x7=>
 rD (Op.unary .not x7) w fun x8=>
 BR x8
 (rL 135 a1 w fun x9=>
 rX 135 x9 a0 w fun x11=>
 oS 4 x11 (Value.bool true) w fun w=>
 oS 4 a2 (Value.bool true) w fun w=>
 R (Value.tuple #[]) w)
 (R (Value.tuple #[]) w)
def cfg188:Cfg:=⟨extL,[],[],[],[],[],[]⟩
theorem F188_call {a0 a1 a2:Value} {w:World} {R:VW} (h:F188 a0 a1 a2 w R):cL 188 [a0,a1,a2] w R:=co (g:=cfg188) Tryz.func188 (by kernel_rfl) (by kernel_rfl) (by kernel_rfl) h
def F119 (a0:Value) (w:World) (R:VW):Prop:=
 NIL a0 <|
 rF 180 a0 0 w fun x14=>
 rF 28 x14 4 w fun x15=>
 rL 26 x15 w fun x16=>
 rN 26 3 x16 w fun x17=>
 oP (Instr.makeSlice 135 x17 x17) w fun x18 w=>
 oP (Instr.alloc 135 true (.tuple #[])) w fun x3 w=>
 oS 135 x3 x18 w fun w=>
 NIL a0 <|
 rF 180 a0 5 w fun x21=>
 rL 3 x21 w fun x22=>
 cL 97 [x22] w fun x23 w=>
 rN 25 3 x23 w fun x24=>
 LOOPI [25] [(iV 0)] w fun u3 w next3=>
 rC (u3 25) x24 w fun x26=>
 BR x26
 (rX 25 x23 (u3 25) w fun x27=>
 rL 3 x27 w fun x28=>
 (fun w=>rL 135 x3 w fun x29=>
 NIL a0 <|
 rF 180 a0 0 w fun x32=>
 rF 28 x32 3 w fun x33=>
 rL 25 x33 w fun x34=>
 rX 25 x34 x28 w fun x36=>
 rL 3 x36 w fun x37=>
 rX 135 x29 x37 w fun x38=>
 oS 4 x38 (Value.bool true) w fun w=>
 rA (u3 25) (iV 1) w fun x39=>
 next3 [x39] w) (World.drew1 w))
 (oP (Instr.alloc 4 true (.tuple #[])) w fun x6 w=>
 oS 4 x6 (Value.bool true) w fun w=>
 LOOPI [6] [x6] w fun u8 w next8=>
 rL 4 (u8 6) w fun x40=>
 BR x40
 (oS 4 (u8 6) (Value.bool false) w fun w=>
 rD (Instr.makeFunc (Go.Fn.func 188) [].toArray [x3,(u8 6)].toArray) w fun x41=>
 NIL a0 <|
 rF 180 a0 0 w fun x44=>
 rF 28 x44 4 w fun x45=>
 rL 26 x45 w fun x46=>
 rN 26 3 x46 w fun x47=>
 LOOPI [48] [(iV 0)] w fun u12 w next12=>
 rC (u12 48) x47 w fun x49=>
 BR x49
 (rX 26 x46 (u12 48) w fun x51=>
 rL 77 x51 w fun x52=>
 oP (Instr.alloc 77 true (.tuple #[])) w fun x9 w=>
 oS 77 x9 x52 w fun w=>
 rL 135 x3 w fun x53=>
 rX 135 x53 (u12 48) w fun x55=>
 rL 4 x55 w fun x56=>
 rD (Op.unary .not x56) w fun x57=>
 BR x57
 (rA (u12 48) (iV 1) w fun x96=>
 next12 [x96] w)
 (JOIN [] (fun J18=>
 rF 77 x9 0 w fun x58=>
 rL 3 x58 w fun x59=>
 rB .eql 3 T0 U0 x59 (iV 4) w fun x60=>
 BR x60
 ((fun w=>NIL a0 <|
 rF 180 a0 0 w fun x64=>
 rF 28 x64 3 w fun x65=>
 rL 25 x65 w fun x66=>
 rF 77 x9 1 w fun x67=>
 rL 3 x67 w fun x68=>
 rX 25 x66 x68 w fun x69=>
 rL 3 x69 w fun x70=>
 OPN tp (zlz x41 [x70]) w fun x71 w=>
 (fun w=>rL 135 x3 w fun x72=>
 NIL a0 <|
 rF 180 a0 0 w fun x75=>
 rL 28 x75 w fun x76=>
 rF 77 x9 1 w fun x77=>
 rL 3 x77 w fun x78=>
 (fun w_=>cL 132 [x76,x78] w_ fun x79 w=>
 Ext w_ w ∧
 rB .sub 3 T0 U0 x79 (iV 1) w fun x80=>
 rX 135 x72 x80 w fun x81=>
 rL 4 x81 w fun x82=>
 rD (Op.unary .not x82) w fun x83=>
 BR x83
 (rA (u12 48) (iV 1) w fun x96=>
 next12 [x96] w)
 (J18 [] w)) w) (World.drew1 w)) (World.drew1 w))
 (J18 [] w)) (fun u18 w=>
 cL 187 [a0,(u12 48)] w fun x86 w=>
 rN 25 3 x86 w fun x87=>
 LOOPI [88] [(iV 0)] w fun u19 w next19=>
 rC (u19 88) x87 w fun x89=>
 BR x89
 (rX 25 x86 (u19 88) w fun x90=>
 rL 3 x90 w fun x91=>
 OPN tp (zlz x41 [x91]) w fun x94 w=>
 rA (u19 88) (iV 1) w fun x95=>
 next19 [x95] w)
 (rA (u12 48) (iV 1) w fun x96=>
 next12 [x96] w))))
 (rL 4 (u8 6) w fun x97=>
 oP (Instr.alloc 4 true (.tuple #[])) w fun x6 w=>
 oS 4 x6 x97 w fun w=>
 next8 [x6] w))
 (rL 135 x3 w fun x98=>
 R x98 w))
def cfg119:Cfg:=⟨extL,[(18,19342812825603690643587072,[])],[(3,1099478073376,[25]),(8,316912650057057349274664176576,[6]),(12,158456325028528393712111192832,[48]),(19,78918677504442992524819171328,[88])],[(5,[0,1,2,3,4,5,6,7,8,9,10],0),(16,[0,1,2,3,4,5,6,7,8,9,10],0),(17,[0,1,2,3,4,5,6,7,8,9,10,11],128)],[],[],[]⟩
theorem F119_call {a0:Value} {w:World} {R:VW} (h:F119 a0 w R):cL 119 [a0] w R:=co (g:=cfg119) Tryz.func119 (by kernel_rfl) (by kernel_rfl) (by kernel_rfl) h
open Rep (rep)
theorem zs4 {P:Program} {f:Nat} {args caps:List Value} {w:World} {K:Value→World→Prop} (hE:zex P f=true) (h:CALL P f (args++caps) w K):OPN P (zlz (.func (.func f) #[] caps.toArray) args) w K:=by
 obtain ⟨h⟩:=h
 refine .enter f (args++caps).toArray w ?_ h
 simp [zlz,Deferred.ofValue,invoke,zft hE]
theorem zs5:zex Tryz.prog 188=true:=by kernel_rfl
theorem zvF:zcJ Tryz.prog 135=some [.slice none 0 0]:=by kernel_rfl
theorem zcH {w:World} {lo hi:Nat} {u:Value} (h:u.oneCell'=true):OwnI lo hi w u (⟨u⟩:Raw):=⟨[],⟨⟨[u],⟨rfl,rfl,h⟩,rfl⟩,List.nodup_nil,Wr.nil _⟩,by simp⟩
theorem znv {t by_:Nat} {z u:Value} {w:World} {K:Value→World→Prop} (hz:zcJ Tryz.prog t=some [z]) (ht:tyI Tryz.prog t=some (1,by_,false)) (hu:u.oneCell'=true) (k:∀ w',Ext w w'→Blk w.heap.size t w' [u]→K (.pointer (some ⟨w.heap.size,0,none⟩)) w') :
   OP Tryz.prog (Instr.alloc t true (.tuple #[])) w fun p w1=>OPU Tryz.prog (Instr.storeAt t p u) w1 fun w2=>K p w2:=by
 refine zcV hz fun w1 hx1 hB1=>?_
 refine zbR (α:=Raw) (lo:=0) (hi:=0) ht rfl rfl hB1 (by simp) (zcH hu) fun w2 hc2 hB2=>?_
 exact k w2 (hx1.chgI hc2 (Nat.le_refl _)) hB2
structure MW (w1 w:World) (gv g ga n:Nat) (ms:List Bool) (ag:Bool):Prop where
 ext:Ext w1 w
 var:Blk gv 135 w [.slice (some ⟨g,0,none⟩) n n]
 mks:Mine [g] w (.slice (some ⟨g,0,none⟩) n n) ms
 agn:Blk ga 4 w [.bool ag]
 n1:gv≠g
 n2:gv≠ga
 n3:g≠ga
 g0:w1.heap.size≤g
 g1:w1.heap.size≤gv
 g2:w1.heap.size≤ga
section
variable {w1 w w':World} {gv g ga n:Nat} {ms:List Bool} {ag:Bool}
theorem MW.step (h:MW w1 w gv g ga n ms ag) (hx:Ext w w'):MW w1 w' gv g ga n ms ag:=⟨h.ext.trans hx,h.var.ext hx,h.mks.ext hx,h.agn.ext hx,h.n1,h.n2,h.n3,h.g0,h.g1,h.g2⟩
theorem MW.mark {ms':List Bool} (h:MW w1 w gv g ga n ms ag) (hc:Chg [g] w w') (hm:Mine [g] w' (.slice (some ⟨g,0,none⟩) n n) ms'):MW w1 w' gv g ga n ms' ag:=
 ⟨h.ext.chgF hc (by simp [h.g0]),h.var.chgF hc (by simp [h.n1]),hm,h.agn.chgF hc (by simp [Ne.symm h.n3]),h.n1,h.n2,h.n3,h.g0,h.g1,h.g2⟩
theorem MW.agains {ag':Bool} (h:MW w1 w gv g ga n ms ag) (hc:Chg [ga] w w') (hB:Blk ga 4 w' [.bool ag']):MW w1 w' gv g ga n ms ag':=
 ⟨h.ext.chgF hc (by simp [h.g2]),h.var.chgF hc (by simp [h.n2]),h.mks.keep fun b hb=>by
   simp only [List.mem_cons,List.not_mem_nil,or_false] at hb;subst hb
   exact hc.block b (h.mks.lt b (by simp)) (by simp [h.n3]),hB,h.n1,h.n2,h.n3,h.g0,h.g1,h.g2⟩
theorem MW.cell {ga':Nat} {ag':Bool} (h:MW w1 w gv g ga n ms ag) (hx:Ext w w') (hB:Blk ga' 4 w' [.bool ag']) (hg:w.heap.size≤ga'):MW w1 w' gv g ga' n ms ag':=
 ⟨h.ext.trans hx,h.var.ext hx,h.mks.ext hx,hB,h.n1,by have:=h.var.lt;omega,by have:=h.mks.lt g (by simp);omega,h.g0,h.g1,by have:=h.ext.size;omega⟩
theorem zq9 {i:Nat} (h:MW w1 w gv g ga n ms ag) (hi:i<n) (hl:ms.length=n) :
   CALL Tryz.prog 188 [.int .i64 (i:Int),.pointer (some ⟨gv,0,none⟩),.pointer (some ⟨ga,0,none⟩)] w fun r w'=>r=.tuple #[]∧MW w1 w' gv g ga n (ms.set i true) (zuj ms i ag)∧Chg [g,ga] w w':=by
 refine F188_call ?_
 unfold F188
 refine zaA zdc h.var rfl ?_
 refine zad zcX ty4 h.mks.is (by rw [hl];exact hi) fun b1 o1 hA1=>?_
 refine zaz ty4 hA1 (Ext.refl _) ?_
 have hmk:=zaO (ms:=ms) (i:=i) (by rw [hl];exact hi)
 refine zaJ ?_
 refine zbw (fun hf=>?_) (fun hf=>?_)
 · have hn:¬mkd ms i:=by rw [hmk];simpa using hf
   rw [zoD hn]
   refine zaA zdc h.var rfl ?_
   refine zbv (α:=Bool) rfl zcX ty4 hi ?_
   refine za0 (α:=Bool) rfl ty4 h.mks hl hi zbl fun w2 hc2 hm2=>?_
   have h2:=h.mark hc2 hm2
   refine zbR (α:=Raw) (lo:=0) (hi:=0) ty4 rfl rfl h2.agn (by simp) (zcH rfl) fun w3 hc3 hB3=>?_
   exact ⟨rfl,h2.agains hc3.one hB3,(hc2.mono (by simp)).trans (hc3.one.mono (by simp))⟩
 have hy:mkd ms i:=by rw [hmk];simpa using hf
 rw [zoC hy,zjq hy]
 exact ⟨rfl,h,Chg.refl _ _⟩
end
theorem zuU {w W0:World} {b:Nat} {c:DCode} (hW:WAt W0 b c) (e0:Ext W0 w) (hc:CodeR c) :
   CALL Tryz.prog 119 [.pointer (some ⟨b,0,none⟩)] w fun r w'=>Ext w w'∧Own w.heap.size w' r (zox c):=by
 refine F119_call ?_
 unfold F119
 have h8:=hc.1.procs8
 have hil:=hc.f.ins
 have hcode:=hW.wl.code
 refine NIL.mk rfl ?_
 refine zaa za5 ?_
 refine zaa zaG ?_
 refine zab zcO (zal hcode) e0 fun v16 h16=>?_
 refine zag u26 h16 ?_
 have hz0:=(zen hc h8.2).2.2
 have hn:c.ins.length=c.ins.length:=rfl
 generalize hnn:c.ins.length=n at hn
 rw [hnn] at hil
 refine zdL (by omega) (by omega) fun w1 hx1 hM1=>?_
 have hs1:=hx1.size
 have hg1:=hM1.lt _ (List.mem_singleton.2 rfl)
 generalize hg:w.heap.size=g at *
 refine znv zvF zdc rfl fun w2 hx2 hB2=>?_
 have hs2:=hx2.size
 have hM2:=hM1.ext hx2
 generalize hgv:w1.heap.size=gv at *
 refine NIL.mk rfl ?_
 refine zaa zgj ?_
 refine zac ty3 hW.roots (e0.trans (hx1.trans hx2)) fun _=>?_
 have hrs:zci c<256:=zaY h8.1
 refine (zdt (m:=zci c) (by omega)).mono ?_
 rintro v23 w3 ⟨hx3,ho3⟩
 unfold zci at ho3
 rw [zdi (by omega)] at ho3
 have hL:∀ p,p∈zbn c.procs.length (RootP c)↔RootP c p:=fun p=>by rw [zaT];exact ⟨fun h=>h.2,fun h=>⟨h.lt hc,h⟩⟩
 have hLl:(zbn c.procs.length (RootP c)).length≤8:=Nat.le_trans za6 h8.1
 generalize zbn c.procs.length (RootP c)=L at *
 have hs3:=hx3.size
 have hgv2:=hB2.lt
 refine zag u25 ho3.is ?_
 rw [zae]
 refine zas L.length (fun k us w'=>∃ ms,us=[.int .i64 (k:Int)]∧k≤L.length∧Ext w w'∧Blk gv 135 w' [.slice (some ⟨g,0,none⟩) n n]∧Mine [g] w' (.slice (some ⟨g,0,none⟩) n n) ms∧OwnI w2.heap.size w3.heap.size w' v23 (zaI L)∧ms.length=n∧(∀ i,mkd ms i→MetP c i)∧∀ p∈L.take k,mkd ms (eN c p)) 0 (Nat.zero_le _) ⟨_,rfl,Nat.zero_le _,hx1.trans (hx2.trans hx3),hB2.ext hx3,hM2.ext hx3,ho3.toI,by simp,fun i h=>absurd h zbz,by simp⟩ ?_
 rintro k mk u w4 hkm ⟨ms,hu,hkl,hx4,hB4,hM4,hO4,hl4,hsn4,hrt4⟩
 simp only [List.map_cons,List.map_nil,List.cons.injEq,and_true] at hu
 rw [hu]
 refine zah ?_
 refine br (fun hlt=>?_) (fun hge=>?_)
 · have hk:k<L.length:=by omega
   refine zad u25 ty3 (i:=k) hO4.is (by rw [zae];exact hk) fun b2 o2 hA2=>?_
   rw [zaM] at hA2
   refine zac ty3 hA2 (Ext.refl _) fun _=>?_
   have htk:=fun x=>zbe hk (x:=x)
   have hrp:=(hL L[k]).1 (List.getElem_mem hk)
   generalize L[k]=p at *
   have hpe:p<c.entry.length:=by rw [hc.2.1.1];exact hrp.lt hc
   obtain ⟨he1,he2,_⟩:=zfp hc hpe
   have hxd:=zaj w4
   have hx5:=hx4.trans hxd
   have hB5:=hB4.ext hxd
   have hM5:=hM4.ext hxd
   have hO5:=hO4.ext hxd
   generalize World.drew1 w4=w5 at *
   refine zaA zdc hB5 rfl ?_
   refine NIL.mk rfl ?_
   refine zaa za5 ?_
   refine zaa za1 ?_
   refine zab zcN (zaq hcode) (e0.trans hx5) fun v34 h34=>?_
   refine zad u25 ty3 h34 hpe fun b5 o5 hA5=>?_
   rw [zbh hpe,he1] at hA5
   refine zac ty3 hA5 (e0.trans hx5) fun _=>?_
   refine zbv (α:=Bool) rfl zcX ty4 (by omega) ?_
   refine za0 (α:=Bool) rfl ty4 hM5 hl4 (by omega) zbl fun w6 hc6 hm6=>?_
   refine zaf (by omega) ?_
   refine ⟨mk-1,by omega,k+1,by omega,_,rfl,by omega,hx5.chgF hc6 (by simp [hg]),hB5.chgF hc6 (by simp;omega),hm6,hO5.chgF hc6 (by simp;omega),by simp [hl4],fun i hi=>?_,fun q hq=>?_⟩
   · rcases (zcw (by rw [hl4];omega)).1 hi with h | h
     · exact hsn4 i h
     rw [h];exact .root hrp
   rcases (htk q).1 hq with h | h
   · exact zeo (hrt4 q h)
   rw [h];exact (zcw (by rw [hl4];omega)).2 (.inr rfl)
 have hrt:∀ p,RootP c p→mkd ms (eN c p):=fun p hp=>hrt4 p (by rw [List.take_of_length_le (by omega)];exact (hL p).2 hp)
 have hT:TP c ms false ms 0:=⟨by rw [hl4,hnn],hsn4,hrt,fun e=>(by cases e),fun _=>⟨rfl,fun i hi=>by omega⟩⟩
 clear hu hkm hO4 ho3
 refine znv zu7 ty4 rfl fun w5 hx5 hB5=>?_
 have hs4:=hx4.size
 have hMW:MW w w5 gv g w4.heap.size n ms true:=⟨hx4.trans hx5,hB4.ext hx5,hM4.ext hx5,hB5,by omega,by have:=hB4.lt;omega,by have:=hM4.lt g (by simp);omega,by omega,by omega,by omega⟩
 generalize w4.heap.size=ga at *
 refine LOOPI.mk (fun m us w'=>∃ (ga:Nat) (ms:List Bool) (ag:Bool),us=[.pointer (some ⟨ga,0,none⟩)]∧m=(n-zik ms)+(if ag then 1 else 0)∧MW w w' gv g ga n ms ag∧TP c ms false ms 0∧(ag=false→ms=zox c)) (n-zik ms+1) ⟨ga,ms,true,rfl,rfl,hMW,hT,fun e=>by cases e⟩ ?_
 rintro m u w6 ⟨ga,ms,ag,hu,hm,hW6,hT6,hend⟩
 simp only [List.map_cons,List.map_nil,List.cons.injEq,and_true] at hu
 rw [hu]
 have hcn:=zfF ms
 rw [hT6.len,hnn] at hcn
 refine zaA ty4 hW6.agn rfl ?_
 refine zbw (fun hag=>?_) (fun hag=>?_)
 case refine_2=>
   refine zaA zdc hW6.var rfl ?_
   rw [←hend hag]
   exact ⟨hW6.ext,[g],hW6.mks,fun b hb=>by simp only [List.mem_cons,List.not_mem_nil,or_false] at hb;omega⟩
 rw [hag,if_pos rfl] at hm
 refine zbR (α:=Raw) (lo:=0) (hi:=0) ty4 rfl rfl hW6.agn (by simp) (zcH rfl) fun w7 hc7 hB7=>?_
 have hW7:=hW6.agains hc7.one hB7
 refine za3 (v:=.func (.func 188) #[] #[.pointer (some ⟨gv,0,none⟩),.pointer (some ⟨ga,0,none⟩)]) (fun w' _=>by simp [Instr.makeFunc]) ?_
 refine NIL.mk rfl ?_
 refine zaa za5 ?_
 refine zaa zaG ?_
 refine zab zcO (zal hcode) (e0.trans hW7.ext) fun v46 h46=>?_
 refine zag u26 h46 ?_
 rw [hnn]
 refine zas n (fun k us w'=>∃ (ms':List Bool) (ag':Bool),us=[.int .i64 (k:Int)]∧k≤n∧MW w w' gv g ga n ms' ag'∧TP c ms ag' ms' k) 0 (Nat.zero_le _) ⟨ms,false,rfl,Nat.zero_le _,hW7,hT6⟩ ?_
 rintro k mk u w8 hkm ⟨ms8,ag8,hu,hkl,hW8,hT8⟩
 simp only [List.map_cons,List.map_nil,List.cons.injEq,and_true] at hu
 rw [hu]
 refine zah ?_
 refine br (fun hlt=>?_) (fun hge=>?_)
 case refine_2=>
   have hke:k=n:=by omega
   rw [hke] at hT8
   refine zaA ty4 hW8.agn rfl ?_
   refine znv zu7 ty4 rfl fun w9 hx9 hB9=>?_
   have hcn8:=zfF ms8
   rw [hT8.len,hnn] at hcn8
   refine ⟨(n-zik ms8)+(if ag8 then 1 else 0),?_,_,ms8,ag8,rfl,rfl,hW8.cell hx9 hB9 (Nat.le_refl _),hT8.again,fun e=>?_⟩
   · cases ag8 with
     | true=>have:=hT8.yes rfl;simp;omega
     | false=>rw [(hT8.no rfl).1];simp;omega
   rw [e,←hnn] at hT8
   exact hT8.fin hc
 have hk:k<n:=by omega
 have hkn:k<c.ins.length:=by omega
 have hl8:ms8.length=n:=by rw [hT8.len,hnn]
 refine zad u26 zc6 h46 hkn fun b3 o3 hA3=>?_
 rw [zaF] at hA3
 refine zab zc6 hA3 (e0.trans hW8.ext) fun v52 h52=>?_
 refine zce zpE rfl zc6 rfl h52 (e0.trans hW8.ext) fun w9 hx9 hAI hV9=>?_
 have hW9:=hW8.step hx9
 have hAB9:=zgl h52 hV9 rfl
 refine zaA zdc hW9.var rfl ?_
 refine zad zcX ty4 (i:=k) hW9.mks.is (by rw [hl8];exact hk) fun b4 o4 hA4=>?_
 refine zaz ty4 hA4 (Ext.refl _) ?_
 refine zaJ ?_
 have hmk8:=zaO (ms:=ms8) (i:=k) (by rw [hl8];exact hk)
 refine zbw (fun hf=>?_) (fun hf=>?_)
 · have hnm:¬mkd ms8 k:=by rw [hmk8];simpa using hf
   refine zaf (by omega) ?_
   exact ⟨mk-1,by omega,k+1,by omega,ms8,ag8,rfl,by omega,hW9,hT8.next fun h=>absurd h hnm⟩
 have hym:mkd ms8 k:=by rw [hmk8];simpa using hf
 have hMk:=hT8.snd k hym
 refine JOIN.mk (fun us w'=>∃ (ms':List Bool) (ag':Bool),MW w w' gv g ga n ms' ag'∧TP c ms ag' ms' k∧((zak c k).op=4→mkd ms' (eN c (agN c k)))∧∀ j∈zax c k,MetP c j) ?_ ?_
 · refine zaa zbf ?_
   refine zac ty3 (zay hAI) (Ext.refl _) fun _=>?_
   refine zai ?_
   refine br (fun c4=>?_) (fun c4=>?_)
   · obtain ⟨ha1,ha2⟩:=zbN hc hkn (.inl c4)
     have hpe:agN c k<c.entry.length:=by rw [hc.2.1.1];exact ha2
     obtain ⟨he1,he2,_⟩:=zfp hc hpe
     obtain ⟨hz1,hz2,hz3⟩:=zen hc ha2
     have hxd:=zaj w9
     have hW10:=hW9.step hxd
     generalize World.drew1 w9=w10 at *
     refine NIL.mk rfl ?_
     refine zaa za5 ?_
     refine zaa za1 ?_
     refine zab zcN (zaq hcode) (e0.trans hW10.ext) fun v66 h66=>?_
     refine zaa zbu ?_
     refine zac ty3 (zaC hAI) hxd fun _=>?_
     rw [ha1]
     refine zad u25 ty3 h66 hpe fun b5 o5 hA5=>?_
     rw [zbh hpe,he1] at hA5
     refine zac ty3 hA5 (e0.trans hW10.ext) fun _=>?_
     refine zs4 (args:=[_]) (caps:=[_,_]) zs5 ((zq9 (i:=eN c (agN c k)) hW10 (by omega) hl8).mono ?_)
     rintro _ w11 ⟨rfl,hW11,hc11⟩
     have hT11:=hT8.meet he2 (.call hMk c4)
     have hme:mkd (ms8.set (eN c (agN c k)) true) (eN c (agN c k)):=(zcw (by rw [hl8];omega)).2 (.inr rfl)
     have hx12:=zaj w11
     have hW12:=hW11.step hx12
     have hgI:w8.heap.size<w10.heap.size:=by have:=hV9.lt;have:=hxd.size;omega
     have hne:w8.heap.size∉[g,ga]:=by have h1:=hW8.mks.lt g (by simp);have h2:=hW8.agn.lt;simp;omega
     have hAI11:=(hAB9.ext hxd).keep (hc11.block _ hgI hne)
     have hAI12:=(hAI11.ext hx12).at (e0.trans hW12.ext)
     generalize World.drew1 w11=w12 at *
     refine zaA zdc hW12.var rfl ?_
     refine NIL.mk rfl ?_
     refine zaa za5 ?_
     refine zab zbm hcode (e0.trans hW12.ext) fun v76 h76=>?_
     refine zaa zbu ?_
     refine zac ty3 (zaC hAI12) (Ext.refl _) fun _=>?_
     rw [ha1]
     refine (zdq h76 (e0.trans hW12.ext) (by omega)).mono ?_
     rintro _ w13 ⟨hx13,rfl⟩
     refine ⟨hx13,?_⟩
     have hW13:=hW12.step hx13
     rw [hz1]
     refine zbp (by unfold I64;omega) ?_
     rw [show ((zN c (agN c k)+1:Nat):Int)-1=(zN c (agN c k):Int) by omega]
     have hl13:(ms8.set (eN c (agN c k)) true).length=n:=by rw [List.length_set,hl8]
     generalize ms8.set (eN c (agN c k)) true=ms13 at *
     refine zad zcX ty4 (i:=zN c (agN c k)) hW13.mks.is (by rw [hl13];omega) fun b6 o6 hA6=>?_
     refine zaz ty4 hA6 (Ext.refl _) ?_
     refine zaJ ?_
     have hmk13:=zaO (ms:=ms13) (i:=zN c (agN c k)) (by rw [hl13];omega)
     refine zbw (fun hf13=>?_) (fun hf13=>?_)
     · have hnm:¬mkd ms13 (zN c (agN c k)):=by rw [hmk13];simpa using hf13
       refine zaf (by omega) ?_
       exact ⟨mk-1,by omega,k+1,by omega,ms13,_,rfl,by omega,hW13,hT11.next fun _=>⟨fun _=>⟨hme,fun h=>absurd h hnm⟩,fun h=>absurd c4 h⟩⟩
     have hyz:mkd ms13 (zN c (agN c k)):=by rw [hmk13];simpa using hf13
     exact ⟨ms13,_,hW13,hT11,fun _=>hme,fun j hj=>.back hMk c4 (hT11.snd _ hyz) hj⟩
   exact ⟨ms8,ag8,hW9,hT8,fun h=>absurd h c4,fun j hj=>.next hMk c4 hj⟩
 rintro us w14 ⟨ms14,ag14,hW14,hT14,hc14,hnx⟩
 refine (zjh hcode (e0.trans hW14.ext) hc hkn).mono ?_
 rintro v86 w15 ⟨hx15,ho15⟩
 have hW15:=hW14.step hx15
 have hl2:=zeO c k
 have hnl:=fun {j:Nat} (hj:j∈zax c k)=>(zcA hc hkn hj).1
 generalize hNx:zax c k=N at *
 refine zag u25 ho15.is ?_
 rw [zae]
 refine zas N.length (fun q us w'=>∃ (ms':List Bool) (ag':Bool),us=[.int .i64 (q:Int)]∧q≤N.length∧MW w w' gv g ga n ms' ag'∧TP c ms ag' ms' k∧((zak c k).op=4→mkd ms' (eN c (agN c k)))∧(∀ j∈N.take q,mkd ms' j)∧OwnI w14.heap.size w15.heap.size w' v86 (zaI N)) 0 (Nat.zero_le _) ⟨ms14,ag14,rfl,Nat.zero_le _,hW15,hT14,hc14,by simp,ho15.toI⟩ ?_
 rintro q mq u w16 hqm ⟨ms16,ag16,hu,hql,hW16,hT16,hc16,hq16,hO16⟩
 simp only [List.map_cons,List.map_nil,List.cons.injEq,and_true] at hu
 rw [hu]
 refine zah ?_
 refine br (fun hlt=>?_) (fun hge=>?_)
 case refine_2=>
   refine zaf (by omega) ?_
   rw [List.take_of_length_le (by omega)] at hq16
   exact ⟨mk-1,by omega,k+1,by omega,ms16,ag16,rfl,by omega,hW16,hT16.next fun _=>⟨fun h4=>⟨hc16 h4,fun _=>hNx▸hq16⟩,fun _=>hNx▸hq16⟩⟩
 have hq:q<N.length:=by omega
 refine zad u25 ty3 (i:=q) hO16.is (by rw [zae];exact hq) fun b7 o7 hA7=>?_
 rw [zaM] at hA7
 refine zac ty3 hA7 (Ext.refl _) fun _=>?_
 have htq:=fun x=>zbe hq (x:=x)
 have hj:=List.getElem_mem hq
 have hjl:=hnl hj
 have hjm:=hnx _ hj
 generalize N[q]=j at *
 have hl16:ms16.length=n:=by rw [hT16.len,hnn]
 refine zs4 (args:=[_]) (caps:=[_,_]) zs5 ((zq9 (i:=j) hW16 (by omega) hl16).mono ?_)
 rintro _ w17 ⟨rfl,hW17,hc17⟩
 refine zaf (by omega) ?_
 have hg14:=hW14.mks.lt g (by simp)
 have hga14:=hW14.agn.lt
 refine ⟨mq-1,by omega,q+1,by omega,_,_,rfl,by omega,hW17,hT16.meet hjl hjm,fun h4=>zeo (hc16 h4),fun i hi=>?_,hO16.chgF hc17 (by simp;omega)⟩
 rcases (htq i).1 hi with h | h
 · exact zeo (hq16 i h)
 rw [h];exact (zcw (by rw [hl16];omega)).2 (.inr rfl)
abbrev Raw5:=Raw×Raw×Raw×Raw×Raw
theorem zms {w:World} {lo hi:Nat} {a b c d e:Value} (ha:a.oneCell'=true) (hb:b.oneCell'=true) (hc:c.oneCell'=true) (hd:d.oneCell'=true) (he:e.oneCell'=true):OwnI lo hi w (.agg #[a,b,c,d,e]) ((⟨a⟩,⟨b⟩,⟨c⟩,⟨d⟩,⟨e⟩):Raw5):=by
 refine ⟨[],⟨⟨[a,b,c,d,e],?_,rfl⟩,List.nodup_nil,Wr.nil _⟩,by simp⟩
 have r:∀ {v:Value},v.oneCell'=true→rep [] w [v] (⟨v⟩:Raw):=fun h=>⟨rfl,rfl,h⟩
 exact zaR (F:=[]) (r ha) (zaR (F:=[]) (r hb) (zaR (F:=[]) (r hc) (zaR (F:=[]) (r hd) (r he))))
theorem zra {w:World} {v:Value} {p:DProg} (h:Is w v p):∃ c0 c1 c2,v=.agg #[c0,c1,c2]∧c0.oneCell'=true∧c1.oneCell'=true∧c2.oneCell'=true:=by
 obtain ⟨F,cs,hr,rfl⟩:=h
 have hone:=Rep.one hr
 obtain ⟨F1,F2,x1,x2,rfl,rfl,h1,F3,F4,x3,x4,rfl,rfl,h2,h3⟩:=hr
 have e1:∃ a,x1=[a]:=by obtain ⟨a,cap,Fi,xs,rfl,_⟩:=h1;exact ⟨_,rfl⟩
 have e2:∃ a,x3=[a]:=by obtain ⟨a,cap,Fi,xs,rfl,_⟩:=h2;exact ⟨_,rfl⟩
 have e3:∃ a,x4=[a]:=by obtain ⟨a,cap,Fi,xs,rfl,_⟩:=h3;exact ⟨_,rfl⟩
 obtain ⟨a1,rfl⟩:=e1
 obtain ⟨a2,rfl⟩:=e2
 obtain ⟨a3,rfl⟩:=e3
 exact ⟨a1,a2,a3,rfl,hone a1 (by simp),hone a2 (by simp),hone a3 (by simp)⟩
theorem zrb {α:Type} [Rep α] (ha:Rep.agg α=false) {lo hi:Nat} {w:World} {v:Value} {x:α} (h:OwnI lo hi w v x):v.oneCell'=true:=by
 obtain ⟨F,⟨hm,_,_⟩,_⟩:=h
 exact Rep.one (zcW ha hm) v (by simp)
def cdQ (p:DProg) (g1:Nat) (w0:World):ParQ:=fun i u T w=>match i with
 | 0=>∃ a,u 11=.slice (some a) 0 0
 | 1=>u 12=.pointer (some ⟨g1,0+0,none⟩)
 | 2=>Is w0 (u 13) p.globals
 | 3=>OwnI (T 3).1 (T 3).2 w (u 14) p.globals
 | 4=>∃ a,u 15=.slice (some a) 0 0
 | 5=>u 16=.pointer (some ⟨g1,0+1,none⟩)
 | 6=>Is w0 (u 17) p.locks
 | 7=>OwnI (T 7).1 (T 7).2 w (u 18) p.locks
 | 8=>u 19=.agg #[u 14,u 18,.slice none 0 0,.slice none 0 0,.slice none 0 0]
 | 9=>∃ g,u 4=.pointer (some ⟨g,0,none⟩)∧(T 9).1≤g∧g<(T 9).2∧Blk g 28 w [.slice none 0 0,.slice none 0 0,.slice none 0 0,.slice none 0 0,.slice none 0 0]
 | _=>True
structure CdS (W:World) (p:DProg) (gk ge bs x2 l3 h3 l7 h7:Nat) (v14 v18 vp ve:Value) (N:List ByteArray) (E:List Int) (L:List DIns) (Fp Fe Fi:List Nat) (w:World):Prop where
 bk:Blk gk 28 w [v14,v18,vp,ve,.slice none 0 0]
 g:OwnI l3 h3 w v14 p.globals
 l:OwnI l7 h7 w v18 p.locks
 n:RowG Fp 9 w vp N
 e:RowG Fe 3 w ve E
 nn:Fp.Nodup
 en:Fe.Nodup
 em:EmF W ge p L Fi w
 x:Blk x2 28 w [.slice none 0 0,.slice none 0 0,.slice none 0 0,.slice none 0 0,.slice none 0 0]
 dpe:∀ c∈Fp,c∉Fe
 dpi:∀ c∈Fp,c∉Fi
 dei:∀ c∈Fe,c∉Fi
 bp:∀ c∈Fp,bs≤c
 be:∀ c∈Fe,bs≤c
 bi:∀ c∈Fi,bs≤c
section
variable {W:World} {p:DProg} {gk ge bs x2 l3 h3 l7 h7:Nat} {v14 v18 vp ve:Value} {N:List ByteArray} {E:List Int} {L:List DIns} {Fp Fe Fi:List Nat} {w w':World}
theorem zdU {α:Type} [Rep α] {lo hi:Nat} {v:Value} {x:α} {S:List Nat} (h:OwnI lo hi w v x) (hc:Chg S w w') (hd:∀ c∈S,c<lo∨hi≤c):OwnI lo hi w' v x:=by
 obtain ⟨F,hm,hF⟩:=h
 exact ⟨F,hm.keep fun c hcm=>hc.block c (hm.lt c hcm) fun hs=>by have:=hF c hcm;have:=hd c hs;omega,hF⟩
theorem CdS.ext (h:CdS W p gk ge bs x2 l3 h3 l7 h7 v14 v18 vp ve N E L Fp Fe Fi w) (hx:Ext w w'):CdS W p gk ge bs x2 l3 h3 l7 h7 v14 v18 vp ve N E L Fp Fe Fi w':=
 ⟨h.bk.ext hx,h.g.ext hx,h.l.ext hx,h.n.keep fun c hc=>hx.heap (h.n.lt c hc),h.e.keep fun c hc=>hx.heap (h.e.lt c hc),h.nn,h.en,h.em.ext hx,h.x.ext hx,h.dpe,h.dpi,h.dei,h.bp,h.be,h.bi⟩
variable (ho:gk<bs∧ge<bs∧gk≠ge∧x2<bs∧x2≠gk∧x2≠ge∧h3≤bs∧h7≤bs∧(gk<l3∨h3≤gk)∧(gk<l7∨h7≤gk)∧(ge<l3∨h3≤ge)∧(ge<l7∨h7≤ge)∧W.heap.size≤gk∧W.heap.size≤ge)
include ho
theorem CdS.names (h:CdS W p gk ge bs x2 l3 h3 l7 h7 v14 v18 vp ve N E L Fp Fe Fi w) {vp':Value} {N':List ByteArray} {Fp':List Nat} (hc:Chg (gk :: Fp) w w') (hB:Blk gk 28 w' [v14,v18,vp',ve,.slice none 0 0])
   (hR:RowG Fp' 9 w' vp' N') (hn:Fp'.Nodup) (hs:∀ c∈Fp',c∈Fp∨w.heap.size≤c) (hb:bs≤w.heap.size):CdS W p gk ge bs x2 l3 h3 l7 h7 v14 v18 vp' ve N' E L Fp' Fe Fi w':=by
 have hlt:=h.em.lt
 have hS:∀ c∈gk :: Fp,c=gk∨bs≤c:=fun c hc=>by
   rcases List.mem_cons.1 hc with e | hc
   · exact .inl e
   exact .inr (h.bp c hc)
 refine ⟨hB,zdU h.g hc fun c hcm=>by have:=hS c hcm;omega,zdU h.l hc fun c hcm=>by have:=hS c hcm;omega,hR,h.e.keep fun c hcm=>hc.block c (h.e.lt c hcm) fun hm=>?_,hn,h.en,h.em.keep (fun c hcm=>hc.block c ?_ fun hm=>?_) (h.em.old.chgL hc fun c hcm=>?_),h.x.chg hc fun hm=>?_,fun c hcm hce=>?_,fun c hcm hci=>?_,h.dei,fun c hcm=>?_,h.be,h.bi⟩
 · rcases List.mem_cons.1 hm with e | hm
   · have:=h.be c hcm;omega
   exact h.dpe c hm hcm
 · rcases List.mem_cons.1 hcm with rfl | hcm
   · exact hlt.1
   exact hlt.2.1 c hcm
 · rcases List.mem_cons.1 hcm with e1 | hcm
   · rcases List.mem_cons.1 hm with e | hm
     · omega
     have:=h.bp c hm;omega
   rcases List.mem_cons.1 hm with e | hm
   · have:=h.bi c hcm;omega
   exact h.dpi c hm hcm
 · rcases List.mem_cons.1 hcm with e | hcm
   · omega
   have:=h.bp c hcm;omega
 · have:=hS _ hm;omega
 · rcases hs c hcm with k | k
   · exact h.dpe c k hce
   have:=h.e.lt c hce;omega
 · rcases hs c hcm with k | k
   · exact h.dpi c k hci
   have:=hlt.2.1 c hci;omega
 rcases hs c hcm with k | k
 · exact h.bp c k
 omega
theorem CdS.ents (h:CdS W p gk ge bs x2 l3 h3 l7 h7 v14 v18 vp ve N E L Fp Fe Fi w) {ve':Value} {E':List Int} {Fe':List Nat} (hc:Chg (gk :: Fe) w w') (hB:Blk gk 28 w' [v14,v18,vp,ve',.slice none 0 0])
   (hR:RowG Fe' 3 w' ve' E') (hn:Fe'.Nodup) (hs:∀ c∈Fe',c∈Fe∨w.heap.size≤c) (hb:bs≤w.heap.size):CdS W p gk ge bs x2 l3 h3 l7 h7 v14 v18 vp ve' N E' L Fp Fe' Fi w':=by
 have hlt:=h.em.lt
 have hS:∀ c∈gk :: Fe,c=gk∨bs≤c:=fun c hc=>by
   rcases List.mem_cons.1 hc with e | hc
   · exact .inl e
   exact .inr (h.be c hc)
 refine ⟨hB,zdU h.g hc fun c hcm=>by have:=hS c hcm;omega,zdU h.l hc fun c hcm=>by have:=hS c hcm;omega,h.n.keep fun c hcm=>hc.block c (h.n.lt c hcm) fun hm=>?_,hR,h.nn,hn,h.em.keep (fun c hcm=>hc.block c ?_ fun hm=>?_) (h.em.old.chgL hc fun c hcm=>?_),h.x.chg hc fun hm=>?_,fun c hcm hce=>?_,h.dpi,fun c hcm hci=>?_,h.bp,fun c hcm=>?_,h.bi⟩
 · rcases List.mem_cons.1 hm with e | hm
   · have:=h.bp c hcm;omega
   exact h.dpe c hcm hm
 · rcases List.mem_cons.1 hcm with rfl | hcm
   · exact hlt.1
   exact hlt.2.1 c hcm
 · rcases List.mem_cons.1 hcm with e1 | hcm
   · rcases List.mem_cons.1 hm with e | hm
     · omega
     have:=h.be c hm;omega
   rcases List.mem_cons.1 hm with e | hm
   · have:=h.bi c hcm;omega
   exact h.dei c hm hcm
 · rcases List.mem_cons.1 hcm with e | hcm
   · omega
   have:=h.be c hcm;omega
 · have:=hS _ hm;omega
 · rcases hs c hce with k | k
   · exact h.dpe c hcm k
   have:=h.n.lt c hcm;omega
 · rcases hs c hcm with k | k
   · exact h.dei c k hci
   have:=hlt.2.1 c hci;omega
 rcases hs c hcm with k | k
 · exact h.be c k
 omega
theorem CdS.ems (h:CdS W p gk ge bs x2 l3 h3 l7 h7 v14 v18 vp ve N E L Fp Fe Fi w) {L':List DIns} {Fi':List Nat} (hc:Chg (ge :: Fi) w w') (hE:EmF W ge p L' Fi' w') (hs:∀ c∈Fi',c∈Fi∨w.heap.size≤c) (hb:bs≤w.heap.size) :
   CdS W p gk ge bs x2 l3 h3 l7 h7 v14 v18 vp ve N E L' Fp Fe Fi' w':=by
 have hS:∀ c∈ge :: Fi,c=ge∨bs≤c:=fun c hc=>by
   rcases List.mem_cons.1 hc with e | hc
   · exact .inl e
   exact .inr (h.bi c hc)
 refine ⟨h.bk.chg hc fun hm=>?_,zdU h.g hc fun c hcm=>by have:=hS c hcm;omega,zdU h.l hc fun c hcm=>by have:=hS c hcm;omega,h.n.keep fun c hcm=>hc.block c (h.n.lt c hcm) fun hm=>?_,h.e.keep fun c hcm=>hc.block c (h.e.lt c hcm) fun hm=>?_,h.nn,h.en,hE,h.x.chg hc fun hm=>?_,h.dpe,fun c hcm hci=>?_,fun c hcm hci=>?_,h.bp,h.be,fun c hcm=>?_⟩
 · have:=hS _ hm;omega
 · rcases List.mem_cons.1 hm with e | hm
   · have:=h.bp c hcm;omega
   exact h.dpi c hcm hm
 · rcases List.mem_cons.1 hm with e | hm
   · have:=h.be c hcm;omega
   exact h.dei c hcm hm
 · have:=hS _ hm;omega
 · rcases hs c hci with k | k
   · exact h.dpi c hcm k
   have:=h.n.lt c hcm;omega
 · rcases hs c hci with k | k
   · exact h.dei c hcm k
   have:=h.e.lt c hcm;omega
 rcases hs c hcm with k | k
 · exact h.bi c k
 omega
end
theorem zss {G L P:List ByteArray} {l:List DProc} {k:Nat} (hk:k<l.length) (a:Nat):emP G L P (l.drop k) a=emL G L P l[k].body a++(ztF :: emP G L P (l.drop (k+1)) (a+(emL G L P l[k].body a).length+1)):=by
 rw [List.drop_eq_getElem_cons hk,emP]
theorem zrc {G L P:List ByteArray} {l:List DProc} {k:Nat} (hk:k<l.length) (a:Nat):zl9 G L P (l.drop k) a=(a:Int) :: zl9 G L P (l.drop (k+1)) (a+(emL G L P l[k].body a).length+1):=by
 rw [List.drop_eq_getElem_cons hk,zl9]
theorem zjr {α:Type} [Rep α] {e:TypeId} {F:List Nat} {w:World} {v:Value} {l:List α} (h:RowG F e w v l) (hn:F.Nodup):Mine F w v l:=⟨h.own,hn,h.wr⟩
end Go.Proofs.YtbnjpfjjmhodnaaGreat
