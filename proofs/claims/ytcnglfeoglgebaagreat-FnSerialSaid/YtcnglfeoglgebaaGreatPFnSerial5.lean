/-
  Parts of the proof, put together by program.
-/
import Derived.Test.YtcnglfeoglgebaaGreatPFnSerial4
set_option linter.unusedVariables false
set_option linter.unusedSimpArgs false
set_option linter.unusedSectionVars false
namespace Go.Proofs.YtcnglfeoglgebaaGreat
open Go Go.Sh Go.Proofs
open Rep (rep)
def F183 (a0 a1:Value) (w:World) (R:VW):Prop:=
 NIL a0 <|
 rF 92 a0 0 w fun x9=>
 rF 36 x9 3 w fun x10=>
 rL 33 x10 w fun x11=>
 rX 33 x11 a1 w fun x13=>
 rL 3 x13 w fun x14=>
 LOOPI [5,6] [(Value.slice none 0 0),x14] w fun u3 w next3=>
 NIL a0 <|
 rF 92 a0 0 w fun x18=>
 rL 36 x18 w fun x19=>
 cL 119 [x19,a1] w fun x21 w=>
 rC (u3 6) x21 w fun x22=>
 BR x22
 (NIL a0 <|
 rF 92 a0 1 w fun x27=>
 rL 90 x27 w fun x28=>
 rX 90 x28 (u3 6) w fun x30=>
 rL 4 x30 w fun x31=>
 BR x31
 (oP (Instr.buildSlice 33 1 #[(0,(u3 6))]) w fun x34 w=>
 oP (Builtin.append_ #[33,33] 33 [(u3 5),x34].toArray) w fun x35 w=>
 rA (u3 6) (iV 1) w fun x24=>
 next3 [x35,x24] w)
 (rA (u3 6) (iV 1) w fun x24=>
 next3 [(u3 5),x24] w))
 (R (u3 5) w)
def cfg183:Cfg:=⟨extL,[],[(3,68719444064,[5,6])],[],[],[],[]⟩
theorem F183_call {a0 a1:Value} {w:World} {R:VW} (h:F183 a0 a1 w R):cL 183 [a0,a1] w R:=co (g:=cfg183) Tryz.func183 (by kernel_rfl) (by kernel_rfl) (by kernel_rfl) h
def F151 (a0 a1 a2 a3:Value) (w:World) (R:VW):Prop:=
 NIL a0 <|
 rF 92 a0 0 w fun x20=>
 rF 36 x20 4 w fun x21=>
 rL 34 x21 w fun x22=>
 rN 34 3 x22 w fun x23=>
 oP (Instr.makeSlice 33 x23 x23) w fun x24 w=>
 rN 33 3 x24 w fun x26=>
 LOOPI [27] [(iV 0)] w fun u3 w next3=>
 rC (u3 27) x26 w fun x28=>
 BR x28
 (rX 33 x24 (u3 27) w fun x32=>
 oS 3 x32 (iV 63) w fun w=>
 rA (u3 27) (iV 1) w fun x33=>
 next3 [x33] w)
 (NIL a0 <|
 rF 92 a0 0 w fun x37=>
 rF 36 x37 3 w fun x38=>
 rL 33 x38 w fun x39=>
 rX 33 x39 a2 w fun x41=>
 rL 3 x41 w fun x42=>
 rX 33 x24 x42 w fun x44=>
 oS 3 x44 a3 w fun w=>
 cL 183 [a0,a2] w fun x47 w=>
 LOOPI [12] [(Value.bool true)] w fun u10 w next10=>
 BR (u10 12)
 (rN 33 3 x47 w fun x50=>
 LOOPI [12,51] [(Value.bool false),(iV 0)] w fun u13 w next13=>
 rC (u13 51) x50 w fun x52=>
 BR x52
 (rX 33 x47 (u13 51) w fun x53=>
 rL 3 x53 w fun x54=>
 (fun w=>NIL a0 <|
 rF 92 a0 0 w fun x57=>
 rF 36 x57 4 w fun x58=>
 rL 34 x58 w fun x59=>
 rX 34 x59 x54 w fun x61=>
 rL 84 x61 w fun x62=>
 rX 33 x24 x54 w fun x66=>
 rL 3 x66 w fun x67=>
 cL 230 [x62,a1,x67] w fun x68 w=>
 cL 153 [a0,x54] w fun x71 w=>
 rN 33 3 x71 w fun x72=>
 LOOPI [12,73] [(u13 12),(iV 0)] w fun u17 w next17=>
 rC (u17 73) x72 w fun x74=>
 BR x74
 (rX 33 x71 (u17 73) w fun x75=>
 rL 3 x75 w fun x76=>
 (fun w=>rX 33 x24 x76 w fun x79=>
 rL 3 x79 w fun x80=>
 rB .and 3 T0 T0 x80 x68 w fun x82=>
 rX 33 x24 x76 w fun x85=>
 rL 3 x85 w fun x86=>
 rB .neq 3 T0 T0 x82 x86 w fun x87=>
 BR x87
 (rX 33 x24 x76 w fun x90=>
 rL 3 x90 w fun x91=>
 rB .and 3 T0 T0 x91 x68 w fun x93=>
 rX 33 x24 x76 w fun x94=>
 oS 3 x94 x93 w fun w=>
 rA (u17 73) (iV 1) w fun x95=>
 next17 [(Value.bool true),x95] w)
 (rA (u17 73) (iV 1) w fun x95=>
 next17 [(u17 12),x95] w)) (World.drew1 w))
 (rA (u13 51) (iV 1) w fun x96=>
 next13 [(u17 12),x96] w)) (World.drew1 w))
 (next10 [(u13 12)] w))
 (R x24 w))
def cfg151:Cfg:=⟨extL,[],[(3,17045652480,[27]),(10,158456325028528393712111374336,[12]),(13,158456325028526423387274399744,[12,51]),(17,79228153069531371854253658112,[12,73])],[(15,[0,1,2,3,4,5,6,7,8,9,10,11,12,13,14],0),(19,[0,1,2,3,4,5,6,7,8,9,10],0)],[],[],[]⟩
theorem F151_call {a0 a1 a2 a3:Value} {w:World} {R:VW} (h:F151 a0 a1 a2 a3 w R):cL 151 [a0,a1,a2,a3] w R:=co (g:=cfg151) Tryz.func151 (by kernel_rfl) (by kernel_rfl) (by kernel_rfl) h
open Rep (rep)
def zeq (c:DCode) (i:Nat):Prop:=∃ p,p<c.procs.length∧zaX c p i
structure WL (W0:World) (b:Nat) (c:DCode):Prop where
 code:At W0 b 0 c
 live:At W0 b (0+5) (zgP c.ins.length (zeq c))
theorem zlP {n m:Nat} {p:Nat→Prop} (h:n≤m) (hp:∀ i,n≤i→i<m→¬p i):zcr m p=zcr n p:=by
 induction m with
 | zero=>(have:n=0:=by omega);subst this;rfl
 | succ m ih=>
   by_cases e:n=m+1
   · rw [e]
   rw [zhm (hp m (by omega) (by omega)),ih (by omega) fun i h1 h2=>hp i h1 (by omega)]
theorem zfn {w W0:World} {b p:Nat} {c:DCode} (hW:WL W0 b c) (e0:Ext W0 w) (hc:CodeR c) (hp:p<c.procs.length) :
   CALL Tryz.prog 183 [.pointer (some ⟨b,0,none⟩),.int .i64 (p:Int)] w fun r w'=>Ext w w'∧Own w.heap.size w' r (zbA (zcr c.ins.length (zaX c p))):=by
 refine F183_call ?_
 unfold F183
 have hpe:p<c.entry.length:=by rw [hc.2.1.1];exact hp
 have hil:=hc.f.ins
 have h8:=hc.1.procs8
 obtain ⟨he1,he2,he3⟩:=zhZ hc hpe
 obtain ⟨hz1,hz2,hz3⟩:=zni hc hpe
 have hlv:∀ i,zaX c p i→eN c p≤i∧i≤zN c p:=fun i h=>by
   have:=zbP hc hpe h
   exact zqL hc this.1 hpe this.2
 refine NIL.mk rfl ?_
 refine zaa zbs ?_
 refine zaa za5 ?_
 refine zab za1 (zan hW.code) e0 fun v11 h11=>?_
 refine zad u33 ty3 h11 hpe fun b1 o1 hA1=>?_
 rw [zbm hpe,he1] at hA1
 refine zac ty3 hA1 e0 fun _=>?_
 generalize hE:eN c p=E at *
 generalize hZ:zN c p=Z at *
 have h0:zcr E (zaX c p)=[]:=by
   rw [zlP (n:=0) (Nat.zero_le _) fun i _ h2 h3=>by have:=hlv i h3;omega];rfl
 refine zaB (Z+1-E) (fun k us w'=>∃ (v:Value),us=[v,.int .i64 ((E+k:Nat):Int)]∧E+k≤Z+1∧Ext w w'∧RowI w.heap.size w'.heap.size 3 w' v (zbA (zcr (E+k) (zaX c p)))) 0 (Nat.zero_le _) ⟨_,rfl,by omega,Ext.refl _,by rw [Nat.add_zero,h0];exact zbE _ _ _ _⟩ ?_
 rintro k mk u w2 hkm ⟨v,hu,hkl,hx2,hr2⟩
 obtain ⟨hu1,hu2⟩:=ze4 hu
 rw [hu1,hu2]
 have hx02:=e0.trans hx2
 have hs2:=hx2.size
 refine NIL.mk rfl ?_
 refine zaa zbs ?_
 refine zab zdW hW.code hx02 fun v19 h19=>?_
 refine (zdq h19 hx02 (by omega)).mono ?_
 rintro _ w3 ⟨hx3,rfl⟩
 rw [hz1]
 have hx03:=hx02.trans hx3
 refine zai ?_
 refine br (fun hlt=>?_) (fun hge=>?_)
 case refine_2=>
   have hk:E+k=Z+1:=by omega
   refine ⟨hx2.trans hx3,?_⟩
   rw [zlP (n:=Z+1) (by omega) fun i h1 _ h3=>by have:=hlv i h3;omega,←hk]
   exact (hr2.ext hx3).own.own
 have hk:E+k<c.ins.length:=by omega
 refine NIL.mk rfl ?_
 refine zaa zn4 ?_
 refine zab zqb hW.live hx03 fun v28 h28=>?_
 refine zad u90 ty4 (i:=E+k) h28 (by rw [zch];exact hk) fun b2 o2 hA2=>?_
 refine zdh ty4 hA2 hx03 ?_
 have hmk:=zeX (n:=c.ins.length) (p:=zeq c) (i:=E+k)
 rw [zdA (by rw [zch];exact hk)] at hmk
 have hiff:zeq c (E+k)↔zaX c p (E+k):=by
   constructor
   · rintro ⟨q,hq,hl⟩
     have h1:=zbP hc (by rw [hc.2.1.1];exact hq) hl
     have h2:=zqM hc (p:=p) (i:=E+k) hpe (by omega) (by omega)
     have:q=p:=by omega
     rwa [this] at hl
   exact fun h=>⟨p,hp,h⟩
 have hsl:=zbS (n:=E+k) (p:=zaX c p)
 refine zb4 (fun hf=>?_) (fun hf=>?_)
 · refine zcI (lo2:=w3.heap.size) (hi2:=w3.heap.size) (x:=((E+k:Nat):Int)) u33 ty3 z3 zc3 (by decide) (hr2.ext hx3) (by have:=hx3.size;omega) (zgR _ _ (by unfold I64;omega)) (by have:=hx3.size;omega) (by have:=hx3.size;omega) (by rw [zam,zaj];omega) (by rw [zaj];omega) fun v54 w9 hc9 hr9=>?_
   refine zag (by omega) ?_
   refine ⟨mk-1,by omega,k+1,by omega,v54,rfl,by omega,(hx2.trans hx3).chgI hc9 (by omega),?_⟩
   rw [←Nat.add_assoc,zic (hiff.1 (hmk.1 hf).2),zd5]
   exact hr9
 refine zag (by omega) ?_
 refine ⟨mk-1,by omega,k+1,by omega,v,rfl,by omega,hx2.trans hx3,?_⟩
 rw [←Nat.add_assoc,zhm fun h=>by rw [hmk.2 ⟨hk,hiff.2 h⟩] at hf;cases hf]
 exact (hr2.ext hx3).mono (Nat.le_refl _) hx3.size
theorem zeZ {w:World} {n:Nat} {K:Value→World→Prop} (h0:0<n) (hn:n≤1000000)
   (k:∀ w',Ext w w'→Mine [w.heap.size] w' (.slice (some ⟨w.heap.size,0,none⟩) n n) (zbA (List.replicate n 0))→K (.slice (some ⟨w.heap.size,0,none⟩) n n) w'):OP Tryz.prog (Instr.makeSlice 33 (.int .i64 (n:Int)) (.int .i64 (n:Int))) w K:=
 zfE (α:=Int) u33 ty3 rfl rfl zwr (by omega) (by omega) fun w2 hx2 hr2=>by
   refine k w2 hx2 ?_
   obtain ⟨F,hM,hF⟩:=hr2.own
   obtain ⟨b,o,cap,hv,hF2⟩:=zgQ hM (by intro e;have:=congrArg List.length e;simp at this;omega)
   simp only [Value.slice.injEq,Option.some.injEq,Addr.mk.injEq,List.cons.injEq,and_true] at hv
   obtain ⟨⟨hb,ho⟩,_⟩:=hv
   rw [←hb] at hF2
   rw [hF2] at hM
   have e:zbA (List.replicate n 0)=List.replicate n (RepZ.zv:Int):=by simp only [zbA,List.map_replicate];rfl
   rw [e];exact hM
theorem zkP {P:Program} {w:World} {K:Value→Prop} {t ty e:TypeId} {a:Option Addr} {n c:Nat} (ht:P.underlying t=some (.slice e)) (k:K (.int .i64 (n:Int))) :
   RD P (Builtin.len_ #[t] ty [Value.slice a n c].toArray) w K:=zaQ (fun w' _=>by simp [Builtin.len_,run_underlying ht];rfl) k
structure FW (w1 w:World) (g n:Nat) (out:List Nat):Prop where
 ext:Ext w1 w
 mine:Mine [g] w (.slice (some ⟨g,0,none⟩) n n) (zbA out)
 g0:w1.heap.size≤g
section
variable {w1 w w':World} {g n:Nat} {out:List Nat}
theorem FW.step (h:FW w1 w g n out) (hx:Ext w w'):FW w1 w' g n out:=⟨h.ext.trans hx,h.mine.ext hx,h.g0⟩
theorem zhp (hc:Chg [g] w w'):ChgI g (g+1) w w':=hc.toI fun b hb=>by simp only [List.mem_cons,List.not_mem_nil,or_false] at hb;omega
theorem FW.set {i v:Nat} (h:FW w1 w g n out) (hc:Chg [g] w w') (hm:Mine [g] w' (.slice (some ⟨g,0,none⟩) n n) ((zbA out).set i (v:Int))):FW w1 w' g n (out.set i v):=
 ⟨h.ext.chgI (zhp hc) h.g0,by rw [zgT];exact hm,h.g0⟩
theorem FW.lt (h:FW w1 w g n out):g<w.heap.size:=h.mine.lt g (by simp)
theorem FW.own (h:FW w1 w g n out):Own w1.heap.size w (.slice (some ⟨g,0,none⟩) n n) (zbA out):=⟨[g],h.mine,fun b hb=>by simp only [List.mem_cons,List.not_mem_nil,or_false] at hb;have:=h.g0;omega⟩
end
theorem zcF {w:World} {v:Nat} (h:v<9223372036854775808):Mine [] w (.int .i64 (v:Int)) (v:Int):=zbp (by unfold I64;omega)
def fil (n k:Nat):List Nat:=List.replicate k 63++List.replicate (n-k) 0
theorem zqS {n k:Nat} (h:k≤n):(fil n k).length=n:=by simp [fil];omega
theorem zqT {n k:Nat} (h:k<n):(fil n k).set k 63=fil n (k+1):=by
 obtain ⟨m,hm⟩:∃ m,n-k=m+1:=⟨n-k-1,by omega⟩
 unfold fil
 rw [List.set_append_right _ _ (by simp),hm,List.length_replicate,Nat.sub_self,List.replicate_succ,List.set_cons_zero,List.replicate_succ',show n-(k+1)=m by omega]
 simp
theorem zot (n:Nat):fil n n=List.replicate n 63:=by simp [fil]
structure FP (c:DCode) (T:Tab) (p h:Nat) (out0 L:List Nat) (k:Nat) (ag:Bool) (out:List Nat):Prop where
 fl:FL c T p h out
 yes:ag=true→out.sum<out0.sum
 no:ag=false→out=out0∧∀ i∈L.take k,zvS c T out0 i
structure FQ (c:DCode) (T:Tab) (p h:Nat) (out0 L:List Nat) (k i q:Nat) (ag:Bool) (out:List Nat):Prop where
 fl:FL c T p h out
 yes:ag=true→out.sum<out0.sum
 no:ag=false→out=out0∧(∀ i∈L.take k,zvS c T out0 i)∧∀ j∈(zaY c i).take q,za8 out0 j &&& aft c T i (za8 out0 i)=za8 out0 j
section
variable {c:DCode} {T:Tab} {p h k i q m:Nat} {out0 L out:List Nat} {ag:Bool}
theorem FP.enter (H:FP c T p h out0 L k ag out) (i:Nat):FQ c T p h out0 L k i 0 ag out:=⟨H.fl,H.yes,fun e=>⟨(H.no e).1,(H.no e).2,by simp⟩⟩
theorem FQ.set (H:FQ c T p h out0 L k i q ag out) (hc:CodeR c) (hp:p<c.entry.length) (hi:zaX c p i) (hq:q<(zaY c i).length) (hm:∀ l,l<6→m.testBit l=false→LostP c (tK T) (tG T) p (fun l=>h.testBit l=true) i l)
   (hne:za8 out (zaY c i)[q] &&& aft c T i m≠za8 out (zaY c i)[q]):FQ c T p h out0 L k i (q+1) true (out.set (zaY c i)[q] (za8 out (zaY c i)[q] &&& aft c T i m)):=by
 have hj:=List.getElem_mem hq
 have hjl:=(zdm hc (zbP hc hp hi).1 hj).1
 refine ⟨H.fl.updM hc hp hi hj hm,fun _=>?_,fun e=>by cases e⟩
 have h1:=zkH (l:=out) (i:=(zaY c i)[q]) (v:=za8 out (zaY c i)[q] &&& aft c T i m) (by rw [H.fl.len];exact hjl)
 have h2:=zts hne
 cases ag with
 | true=>have:=H.yes rfl;omega
 | false=>rw [(H.no rfl).1] at h1 h2 ⊢;omega
theorem FQ.skip (H:FQ c T p h out0 L k i q ag out) (hq:q<(zaY c i).length) (hz:ag=false→m=za8 out0 i) (he:za8 out (zaY c i)[q] &&& aft c T i m=za8 out (zaY c i)[q]):FQ c T p h out0 L k i (q+1) ag out:=by
 refine ⟨H.fl,H.yes,fun e=>⟨(H.no e).1,(H.no e).2.1,fun j hj=>?_⟩⟩
 rw [List.take_succ_eq_append_getElem hq] at hj
 rcases List.mem_append.1 hj with hj | hj
 · exact (H.no e).2.2 j hj
 simp only [List.mem_cons,List.not_mem_nil,or_false] at hj
 rw [(H.no e).1,hz e] at he
 rw [hj];exact he
theorem FQ.done (H:FQ c T p h out0 L k i q ag out) (hk:k<L.length) (hi:L[k]=i) (hq:(zaY c i).length≤q):FP c T p h out0 L (k+1) ag out:=by
 refine ⟨H.fl,H.yes,fun e=>⟨(H.no e).1,fun i' hi'=>?_⟩⟩
 rw [List.take_succ_eq_append_getElem hk] at hi'
 rcases List.mem_append.1 hi' with h1 | h1
 · exact (H.no e).2.1 i' h1
 simp only [List.mem_cons,List.not_mem_nil,or_false] at h1
 rw [h1,hi]
 have:=(H.no e).2.2
 rw [List.take_of_length_le hq] at this
 exact this
end
theorem znm {w W0 W1:World} {b p h:Nat} {v1:Value} {c:DCode} {T:Tab} (hW:WL W0 b c) (e0:Ext W0 w) (h1:Is W1 v1 (zie T)) (e1:Ext W1 w) (hc:CodeR c) (hT:ztr c T) (hp:p<c.procs.length) (hh:h<64) :
   CALL Tryz.prog 151 [.pointer (some ⟨b,0,none⟩),v1,.int .i64 (p:Int),.int .i64 (h:Int)] w fun r w'=>Ext w w'∧Own w.heap.size w' r (zbA (zcP c T p h)):=by
 refine F151_call ?_
 unfold F151
 have hpe:p<c.entry.length:=by rw [hc.2.1.1];exact hp
 have hil:=hc.f.ins
 obtain ⟨he1,he2,he3⟩:=zhZ hc hpe
 have hst:=FL.start (T:=T) hc hpe hh
 have hfin:=fun {out}=>FL.fin (c:=c) (T:=T) (p:=p) (h:=h) (out:=out)
 refine NIL.mk rfl ?_
 refine zaa zbs ?_
 refine zaa zaG ?_
 refine zab zdi (zao hW.code) e0 fun v22 h22=>?_
 refine zae u34 h22 ?_
 have hn:c.ins.length=c.ins.length:=rfl
 generalize hnn:c.ins.length=n at hn
 rw [hnn] at he2 hst hil
 refine zeZ (by omega) (by omega) fun w2 hx2 hM2=>?_
 have hs2:=hx2.size
 generalize hg:w.heap.size=g at *
 have hF2:FW w w2 g n (fil n 0):=⟨hx2,by simpa [fil] using hM2,by omega⟩
 refine zkP u33 ?_
 refine zaB n (fun k us w'=>us=[.int .i64 (k:Int)]∧k≤n∧FW w w' g n (fil n k)) 0 (Nat.zero_le _) ⟨rfl,Nat.zero_le _,hF2⟩ ?_
 rintro k mk u w3 hkm ⟨hu,hkl,hF3⟩
 simp only [List.map_cons,List.map_nil,List.cons.injEq,and_true] at hu
 rw [hu]
 refine zai ?_
 refine br (fun hlt=>?_) (fun hge=>?_)
 · have hk:k<n:=by omega
   refine zd6 (α:=Int) rfl u33 ty3 hk ?_
   refine zcK (α:=Int) rfl ty3 hF3.mine (by rw [zaj,zqS hkl]) hk (zcF (v:=63) (by omega)) fun w4 hc4 hm4=>?_
   have hF4:=hF3.set (v:=63) hc4 hm4
   rw [zqT hk] at hF4
   refine zag (by omega) ?_
   exact ⟨mk-1,by omega,k+1,by omega,rfl,by omega,hF4⟩
 have hk:k=n:=by omega
 rw [hk,zot] at hF3
 clear hF2 hM2 hu hkm
 refine NIL.mk rfl ?_
 refine zaa zbs ?_
 refine zaa za5 ?_
 refine zab za1 (zan hW.code) (e0.trans hF3.ext) fun v39 h39=>?_
 refine zad u33 ty3 h39 hpe fun b1 o1 hA1=>?_
 rw [zbm hpe,he1] at hA1
 refine zac ty3 hA1 (e0.trans hF3.ext) fun _=>?_
 refine zd6 (α:=Int) rfl u33 ty3 he2 ?_
 refine zcK (α:=Int) rfl ty3 hF3.mine (by rw [zaj];simp) he2 (zcF (v:=h) (by omega)) fun w4 hc4 hm4=>?_
 have hF4:=hF3.set (v:=h) hc4 hm4
 refine (zfn hW (e0.trans hF4.ext) hc hp).mono ?_
 rintro v47 w5 ⟨hx5,ho5⟩
 have hF5:=hF4.step hx5
 have hg4:=hF4.lt
 have hL:∀ i∈zcr c.ins.length (zaX c p),zaX c p i:=fun i hi=>(zbo.1 hi).2
 have hL2:∀ i,zaX c p i→i∈zcr c.ins.length (zaX c p):=fun i hi=>zbo.2 ⟨(zbP hc hpe hi).1,hi⟩
 have hLl:(zcr c.ins.length (zaX c p)).length≤1500:=Nat.le_trans zbS (by rw [hnn];omega)
 generalize zcr c.ins.length (zaX c p)=L at *
 generalize (List.replicate n 63).set (eN c p) h=out at hst hF5
 have hO5:=ho5.toI
 generalize hlo:w4.heap.size=lo at *
 generalize hhi:w5.heap.size=hi at *
 refine LOOPI.mk (fun m us w'=>∃ (ag:Bool) (out:List Nat),us=[.bool ag]∧m=out.sum+(if ag then 1 else 0)∧FW w w' g n out∧OwnI lo hi w' v47 (zbA L)∧FL c T p h out∧(ag=false→∀ i,zaX c p i→zvS c T out i)) (out.sum+1) ⟨true,out,rfl,rfl,hF5,hO5,hst,fun e=>by cases e⟩ ?_
 rintro m u w6 ⟨ag,out,hu,hm,hF6,hO6,hfl,hsh⟩
 simp only [List.map_cons,List.map_nil,List.cons.injEq,and_true] at hu
 rw [hu]
 refine zb4 (fun hag=>?_) (fun hag=>?_)
 case refine_2=>
   have:=hfin hfl hc hpe (hsh hag)
   rw [←this]
   have hoo:=hF6.own
   rw [hg] at hoo
   exact ⟨hF6.ext,hoo⟩
 rw [hag,if_pos rfl] at hm
 refine zae u33 hO6.is ?_
 rw [zaj]
 refine zaB L.length (fun k us w'=>∃ (ag:Bool) (out':List Nat),us=[.bool ag,.int .i64 (k:Int)]∧k≤L.length∧FW w w' g n out'∧OwnI lo hi w' v47 (zbA L)∧FP c T p h out L k ag out') 0 (Nat.zero_le _) ⟨false,out,rfl,Nat.zero_le _,hF6,hO6,hfl,fun e=>(by cases e),fun _=>⟨rfl,by simp⟩⟩ ?_
 rintro k mk u w7 hkm ⟨ag7,out7,hu,hkl,hF7,hO7,hP7⟩
 obtain ⟨hu1,hu2⟩:=ze4 hu;clear hu
 rw [hu1,hu2]
 refine zai ?_
 refine br (fun hlt=>?_) (fun hge=>?_)
 case refine_2=>
   refine ⟨out7.sum+(if ag7 then 1 else 0),?_,ag7,out7,rfl,rfl,hF7,hO7,hP7.fl,fun e i hi=>?_⟩
   · cases ag7 with
     | true=>have:=hP7.yes rfl;simp;omega
     | false=>rw [(hP7.no rfl).1];simp;omega
   have:=hP7.no e
   rw [this.1]
   exact this.2 i (by rw [List.take_of_length_le (by omega)];exact hL2 i hi)
 have hk:k<L.length:=by omega
 refine zad u33 ty3 (i:=k) hO7.is (by rw [zaj];exact hk) fun b2 o2 hA2=>?_
 rw [zbq] at hA2
 refine zac ty3 hA2 (Ext.refl _) fun _=>?_
 generalize hix:L[k]=i at *
 have hiv:zaX c p i:=hL i (by rw [←hix];exact List.getElem_mem hk)
 have hin:=(zbP hc hpe hiv).1
 have hx8:=zak w7
 have hF8:=hF7.step hx8
 have hO8:=hO7.ext hx8
 generalize World.drew1 w7=w8 at *
 refine NIL.mk rfl ?_
 refine zaa zbs ?_
 refine zaa zaG ?_
 refine zab zdi (zao hW.code) (e0.trans hF8.ext) fun v59 h59=>?_
 refine zad u34 zdY h59 hin fun b3 o3 hA3=>?_
 rw [zaP] at hA3
 refine zab zdY hA3 (e0.trans hF8.ext) fun v62 h62=>?_
 have hl7:=hP7.fl.len
 refine zad u33 ty3 (i:=i) hF8.mine.is (by rw [zaj,hl7];exact hin) fun b4 o4 hA4=>?_
 rw [zbX] at hA4
 refine zac ty3 hA4 (Ext.refl _) fun _=>?_
 have hm64:=hP7.fl.lt0 i
 have hmb:∀ l,l<6→(za8 out7 i).testBit l=false→LostP c (tK T) (tG T) p (fun l=>h.testBit l=true) i l:=fun l hl hb=>hP7.fl.snd i l hin hl hb
 have hmz:ag7=false→za8 out7 i=za8 out i:=fun e=>by rw [(hP7.no e).1]
 generalize za8 out7 i=mm at *
 refine (zqR h62 (e0.trans hF8.ext) h1 (e1.trans hF8.ext) hc hT hin hm64).mono ?_
 rintro _ w9 ⟨hx9,rfl⟩
 have hF9:=hF8.step hx9
 have hO9:=hO8.ext hx9
 have haf:=zvm hc hT hin hm64
 refine (ziP hW.code (e0.trans hF9.ext) hc hin).mono ?_
 rintro v71 w10 ⟨hx10,ho10⟩
 have hF10:=hF9.step hx10
 have hO10:=hO9.ext hx10
 have hg9:=hF9.lt
 have hN10:=ho10.toI
 have hl2:=ziO c i
 refine zae u33 ho10.is ?_
 rw [zaj]
 have hQ10:=hP7.enter i
 refine zaB (zaY c i).length (fun q us w'=>∃ (ag:Bool) (out':List Nat),us=[.bool ag,.int .i64 (q:Int)]∧q≤(zaY c i).length∧FW w w' g n out'∧OwnI lo hi w' v47 (zbA L)∧OwnI w9.heap.size w10.heap.size w' v71 (zbA (zaY c i))∧FQ c T p h out L k i q ag out'∧(ag=false→mm=za8 out i)) 0 (Nat.zero_le _) ⟨ag7,out7,rfl,Nat.zero_le _,hF10,hO10,hN10,hQ10,hmz⟩ ?_
 rintro q mq u w11 hqm ⟨ag11,out11,hu,hql,hF11,hO11,hN11,hQ11,hz11⟩
 obtain ⟨hu1,hu2⟩:=ze4 hu
 rw [hu1,hu2]
 refine zai ?_
 refine br (fun hlt=>?_) (fun hge=>?_)
 case refine_2=>
   refine zag (by omega) ?_
   exact ⟨mk-1,by omega,k+1,by omega,ag11,out11,rfl,by omega,hF11,hO11,hQ11.done hk hix (by omega)⟩
 have hq:q<(zaY c i).length:=by omega
 refine zad u33 ty3 (i:=q) hN11.is (by rw [zaj];exact hq) fun b5 o5 hA5=>?_
 rw [zbq] at hA5
 refine zac ty3 hA5 (Ext.refl _) fun _=>?_
 have hx12:=zak w11
 have hF12:=hF11.step hx12
 have hO12:=hO11.ext hx12
 have hN12:=hN11.ext hx12
 generalize World.drew1 w11=w12 at *
 have hj:=zdm hc hin (List.getElem_mem hq)
 have hl11:=hQ11.fl.len
 have hset:=hQ11.set (m:=mm) hc hpe hiv hq hmb
 have hskip:=hQ11.skip (m:=mm) hq hz11
 have hj64:=hQ11.fl.lt0 (zaY c i)[q]
 have hjn:=hj.1
 rw [hnn] at hjn
 generalize (zaY c i)[q]=j at *
 have hrd:∀ {w':World} {K:Value→Prop} (hF:FW w w' g n out11) (k:K (.int .i64 (za8 out11 j:Int))),RD Tryz.prog (Instr.indexAt 33 (.slice (some ⟨g,0,none⟩) n n) (.int .i64 (j:Int))) w' fun x37=>RD Tryz.prog (Instr.loadAt 3 x37) w' K:=fun hF k=>by
   refine zad u33 ty3 (i:=j) hF.mine.is (by rw [zaj,hl11];exact hj.1) fun b1 o1 hA1=>?_
   rw [zbX] at hA1
   exact zac ty3 hA1 (Ext.refl _) fun _=>k
 refine hrd hF12 ?_
 refine zgS (by omega) (by omega) ?_
 refine hrd hF12 ?_
 refine zaO ?_
 refine br (fun hne=>?_) (fun heq=>?_)
 · have hne':za8 out11 j &&& aft c T i mm≠za8 out11 j:=fun e=>hne (by rw [e])
   refine hrd hF12 ?_
   refine zgS (by omega) (by omega) ?_
   refine zd6 (α:=Int) rfl u33 ty3 hjn ?_
   have hvl:=Nat.and_le_left (n:=za8 out11 j) (m:=aft c T i mm)
   refine zcK (α:=Int) rfl ty3 hF12.mine (by rw [zaj,hl11,hnn]) hjn (zcF (v:=za8 out11 j &&& aft c T i mm) (by omega)) fun w13 hc13 hm13=>?_
   have hF13:=hF12.set (v:=za8 out11 j &&& aft c T i mm) hc13 hm13
   have hc13':=zhp hc13
   refine zag (by omega) ?_
   exact ⟨mq-1,by omega,q+1,by omega,true,_,rfl,by omega,hF13,hO12.chg hc13' (by omega),hN12.chg hc13' (by omega),hset hne',fun e=>by cases e⟩
 refine zag (by omega) ?_
 exact ⟨mq-1,by omega,q+1,by omega,ag11,out11,rfl,by omega,hF12,hO12,hN12,hskip (Int.ofNat_inj.1 (Decidable.not_not.1 heq)),hz11⟩
def F284 (a0 a1:Value) (w:World) (R:VW):Prop:=
 NIL a0 <|
 rF 92 a0 4 w fun x12=>
 rL 33 x12 w fun x13=>
 rX 33 x13 a1 w fun x15=>
 rL 3 x15 w fun x16=>
 cL 48 [x16] w fun x17 w=>
 rN 33 3 x17 w fun x18=>
 LOOPI [5,19] [(iV 63),(iV 0)] w fun u3 w next3=>
 rC (u3 19) x18 w fun x20=>
 BR x20
 (rX 33 x17 (u3 19) w fun x21=>
 rL 3 x21 w fun x22=>
 cL 183 [a0,x22] w fun x25 w=>
 rN 33 3 x25 w fun x26=>
 LOOPI [5,27] [(u3 5),(iV 0)] w fun u6 w next6=>
 rC (u6 27) x26 w fun x28=>
 BR x28
 (rX 33 x25 (u6 27) w fun x29=>
 rL 3 x29 w fun x30=>
 NIL a0 <|
 rF 92 a0 0 w fun x33=>
 rF 36 x33 4 w fun x34=>
 rL 34 x34 w fun x35=>
 rX 34 x35 x30 w fun x37=>
 rF 84 x37 0 w fun x38=>
 rL 3 x38 w fun x39=>
 rB .eql 3 T0 U0 x39 (iV 7) w fun x40=>
 BR x40
 (NIL a0 <|
 rF 92 a0 0 w fun x44=>
 rF 36 x44 4 w fun x45=>
 rL 34 x45 w fun x46=>
 rX 34 x46 x30 w fun x48=>
 rF 84 x48 1 w fun x49=>
 rL 3 x49 w fun x50=>
 rD (convert 3 105 x50) w fun x51=>
 rB .shl 3 U0 T0 (iV 1) x51 w fun x52=>
 rB .andNot 3 T0 T0 (u6 5) x52 w fun x53=>
 rA (u6 27) (iV 1) w fun x54=>
 next6 [x53,x54] w)
 (rA (u6 27) (iV 1) w fun x54=>
 next6 [(u6 5),x54] w))
 (rA (u3 19) (iV 1) w fun x55=>
 next3 [(u6 5),x55] w))
 (R (u3 5) w)
def cfg284:Cfg:=⟨extL,[],[(3,72057594037404320,[5,19]),(6,36028796884746784,[5,27])],[],[],[],[]⟩
theorem F284_call {a0 a1:Value} {w:World} {R:VW} (h:F284 a0 a1 w R):cL 284 [a0,a1] w R:=co (g:=cfg284) Tryz.func284 (by kernel_rfl) (by kernel_rfl) (by kernel_rfl) h
open Rep (rep)
theorem ziU {p:Nat→Prop} {n:Nat}:∀ {k:Nat},k≤n→zdt (zg9 p n) k=zbA (zcr k p)
 | 0,_=>rfl
 | k+1,h=>by
   rw [zdt,ziU (k:=k) (by omega)]
   by_cases hp:p k
   · rw [if_pos (zci.2 ⟨by omega,hp⟩),zic hp,zd5];rfl
   rw [if_neg fun e=>hp (zci.1 e).2,zhm hp]
theorem zdd {p:Nat→Prop} {n:Nat} (h:n≤62):zb7 (zg9 p n)=zbA (zcr n p):=by
 rw [zkG (k:=n) ziN (by omega),ziU (Nat.le_refl _)]
theorem zaR {p:Nat→Prop} {n:Nat} (h:n≤8):zg9 p n<256:=Nat.lt_of_lt_of_le ziN (Nat.pow_le_pow_right (n:=2) (by omega) h)
noncomputable def cls (c:DCode) (op:Int):List Nat:=(List.range c.procs.length).map fun p=>zg9 (zoo c p op) c.procs.length
noncomputable def frs (c:DCode):List Nat:=(List.range c.procs.length).map fun p=>zg9 (FromP c p) c.procs.length
theorem zfo (c:DCode) (op:Int):(cls c op).length=c.procs.length:=by simp [cls]
theorem zhq (c:DCode):(frs c).length=c.procs.length:=by simp [frs]
theorem ztu {c:DCode} {op:Int} {p:Nat} (hp:p<c.procs.length):za8 (cls c op) p=zg9 (zoo c p op) c.procs.length:=by rw [←zbe (by rw [zfo];exact hp)];simp [cls]
theorem zou {c:DCode} {p:Nat} (hp:p<c.procs.length):za8 (frs c) p=zg9 (FromP c p) c.procs.length:=by rw [←zbe (by rw [zhq];exact hp)];simp [frs]
noncomputable def zbK (c:DCode):Nat:=zg9 (RootP c) c.procs.length
noncomputable def zdB (c:DCode):Nat:=zg9 (UsedP c) c.procs.length
structure WAt (W0:World) (b:Nat) (c:DCode):Prop where
 wl:WL W0 b c
 calls:At W0 b (0+6) (zbA (cls c 4))
 spawns:At W0 b (0+7) (zbA (cls c 5))
 frm:At W0 b (0+8) (zbA (frs c))
 roots:At W0 b (0+9) (zbK c:Int)
 used:At W0 b (0+10) (zdB c:Int)
def KI (m:Nat) (P:Nat→Prop):Prop:=m<64∧∀ l,l<6→(m.testBit l=false↔P l)
theorem KI.start {P:Nat→Prop} (h:∀ l,¬P l):KI 63 P:=⟨by omega,fun l hl=>by rw [zgU hl];exact ⟨fun e=>(by cases e),fun e=>absurd e (h l)⟩⟩
theorem KI.drop {m a:Nat} {P P':Nat→Prop} (h:KI m P) (hP:∀ l,P' l↔P l∨a=l):KI (zpY m (2^a)) P':=by
 refine ⟨Nat.lt_of_le_of_lt (zne _ _) h.1,fun l hl=>?_⟩
 rw [zfK,Nat.testBit_two_pow,hP,←h.2 l hl]
 simp only [Bool.and_eq_false_iff,Bool.not_eq_false',decide_eq_true_eq]
theorem KI.congr {m:Nat} {P P':Nat→Prop} (h:KI m P) (hP:∀ l,P' l↔P l):KI m P':=⟨h.1,fun l hl=>by rw [h.2 l hl,hP]⟩
theorem KI.eq {m:Nat} {P:Nat→Prop} (h:KI m P):m=m6 fun l=>¬P l:=zsu h.1 fun l hl=>by rw [←h.2 l hl];simp
theorem zbu {α:Type} {l:List α} {k:Nat} (hk:k<l.length) {x:α}:x∈l.take (k+1)↔x∈l.take k∨x=l[k]:=by
 rw [List.take_succ_eq_append_getElem hk,List.mem_append];simp
def ztv (c:DCode) (q l:Nat):Prop:=∃ i,zaX c q i∧(zap c i).op=7∧agN c i=l
theorem zqU {w W0:World} {b p:Nat} {c:DCode} (hW:WAt W0 b c) (e0:Ext W0 w) (hc:CodeR c) (hp:p<c.procs.length) :
   CALL Tryz.prog 284 [.pointer (some ⟨b,0,none⟩),.int .i64 (p:Int)] w fun r w'=>Ext w w'∧r=.int .i64 (zgg c p:Nat):=by
 refine F284_call ?_
 unfold F284
 have h8:=hc.1.procs8
 have hil:=hc.f.ins
 refine NIL.mk rfl ?_
 refine zaa zlo ?_
 refine zab za1 hW.frm e0 fun v13 h13=>?_
 refine zad u33 ty3 h13 (by rw [zaj,zhq];exact hp) fun b1 o1 hA1=>?_
 rw [zbX,zou hp] at hA1
 refine zac ty3 hA1 e0 fun _=>?_
 have hsm:=zaR (p:=FromP c p) h8.1
 refine (zcY (m:=zg9 (FromP c p) c.procs.length) (by omega)).mono ?_
 rintro v17 w1 ⟨hx1,ho1⟩
 rw [zdd (by omega)] at ho1
 have hL:∀ q,q∈zcr c.procs.length (FromP c p)↔q<c.procs.length∧FromP c p q:=fun q=>zbo
 have hLl:=zbS (n:=c.procs.length) (p:=FromP c p)
 generalize zcr c.procs.length (FromP c p)=L at *
 refine zae u33 ho1.is ?_
 rw [zaj]
 refine zaB L.length (fun k us w'=>∃ m:Nat,us=[.int .i64 (m:Int),.int .i64 (k:Int)]∧k≤L.length∧Ext w1 w'∧KI m (fun l=>∃ q∈L.take k,ztv c q l)) 0 (Nat.zero_le _) ⟨63,rfl,Nat.zero_le _,Ext.refl _,KI.start (by simp)⟩ ?_
 rintro k mk u w2 hkm ⟨m,hu,hkl,hx2,hK⟩
 obtain ⟨hu1,hu2⟩:=ze4 hu;clear hu
 rw [hu1,hu2]
 refine zai ?_
 refine br (fun hlt=>?_) (fun hge=>?_)
 case refine_2=>
   rw [show L.take k=L from List.take_of_length_le (by omega)] at hK
   refine ⟨hx1.trans hx2,?_⟩
   have:m=zgg c p:=by
     rw [hK.eq]
     refine zsv fun l hl=>not_congr ?_
     constructor
     · rintro ⟨q,hq,i,h1,h2,h3⟩
       exact ⟨q,i,((hL q).1 hq).1,((hL q).1 hq).2,h1,h2,h3⟩
     rintro ⟨q,i,h0,hf,h1,h2,h3⟩
     exact ⟨q,(hL q).2 ⟨h0,hf⟩,i,h1,h2,h3⟩
   rw [this]
 have hk:k<L.length:=by omega
 refine zad u33 ty3 (i:=k) (ho1.is) (by rw [zaj];exact hk) fun b2 o2 hA2=>?_
 rw [zbq] at hA2
 refine zac ty3 hA2 hx2 fun _=>?_
 have hq:=(hL L[k]).1 (List.getElem_mem hk)
 have htk:=fun x=>zbu hk (x:=x)
 generalize L[k]=q at *
 have hx02:=(e0.trans hx1).trans hx2
 refine (zfn hW.wl hx02 hc hq.1).mono ?_
 rintro v25 w3 ⟨hx3,ho3⟩
 have hM:∀ i,i∈zcr c.ins.length (zaX c q)↔i<c.ins.length∧zaX c q i:=fun i=>zbo
 have hMl:=zbS (n:=c.ins.length) (p:=zaX c q)
 generalize zcr c.ins.length (zaX c q)=M at *
 refine zae u33 ho3.is ?_
 rw [zaj]
 refine zaB M.length (fun j us w'=>∃ m:Nat,us=[.int .i64 (m:Int),.int .i64 (j:Int)]∧j≤M.length∧Ext w3 w'∧KI m (fun l=>(∃ q∈L.take k,ztv c q l)∨∃ i∈M.take j,(zap c i).op=7∧agN c i=l)) 0 (Nat.zero_le _) ⟨m,rfl,Nat.zero_le _,Ext.refl _,hK.congr fun l=>by simp⟩ ?_
 rintro j mj u w4 hjm ⟨m4,hu,hjl,hx4,hK4⟩
 obtain ⟨hu1,hu2⟩:=ze4 hu
 rw [hu1,hu2]
 refine zai ?_
 refine br (fun hlt=>?_) (fun hge=>?_)
 case refine_2=>
   rw [show M.take j=M from List.take_of_length_le (by omega)] at hK4
   refine zag (by omega) ?_
   refine ⟨mk-1,by omega,k+1,by omega,m4,rfl,by omega,hx2.trans (hx3.trans hx4),hK4.congr fun l=>?_⟩
   constructor
   · rintro ⟨r,hr,h1⟩
     rcases (htk r).1 hr with hr | rfl
     · exact .inl ⟨r,hr,h1⟩
     obtain ⟨i,h1,h2,h3⟩:=h1
     exact .inr ⟨i,(hM i).2 ⟨(zbP hc (by rw [hc.2.1.1];exact hq.1) h1).1,h1⟩,h2,h3⟩
   rintro (⟨r,hr,h1⟩ | ⟨i,hi,h2,h3⟩)
   · exact ⟨r,(htk r).2 (.inl hr),h1⟩
   exact ⟨q,(htk q).2 (.inr rfl),i,((hM i).1 hi).2,h2,h3⟩
 have hj:j<M.length:=by omega
 refine zad u33 ty3 (i:=j) (ho3.is) (by rw [zaj];exact hj) fun b3 o3 hA3=>?_
 rw [zbq] at hA3
 refine zac ty3 hA3 hx4 fun _=>?_
 have hi:=(hM M[j]).1 (List.getElem_mem hj)
 have htj:=fun x=>zbu hj (x:=x)
 generalize M[j]=i at *
 have hx04:=hx02.trans (hx3.trans hx4)
 refine NIL.mk rfl ?_
 refine zaa zbs ?_
 refine zaa zaG ?_
 refine zab zdi (zao hW.wl.code) hx04 fun v35 h35=>?_
 refine zad u34 zdY h35 hi.1 fun b4 o4 hA4=>?_
 rw [zaP] at hA4
 refine zaa zbx ?_
 refine zac ty3 (zaC hA4) hx04 fun _=>?_
 refine zaf ?_
 refine br (fun c7=>?_) (fun c7=>?_)
 · obtain ⟨ha,_,hq6⟩:=znj hc hi.1 (.inr c7)
   have hpw:=znl hq6
   refine NIL.mk rfl ?_
   refine zaa zbs ?_
   refine zaa zaG ?_
   refine zab zdi (zao hW.wl.code) hx04 fun v46 h46=>?_
   refine zad u34 zdY h46 hi.1 fun b5 o5 hA5=>?_
   rw [zaP] at hA5
   refine zaa zby ?_
   refine zac ty3 (zaD hA5) hx04 fun _=>?_
   rw [ha]
   refine zdU (by kernel_rfl) zqd (by omega) ?_
   refine zeQ (by omega) ?_
   have h64:=hK4.1
   refine ziQ (m:=m4) (n:=2^agN c i) (by omega) (by omega) ?_
   refine zag (by omega) ?_
   refine ⟨mj-1,by omega,j+1,by omega,_,rfl,by omega,hx4,hK4.drop fun l=>?_⟩
   constructor
   · rintro (h | ⟨r,hr,h1,h2⟩)
     · exact .inl (.inl h)
     rcases (htj r).1 hr with hr | rfl
     · exact .inl (.inr ⟨r,hr,h1,h2⟩)
     exact .inr h2
   rintro ((h | ⟨r,hr,h1⟩) | h)
   · exact .inl h
   · exact .inr ⟨r,(htj r).2 (.inl hr),h1⟩
   exact .inr ⟨i,(htj i).2 (.inr rfl),c7,h⟩
 refine zag (by omega) ?_
 refine ⟨mj-1,by omega,j+1,by omega,_,rfl,by omega,hx4,hK4.congr fun l=>?_⟩
 constructor
 · rintro (h | ⟨r,hr,h1,h2⟩)
   · exact .inl h
   rcases (htj r).1 hr with hr | rfl
   · exact .inr ⟨r,hr,h1,h2⟩
   exact absurd h1 c7
 rintro (h | ⟨r,hr,h1⟩)
 · exact .inl h
 exact .inr ⟨r,(htj r).2 (.inl hr),h1⟩
def F229 (a0 a1 a2:Value) (w:World) (R:VW):Prop:=
 (fun w=>NIL a0 <|
 rF 92 a0 0 w fun x13=>
 rL 36 x13 w fun x14=>
 (fun w_=>cL 151 [a0,a1,a2,(iV 0)] w_ fun x10 w=>
 Ext w_ w ∧
 cL 119 [x14,a2] w fun x16 w=>
 rB .sub 3 T0 U0 x16 (iV 1) w fun x17=>
 rX 33 x10 x17 w fun x18=>
 rL 3 x18 w fun x19=>
 R x19 w) w) (World.drew1 w)
def cfg229:Cfg:=⟨extL,[],[],[(1,[0,1,2,4,5,6,7,8,3,9,10,11,12,13],8)],[],[],[]⟩
theorem F229_call {a0 a1 a2:Value} {w:World} {R:VW} (h:F229 a0 a1 a2 w R):cL 229 [a0,a1,a2] w R:=co (g:=cfg229) Tryz.func229 (by kernel_rfl) (by kernel_rfl) (by kernel_rfl) h
def F228 (a0:Value) (w:World) (R:VW):Prop:=
 NIL a0 <|
 rF 92 a0 0 w fun x7=>
 rF 36 x7 2 w fun x8=>
 rL 24 x8 w fun x9=>
 rN 24 3 x9 w fun x10=>
 LOOPI [3,11] [(Value.slice none 0 0),(iV 0)] w fun u3 w next3=>
 rC (u3 11) x10 w fun x12=>
 BR x12
 (cL 284 [a0,(u3 11)] w fun x17 w=>
 rD (Instr.build 244 #[(0,x17),(1,(iV 63))]) w fun x18=>
 oP (Instr.buildSlice 172 1 #[(0,x18)]) w fun x19 w=>
 oP (Builtin.append_ #[172,172] 172 [(u3 3),x19].toArray) w fun x20 w=>
 rA (u3 11) (iV 1) w fun x21=>
 next3 [x20,x21] w)
 (R (u3 3) w)
def cfg228:Cfg:=⟨extL,[],[(3,4192280,[3,11])],[],[],[],[]⟩
theorem F228_call {a0:Value} {w:World} {R:VW} (h:F228 a0 w R):cL 228 [a0] w R:=co (g:=cfg228) Tryz.func228 (by kernel_rfl) (by kernel_rfl) (by kernel_rfl) h
def F149 (a0:Value) (w:World) (R:VW):Prop:=
 cL 228 [a0] w fun x8 w=>
 LOOPI [4] [(Value.bool true)] w fun u3 w next3=>
 BR (u3 4)
 (rN 172 3 x8 w fun x11=>
 LOOPI [4,12] [(Value.bool false),(iV 0)] w fun u6 w next6=>
 rC (u6 12) x11 w fun x13=>
 BR x13
 (cL 229 [a0,x8,(u6 12)] w fun x18 w=>
 rX 172 x8 (u6 12) w fun x22=>
 rF 244 x22 1 w fun x23=>
 rL 3 x23 w fun x24=>
 rB .neq 3 T0 T0 x18 x24 w fun x25=>
 BR x25
 (rX 172 x8 (u6 12) w fun x29=>
 rF 244 x29 1 w fun x30=>
 oS 3 x30 x18 w fun w=>
 rA (u6 12) (iV 1) w fun x31=>
 next6 [(Value.bool true),x31] w)
 (rA (u6 12) (iV 1) w fun x31=>
 next6 [(u6 4),x31] w))
 (next3 [(u6 4)] w))
 (R x8 w)
def cfg149:Cfg:=⟨extL,[],[(3,4294966896,[4]),(6,4294963312,[4,12])],[],[],[],[]⟩
theorem F149_call {a0:Value} {w:World} {R:VW} (h:F149 a0 w R):cL 149 [a0] w R:=co (g:=cfg149) Tryz.func149 (by kernel_rfl) (by kernel_rfl) (by kernel_rfl) h
open Rep (rep)
theorem ziV {c:DCode} (hc:CodeR c) {p:Nat} (hp:p<c.procs.length):zdl c p=((zN c p+1:Nat):Int)∧zen c p=(zN c p:Int)∧zN c p<c.ins.length:=by
 have h:=zni hc (p:=p) (by rw [hc.2.1.1];exact hp)
 refine ⟨by omega,?_,h.2.2⟩
 rw [zcV];omega
theorem zsC {w W0 W1:World} {b p:Nat} {v1:Value} {c:DCode} {T:Tab} (hW:WL W0 b c) (e0:Ext W0 w) (h1:Is W1 v1 (zie T)) (e1:Ext W1 w) (hc:CodeR c) (hT:ztr c T) (hp:p<c.procs.length) :
   CALL Tryz.prog 229 [.pointer (some ⟨b,0,none⟩),v1,.int .i64 (p:Int)] w fun r w'=>Ext w w'∧r=.int .i64 (zdM c T p:Nat):=by
 refine F229_call ?_
 unfold F229
 obtain ⟨hz1,hz2,hz3⟩:=ziV hc hp
 have hil:=hc.f.ins
 have h8:=hc.1.procs8
 have hxd:=zak w
 generalize World.drew1 w=w1 at *
 refine NIL.mk rfl ?_
 refine zaa zbs ?_
 refine zab zdW hW.code (e0.trans hxd) fun v14 h14=>?_
 refine (znm hW (e0.trans hxd) h1 (e1.trans hxd) hc hT hp (h:=0) (by omega)).mono ?_
 rintro v10 w2 ⟨hx2,ho2⟩
 refine ⟨hx2,?_⟩
 refine (zdq h14 ((e0.trans hxd).trans hx2) (by omega)).mono ?_
 rintro _ w3 ⟨hx3,rfl⟩
 rw [hz1]
 refine za3 (by unfold I64;omega) ?_
 rw [show ((zN c p+1:Nat):Int)-1=(zN c p:Int) by omega]
 refine zad u33 ty3 ho2.is (by rw [zaj,zfl];exact hz3) fun b1 o1 hA1=>?_
 rw [zbX] at hA1
 refine zac ty3 hA1 hx3 fun _=>?_
 exact ⟨hxd.trans (hx2.trans hx3),rfl⟩
noncomputable def zsD (c:DCode) (k:Nat):Tab:=(List.range k).map fun p=>(zgg c p,63)
theorem zqV (c:DCode) (k:Nat):zie (zsD c (k+1))=zie (zsD c k)++[zsA (zgg c k,63)]:=by simp [zsD,zie,List.range_succ]
theorem zov (c:DCode) (k:Nat):(zie (zsD c k)).length=k:=by simp [zsD,zie]
theorem zsE {w:World} (lo hi:Nat) {x:Nat×Nat} (h1:x.1<64) (h2:x.2<64):OwnI lo hi w (.agg #[.int .i64 (x.1:Int),.int .i64 (x.2:Int)]) (zsA x):=
 ⟨[],zpp (x:=zsA x) (by unfold zsA I64;simp only;omega) (by unfold zsA I64;simp only;omega),by simp⟩
theorem ziW {w W0:World} {b:Nat} {c:DCode} (hW:WAt W0 b c) (e0:Ext W0 w) (hc:CodeR c) :
   CALL Tryz.prog 228 [.pointer (some ⟨b,0,none⟩)] w fun r w'=>Ext w w'∧Own w.heap.size w' r (zie (zsD c c.procs.length)):=by
 refine F228_call ?_
 unfold F228
 have h8:=hc.1.procs8
 refine NIL.mk rfl ?_
 refine zaa zbs ?_
 refine zaa zcC ?_
 refine zab zcQ (zaW hW.wl.code) e0 fun v9 h9=>?_
 refine zae u24 h9 ?_
 refine zaB c.procs.length (fun k us w'=>∃ v:Value,us=[v,.int .i64 (k:Int)]∧k≤c.procs.length∧Ext w w'∧RowI w.heap.size w'.heap.size 244 w' v (zie (zsD c k))) 0 (Nat.zero_le _) ⟨_,rfl,Nat.zero_le _,Ext.refl _,zbE _ _ _ _⟩ ?_
 rintro k mk u w2 hkm ⟨v,hu,hkl,hx2,hr2⟩
 obtain ⟨hu1,hu2⟩:=ze4 hu
 rw [hu1,hu2]
 refine zai ?_
 refine br (fun hlt=>?_) (fun hge=>?_)
 case refine_2=>
   have:k=c.procs.length:=by omega
   rw [this] at hr2
   exact ⟨hx2,hr2.own.own⟩
 have hk:k<c.procs.length:=by omega
 have hs2:=hx2.size
 refine (zqU hW (e0.trans hx2) hc hk).mono ?_
 rintro _ w3 ⟨hx3,rfl⟩
 have hs3:=hx3.size
 refine zaT (cells:=#[.int .i64 (zgg c k:Nat),.int .i64 63]) (by kernel_rfl) ?_
 refine zcI (lo2:=w3.heap.size) (hi2:=w3.heap.size) (x:=zsA (zgg c k,63)) zuW zqg zwE zvZ (by decide) (hr2.ext hx3) (by omega) (zsE _ _ (x:=(zgg c k,63)) zng (by omega)) (by omega) (by omega) (by rw [zam,zov];omega) (by rw [zov];omega) fun v54 w9 hc9 hr9=>?_
 refine zag (by omega) ?_
 refine ⟨mk-1,by omega,k+1,by omega,v54,rfl,by omega,(hx2.trans hx3).chgI hc9 (Nat.le_refl _),?_⟩
 rw [zqV]
 exact hr9
structure FE (w1 w:World) (g:Nat) (v:Value) (T:Tab):Prop where
 ext:Ext w1 w
 mine:Mine [g] w v (zie T)
 g0:w1.heap.size≤g
section
variable {w1 w w':World} {g:Nat} {v:Value} {T:Tab}
theorem FE.step (h:FE w1 w g v T) (hx:Ext w w'):FE w1 w' g v T:=⟨h.ext.trans hx,h.mine.ext hx,h.g0⟩
theorem FE.own (h:FE w1 w g v T):Own w1.heap.size w v (zie T):=⟨[g],h.mine,fun b hb=>by simp only [List.mem_cons,List.not_mem_nil,or_false] at hb;have:=h.g0;omega⟩
theorem FE.make (ho:Own w1.heap.size w v (zie T)) (hx:Ext w1 w) (hT:T≠[]):∃ g,FE w1 w g v T:=by
 obtain ⟨F,hm,hF⟩:=ho
 obtain ⟨b,o,cap,hv,rfl⟩:=zgQ hm (by intro e;exact hT (List.map_eq_nil_iff.1 e))
 exact ⟨b,hx,hm,hF b (by simp)⟩
theorem zua {q m:Nat} {K:World→Prop} (h:FE w1 w g v T) (hT:T≠[]) (hq:q<T.length) (hm:m<64) (k:∀ w',FE w1 w' g v (T.set q ((tbl T q).1,m))→ChgI g (g+1) w w'→K w') :
   RD Tryz.prog (Instr.indexAt 172 v (.int .i64 (q:Int))) w fun a=>RD Tryz.prog (Instr.fieldAt 244 a 1) w fun f=>OPU Tryz.prog (Instr.storeAt 3 f (.int .i64 (m:Int))) w K:=by
 refine zvc (α:=DEffect) (β:=Int) (sel:=DEffect.gen) (g:=fun a y=>⟨a.keep,y⟩) zuW zqg zmQ ty3 (fun h=>zjr h) h.mine (by rw [zfN];exact hq) (zcF (v:=m) (by omega)) fun w2 F2 hc2 hm2 hF2=>?_
 have hF:F2=[g]:=by
   obtain ⟨b,o,cap,hv,rfl⟩:=zgQ hm2 (by intro e;have:=congrArg List.length e;rw [List.length_set,zfN] at this;simp only [List.length_nil] at this;omega)
   have:=hF2 b (by simp)
   simpa using this
 subst hF
 have hcc:=zhp hc2
 refine k w2 ⟨h.ext.chgI hcc h.g0,?_,h.g0⟩ hcc
 rw [zsB]
 rw [zif] at hm2
 exact hm2
end
theorem zub {c:DCode} (hc:CodeR c):EI c (zsD c c.procs.length):=EI.start c hc
theorem EI.len {c:DCode} {T:Tab} (h:EI c T):T.length=c.procs.length:=h.tab.1
theorem EI.ne {c:DCode} (hc:CodeR c) {T:Tab} (h:EI c T):T≠[]:=fun e=>by
 have h1:=h.len
 have h2:=hc.1.procs8
 rw [e] at h1;simp at h1;omega
structure EP (c:DCode) (T0:Tab) (k:Nat) (ag:Bool) (T:Tab):Prop where
 ei:EI c T
 yes:ag=true→ztt T<ztt T0
 no:ag=false→T=T0∧∀ p,p<k→zdM c T0 p=(tbl T0 p).2
theorem EP.set {c:DCode} (hc:CodeR c) {T0 T:Tab} {k:Nat} {ag:Bool} (H:EP c T0 k ag T) (hk:k<c.procs.length) (hne:zdM c T k≠(tbl T k).2):EP c T0 (k+1) true (T.set k ((tbl T k).1,zdM c T k)):=by
 refine ⟨H.ei.upd hc hk,fun _=>?_,fun e=>by cases e⟩
 have h1:=zsx (T:=T) (p:=k) (v:=((tbl T k).1,zdM c T k)) (by rw [H.ei.len];exact hk)
 have h2:=H.ei.le hc hk
 simp only at h1
 cases ag with
 | true=>have:=H.yes rfl;omega
 | false=>rw [(H.no rfl).1] at h1 h2 hne ⊢;omega
theorem EP.skip {c:DCode} {T0 T:Tab} {k:Nat} {ag:Bool} (H:EP c T0 k ag T) (he:zdM c T k=(tbl T k).2):EP c T0 (k+1) ag T:=
 ⟨H.ei,H.yes,fun e=>⟨(H.no e).1,fun p hp=>by
   by_cases h:p=k
   · subst h;rw [(H.no e).1] at he;exact he
   exact (H.no e).2 p (by omega)⟩⟩
theorem zpq {w W0:World} {b:Nat} {c:DCode} (hW:WAt W0 b c) (e0:Ext W0 w) (hc:CodeR c) :
   CALL Tryz.prog 149 [.pointer (some ⟨b,0,none⟩)] w fun r w'=>Ext w w'∧Own w.heap.size w' r (zie (zdx c)):=by
 refine F149_call ?_
 unfold F149
 have h8:=hc.1.procs8
 refine (ziW hW e0 hc).mono ?_
 rintro v8 w1 ⟨hx1,ho1⟩
 have hE1:=zub hc
 obtain ⟨g,hF1⟩:=FE.make ho1 hx1 (hE1.ne hc)
 generalize zsD c c.procs.length=T at *
 refine LOOPI.mk (fun m us w'=>∃ (ag:Bool) (T:Tab),us=[.bool ag]∧m=ztt T+(if ag then 1 else 0)∧FE w w' g v8 T∧EI c T∧(ag=false→∀ p,p<c.procs.length→zdM c T p=(tbl T p).2)) (ztt T+1) ⟨true,T,rfl,rfl,hF1,hE1,fun e=>by cases e⟩ ?_
 rintro m u w2 ⟨ag,T,hu,hm,hF2,hE2,hsh⟩
 simp only [List.map_cons,List.map_nil,List.cons.injEq,and_true] at hu
 rw [hu]
 refine zb4 (fun hag=>?_) (fun hag=>?_)
 case refine_2=>
   rw [hE2.fin hc (hsh hag)] at hF2
   exact ⟨hF2.ext,hF2.own⟩
 rw [hag,if_pos rfl] at hm
 refine zae zuW hF2.mine.is ?_
 rw [zfN,hE2.len]
 refine zaB c.procs.length (fun k us w'=>∃ (ag:Bool) (T':Tab),us=[.bool ag,.int .i64 (k:Int)]∧k≤c.procs.length∧FE w w' g v8 T'∧EP c T k ag T') 0 (Nat.zero_le _) ⟨false,T,rfl,Nat.zero_le _,hF2,hE2,fun e=>(by cases e),fun _=>⟨rfl,fun p hp=>by omega⟩⟩ ?_
 rintro k mk u w3 hkm ⟨ag3,T3,hu,hkl,hF3,hP3⟩
 obtain ⟨hu1,hu2⟩:=ze4 hu
 rw [hu1,hu2]
 refine zai ?_
 refine br (fun hlt=>?_) (fun hge=>?_)
 case refine_2=>
   refine ⟨ztt T3+(if ag3 then 1 else 0),?_,ag3,T3,rfl,rfl,hF3,hP3.ei,fun e p hp=>?_⟩
   · cases ag3 with
     | true=>have:=hP3.yes rfl;simp;omega
     | false=>rw [(hP3.no rfl).1];simp;omega
   have:=hP3.no e
   rw [this.1]
   exact this.2 p (by omega)
 have hk:k<c.procs.length:=by omega
 refine (zsC hW.wl (e0.trans hF3.ext) hF3.mine.is (Ext.refl _) hc hP3.ei.tab hk).mono ?_
 rintro _ w4 ⟨hx4,rfl⟩
 have hF4:=hF3.step hx4
 have hal:=zkM (T:=T3) hc hk
 have hgl:=hP3.ei.tab.2 k
 have hkT:k<T3.length:=by rw [hP3.ei.len];exact hk
 refine zad zuW zqg hF4.mine.is (by rw [zfN];exact hkT) fun b1 o1 hA1=>?_
 rw [zif] at hA1
 refine zaa zmQ ?_
 refine zac ty3 (zhO hA1) (Ext.refl _) fun _=>?_
 refine zaO ?_
 refine br (fun hne=>?_) (fun heq=>?_)
 · refine zua hF4 (hP3.ei.ne hc) hkT hal fun w5 hF5 hc5=>?_
   refine zag (by omega) ?_
   exact ⟨mk-1,by omega,k+1,by omega,true,_,rfl,by omega,hF5,hP3.set hc hk fun e=>hne (by rw [e];rfl)⟩
 refine zag (by omega) ?_
 exact ⟨mk-1,by omega,k+1,by omega,ag3,T3,rfl,by omega,hF4,hP3.skip (Int.ofNat_inj.1 (Decidable.not_not.1 heq))⟩
def F150 (a0 a1:Value) (w:World) (R:VW):Prop:=
 NIL a0 <|
 rF 92 a0 0 w fun x16=>
 rF 36 x16 2 w fun x17=>
 rL 24 x17 w fun x18=>
 rN 24 3 x18 w fun x19=>
 oP (Instr.makeSlice 33 x19 x19) w fun x20 w=>
 rN 33 3 x20 w fun x22=>
 LOOPI [23] [(iV 0)] w fun u3 w next3=>
 rC (u3 23) x22 w fun x24=>
 BR x24
 (NIL a0 <|
 rF 92 a0 5 w fun x28=>
 rL 3 x28 w fun x29=>
 cL 110 [x29,(u3 23)] w fun x31 w=>
 rD (Op.unary .not x31) w fun x32=>
 BR x32
 (rX 33 x20 (u3 23) w fun x35=>
 oS 3 x35 (iV 63) w fun w=>
 rA (u3 23) (iV 1) w fun x36=>
 next3 [x36] w)
 (rA (u3 23) (iV 1) w fun x36=>
 next3 [x36] w))
 (LOOPI [7] [(Value.bool true)] w fun u9 w next9=>
 BR (u9 7)
 (NIL a0 <|
 rF 92 a0 6 w fun x40=>
 rL 3 x40 w fun x41=>
 cL 48 [x41] w fun x42 w=>
 rN 33 3 x42 w fun x43=>
 LOOPI [7,44] [(Value.bool false),(iV 0)] w fun u12 w next12=>
 rC (u12 44) x43 w fun x45=>
 BR x45
 (rX 33 x42 (u12 44) w fun x46=>
 rL 3 x46 w fun x47=>
 rX 33 x20 x47 w fun x53=>
 rL 3 x53 w fun x54=>
 cL 151 [a0,a1,x47,x54] w fun x55 w=>
 cL 183 [a0,x47] w fun x58 w=>
 rN 33 3 x58 w fun x59=>
 LOOPI [7,60] [(u12 7),(iV 0)] w fun u16 w next16=>
 rC (u16 60) x59 w fun x61=>
 BR x61
 (rX 33 x58 (u16 60) w fun x62=>
 rL 3 x62 w fun x63=>
 NIL a0 <|
 rF 92 a0 0 w fun x66=>
 rF 36 x66 4 w fun x67=>
 rL 34 x67 w fun x68=>
 rX 34 x68 x63 w fun x70=>
 rL 84 x70 w fun x71=>
 oP (Instr.alloc 84 true (.tuple #[])) w fun x13 w=>
 oS 84 x13 x71 w fun w=>
 (fun w=>rF 84 x13 0 w fun x72=>
 rL 3 x72 w fun x73=>
 rB .eql 3 T0 U0 x73 (iV 4) w fun x74=>
 BR x74
 (rF 84 x13 1 w fun x77=>
 rL 3 x77 w fun x78=>
 rX 33 x20 x78 w fun x79=>
 rL 3 x79 w fun x80=>
 rX 33 x55 x63 w fun x83=>
 rL 3 x83 w fun x84=>
 rB .and 3 T0 T0 x80 x84 w fun x85=>
 rF 84 x13 1 w fun x87=>
 rL 3 x87 w fun x88=>
 rX 33 x20 x88 w fun x89=>
 rL 3 x89 w fun x90=>
 rB .neq 3 T0 T0 x85 x90 w fun x91=>
 BR x91
 ((fun w=>rF 84 x13 1 w fun x94=>
 rL 3 x94 w fun x95=>
 rX 33 x20 x95 w fun x96=>
 rL 3 x96 w fun x97=>
 rX 33 x55 x63 w fun x100=>
 rL 3 x100 w fun x101=>
 rB .and 3 T0 T0 x97 x101 w fun x102=>
 rX 33 x20 x95 w fun x103=>
 oS 3 x103 x102 w fun w=>
 rA (u16 60) (iV 1) w fun x104=>
 next16 [(Value.bool true),x104] w) (World.drew1 w))
 (rA (u16 60) (iV 1) w fun x104=>
 next16 [(u16 7),x104] w))
 (rA (u16 60) (iV 1) w fun x104=>
 next16 [(u16 7),x104] w)) (World.drew1 w))
 (rA (u12 44) (iV 1) w fun x105=>
 next12 [(u16 7),x105] w))
 (next9 [(u12 7)] w))
 (R x20 w))
def cfg150:Cfg:=⟨extL,[],[(3,137430564928,[23]),(9,81129638414606681695651566204544,[7]),(12,81129638414606681678196819113600,[7,44]),(16,40564819207302187926389895737472,[7,60])],[(19,[0,1,2,3,4,5,6,7,8,9,10,11,12,13,14,15,16,17,18,19,20],0),(20,[0,1,2,3,4,5,6,7,8,9,10,11],0)],[],[],[]⟩
theorem F150_call {a0 a1:Value} {w:World} {R:VW} (h:F150 a0 a1 w R):cL 150 [a0,a1] w R:=co (g:=cfg150) Tryz.func150 (by kernel_rfl) (by kernel_rfl) (by kernel_rfl) h
open Rep (rep)
theorem BI.updM {c:DCode} (hc:CodeR c) {out:List Nat} (h:BI c out) {p i hh:Nat} (hu:UsedP c p) (hi:zaX c p i) (ho:(zap c i).op=4) (hgz:∀ l,l<6→hh.testBit l=false→LostM c (tK (zdx c)) (tG (zdx c)) p none l) :
   BI c (out.set (agN c i) (za8 out (agN c i) &&& za8 (zcP c (zdx c) p hh) i)):=by
 have hp:=hu.lt hc
 have hil:=(zbP hc (by rw [hc.2.1.1];exact hp) hi).1
 have hq:=(zcs hc hil (.inl ho)).2
 refine ⟨by simp [h.len],fun x hx=>?_,fun r l hr hl hb=>?_,fun r l hr hl=>?_⟩
 · rcases zeW hx with rfl | hx
   · exact Nat.lt_of_le_of_lt Nat.and_le_left (h.lt0 _)
   exact h.lt x hx
 · rw [zcj (by rw [h.len];exact hq)] at hb
   split at hb
   · rename_i e
     subst e
     rw [Nat.testBit_and,Bool.and_eq_false_iff] at hb
     rcases hb with hb | hb
     · exact h.snd _ l hr hl hb
     refine .call hu hi ho ?_
     have k:=(zkO hil hl).1 hb
     have key:∀ {i l:Nat},l<6→LostP c (tK (zdx c)) (tG (zdx c)) p (fun l=>hh.testBit l=true) i l→LostM c (tK (zdx c)) (tG (zdx c)) p (some i) l:=fun {i l} hl k=>by
       induction k with
       | ent h0=>exact .ent (hgz _ hl (by simpa using h0))
       | gen h0 hj h1=>exact .gen h0 hj h1
       | pass h0 hj _ h2 ih=>exact .pass h0 hj (ih hl) h2
     exact key hl k
   exact h.snd r l hr hl hb
 rw [zcj (by rw [h.len];exact hq)]
 split
 · rename_i e
   rw [Nat.testBit_and,e,h.root r l hr hl];rfl
 exact h.root r l hr hl
def CL (c:DCode) (out:List Nat) (p i:Nat):Prop:=za8 out (agN c i) &&& za8 (zcP c (zdx c) p (za8 out p)) i=za8 out (agN c i)
structure BQ (c:DCode) (out0:List Nat) (ag:Bool) (out:List Nat) (D:Nat→Nat→Prop):Prop where
 bi:BI c out
 yes:ag=true→out.sum<out0.sum
 no:ag=false→out=out0∧∀ p i,D p i→UsedP c p→zaX c p i→(zap c i).op=4→CL c out0 p i
theorem BQ.mono {c:DCode} {out0 out:List Nat} {ag:Bool} {D D':Nat→Nat→Prop} (H:BQ c out0 ag out D) (h:∀ p i,UsedP c p→zaX c p i→(zap c i).op=4→D' p i→D p i):BQ c out0 ag out D':=
 ⟨H.bi,H.yes,fun e=>⟨(H.no e).1,fun p i hd hu hl ho=>(H.no e).2 p i (h p i hu hl ho hd) hu hl ho⟩⟩
theorem BQ.set {c:DCode} (hc:CodeR c) {out0 out:List Nat} {ag:Bool} {D D':Nat→Nat→Prop} (H:BQ c out0 ag out D) {p i hh:Nat} (hu:UsedP c p) (hi:zaX c p i) (ho:(zap c i).op=4) (hb:∀ l,l<6→hh.testBit l=false→LostM c (tK (zdx c)) (tG (zdx c)) p none l)
   (hne:za8 out (agN c i) &&& za8 (zcP c (zdx c) p hh) i≠za8 out (agN c i)):BQ c out0 true (out.set (agN c i) (za8 out (agN c i) &&& za8 (zcP c (zdx c) p hh) i)) D':=by
 have hil:=(zbP hc (by rw [hc.2.1.1];exact hu.lt hc) hi).1
 have hq:=(zcs hc hil (.inl ho)).2
 refine ⟨H.bi.updM hc hu hi ho hb,fun _=>?_,fun e=>by cases e⟩
 have h1:=zkH (l:=out) (i:=agN c i) (v:=za8 out (agN c i) &&& za8 (zcP c (zdx c) p hh) i) (by rw [H.bi.len];exact hq)
 have h2:=zts hne
 cases ag with
 | true=>have:=H.yes rfl;omega
 | false=>rw [(H.no rfl).1] at h1 h2 ⊢;omega
theorem BQ.skip {c:DCode} {out0 out:List Nat} {ag:Bool} {D D':Nat→Nat→Prop} (H:BQ c out0 ag out D) {p i hh:Nat} (hz:ag=false→hh=za8 out0 p) (hD:∀ q j,D' q j→D q j∨(q=p∧j=i)) (he:za8 out (agN c i) &&& za8 (zcP c (zdx c) p hh) i=za8 out (agN c i)):BQ c out0 ag out D':=
 ⟨H.bi,H.yes,fun e=>⟨(H.no e).1,fun q j hd hu hl ho=>by
   rcases hD q j hd with h | ⟨rfl,rfl⟩
   · exact (H.no e).2 q j h hu hl ho
   unfold CL;rw [←hz e,←(H.no e).1];exact he⟩⟩
def BS (c:DCode) (k:Nat) (out:List Nat):Prop:=out.length=c.procs.length∧∀ p,p<c.procs.length→(¬(p<k∧¬RootP c p)→za8 out p=0)∧(p<k→¬RootP c p→za8 out p=63)
theorem BS.fin {c:DCode} (hc:CodeR c) {out:List Nat} (h:BS c c.procs.length out):BI c out:=BI.start hc out h.1 fun p hp=>⟨fun hr=>(h.2 p hp).1 fun hn=>hn.2 hr,fun hr=>(h.2 p hp).2 hp hr⟩
theorem zpr {w W0 W1:World} {b:Nat} {v1:Value} {c:DCode} (hW:WAt W0 b c) (e0:Ext W0 w) (h1:Is W1 v1 (zie (zdx c))) (e1:Ext W1 w) (hc:CodeR c) :
   CALL Tryz.prog 150 [.pointer (some ⟨b,0,none⟩),v1] w fun r w'=>Ext w w'∧Own w.heap.size w' r (zbA (zuX c)):=by
 refine F150_call ?_
 unfold F150
 have h8:=hc.1.procs8
 have hil:=hc.f.ins
 have hTR:=zjN c
 refine NIL.mk rfl ?_
 refine zaa zbs ?_
 refine zaa zcC ?_
 refine zab zcQ (zaW hW.wl.code) e0 fun v18 h18=>?_
 refine zae u24 h18 ?_
 have hn:c.procs.length=c.procs.length:=rfl
 generalize hnn:c.procs.length=n at hn
 rw [hnn] at h8
 refine zeZ (by omega) (by omega) fun w2 hx2 hM2=>?_
 have hs2:=hx2.size
 generalize hg:w.heap.size=g at *
 have hF2:FW w w2 g n (List.replicate n 0):=⟨hx2,hM2,by omega⟩
 have hB2:BS c 0 (List.replicate n 0):=⟨by simp [hnn],fun p hp=>⟨fun _=>by rw [←zbe (by simp;omega)];simp,fun h=>by omega⟩⟩
 refine zkP u33 ?_
 have hrs:zbK c<256:=zaR (by rw [hnn];omega)
 refine zaB n (fun k us w'=>∃ out,us=[.int .i64 (k:Int)]∧k≤n∧FW w w' g n out∧BS c k out) 0 (Nat.zero_le _) ⟨_,rfl,Nat.zero_le _,hF2,hB2⟩ ?_
 rintro k mk u w3 hkm ⟨out,hu,hkl,hF3,hB3⟩
 simp only [List.map_cons,List.map_nil,List.cons.injEq,and_true] at hu
 rw [hu]
 have hol:=hB3.1
 refine zai ?_
 refine br (fun hlt=>?_) (fun hge=>?_)
 · have hk:k<n:=by omega
   refine NIL.mk rfl ?_
   refine zaa zhK ?_
   refine zac ty3 hW.roots (e0.trans hF3.ext) fun _=>?_
   refine (zeA (m:=zbK c) (i:=k) (by omega) (by omega)).mono ?_
   rintro _ w4 ⟨hx4,rfl⟩
   have hF4:=hF3.step hx4
   have hbit:(zbK c).testBit k=true↔RootP c k:=by
     unfold zbK;rw [zci]
     exact ⟨fun h=>h.2,fun h=>⟨by omega,h⟩⟩
   refine zaU ?_
   refine zb4 (fun hf=>?_) (fun hf=>?_)
   · have hnr:¬RootP c k:=fun h=>by rw [hbit.2 h] at hf;cases hf
     refine zd6 (α:=Int) rfl u33 ty3 hk ?_
     refine zcK (α:=Int) rfl ty3 hF4.mine (by rw [zaj];omega) hk (zcF (v:=63) (by omega)) fun w5 hc5 hm5=>?_
     have hF5:=hF4.set (v:=63) hc5 hm5
     refine zag (by omega) ?_
     refine ⟨mk-1,by omega,k+1,by omega,_,rfl,by omega,hF5,by simp [hol],fun p hp=>?_⟩
     rw [zcj (by rw [hol,hnn];exact hk)]
     have:=hB3.2 p hp
     by_cases e:k=p
     · subst e
       exact ⟨fun h=>absurd ⟨by omega,hnr⟩ h,fun _ _=>by rw [if_pos rfl]⟩
     rw [if_neg e]
     exact ⟨fun h=>this.1 fun h2=>h ⟨by omega,h2.2⟩,fun h=>this.2 (by omega)⟩
   have hr:RootP c k:=hbit.1 (by simpa using hf)
   refine zag (by omega) ?_
   refine ⟨mk-1,by omega,k+1,by omega,_,rfl,by omega,hF4,hol,fun p hp=>?_⟩
   have:=hB3.2 p hp
   by_cases e:k=p
   · subst e
     exact ⟨fun _=>this.1 fun h=>h.2 hr,fun _ h=>absurd hr h⟩
   exact ⟨fun h=>this.1 fun h2=>h ⟨by omega,h2.2⟩,fun h=>this.2 (by omega)⟩
 have hk:k=n:=by omega
 rw [hk,←hnn] at hB3
 have hBI:=hB3.fin hc
 clear hF2 hM2 hB2 hu hkm hB3
 have hus:zdB c<256:=zaR (by rw [hnn];omega)
 refine LOOPI.mk (fun m us w'=>∃ (ag:Bool) (out:List Nat),us=[.bool ag]∧m=out.sum+(if ag then 1 else 0)∧FW w w' g n out∧BI c out∧(ag=false→∀ p i,UsedP c p→zaX c p i→(zap c i).op=4→CL c out p i)) (out.sum+1) ⟨true,out,rfl,rfl,hF3,hBI,fun e=>by cases e⟩ ?_
 rintro m u w6 ⟨ag,out,hu,hm,hF6,hB6,hsh⟩
 simp only [List.map_cons,List.map_nil,List.cons.injEq,and_true] at hu
 rw [hu]
 refine zb4 (fun hag=>?_) (fun hag=>?_)
 case refine_2=>
   rw [hB6.fin hc (hsh hag)] at hF6
   have hoo:=hF6.own
   rw [hg] at hoo
   exact ⟨hF6.ext,hoo⟩
 rw [hag,if_pos rfl] at hm
 refine NIL.mk rfl ?_
 refine zaa zis ?_
 refine zac ty3 hW.used (e0.trans hF6.ext) fun _=>?_
 refine (zcY (m:=zdB c) (by omega)).mono ?_
 rintro v42 w7 ⟨hx7,ho7⟩
 unfold zdB at ho7
 rw [zdd (by rw [hnn];omega)] at ho7
 have hF7:=hF6.step hx7
 have hg6:=hF6.lt
 have hL:∀ p,p∈zcr c.procs.length (UsedP c)↔UsedP c p:=fun p=>by rw [zbo];exact ⟨fun h=>h.2,fun h=>⟨h.lt hc,h⟩⟩
 have hLl:(zcr c.procs.length (UsedP c)).length≤8:=Nat.le_trans zbS (by rw [hnn];omega)
 generalize zcr c.procs.length (UsedP c)=L at *
 have hO7:=ho7.toI
 generalize hlo:w6.heap.size=lo at *
 generalize hhi:w7.heap.size=hi at *
 refine zae u33 ho7.is ?_
 rw [zaj]
 refine zaB L.length (fun k us w'=>∃ (ag:Bool) (out':List Nat),us=[.bool ag,.int .i64 (k:Int)]∧k≤L.length∧FW w w' g n out'∧OwnI lo hi w' v42 (zbA L)∧BQ c out ag out' (fun p i=>p∈L.take k)) 0 (Nat.zero_le _) ⟨false,out,rfl,Nat.zero_le _,hF7,hO7,hB6,fun e=>(by cases e),fun _=>⟨rfl,fun p i h=>by simp at h⟩⟩ ?_
 rintro k mk u w8 hkm ⟨ag8,out8,hu,hkl,hF8,hO8,hQ8⟩
 obtain ⟨hu1,hu2⟩:=ze4 hu;clear hu
 rw [hu1,hu2]
 refine zai ?_
 refine br (fun hlt=>?_) (fun hge=>?_)
 case refine_2=>
   refine ⟨out8.sum+(if ag8 then 1 else 0),?_,ag8,out8,rfl,rfl,hF8,hQ8.bi,fun e p i hu hl ho=>?_⟩
   · cases ag8 with
     | true=>have:=hQ8.yes rfl;simp;omega
     | false=>rw [(hQ8.no rfl).1];simp;omega
   have:=hQ8.no e
   rw [this.1]
   exact this.2 p i (by rw [List.take_of_length_le (by omega)];exact (hL p).2 hu) hu hl ho
 have hk:k<L.length:=by omega
 refine zad u33 ty3 (i:=k) hO8.is (by rw [zaj];exact hk) fun b2 o2 hA2=>?_
 rw [zbq] at hA2
 refine zac ty3 hA2 (Ext.refl _) fun _=>?_
 have htk:=fun x=>zbu hk (x:=x)
 have hup:=(hL L[k]).1 (List.getElem_mem hk)
 generalize L[k]=p at *
 have hpn:=hup.lt hc
 have hpe:p<c.entry.length:=by rw [hc.2.1.1];exact hpn
 have hl8:=hQ8.bi.len
 refine zad u33 ty3 (i:=p) hF8.mine.is (by rw [zaj,hl8];exact hpn) fun b3 o3 hA3=>?_
 rw [zbX] at hA3
 refine zac ty3 hA3 (Ext.refl _) fun _=>?_
 have hh64:=hQ8.bi.lt0 p
 have hhb:∀ l,l<6→(za8 out8 p).testBit l=false→LostM c (tK (zdx c)) (tG (zdx c)) p none l:=fun l hl hb=>hQ8.bi.snd p l hpn hl hb
 have hhz:ag8=false→za8 out8 p=za8 out p:=fun e=>by rw [(hQ8.no e).1]
 generalize za8 out8 p=hh at *
 refine (znm hW.wl (e0.trans hF8.ext) h1 (e1.trans hF8.ext) hc hTR hpn hh64).mono ?_
 rintro v55 w9 ⟨hx9,ho9⟩
 have hF9:=hF8.step hx9
 have hO9:=hO8.ext hx9
 have hg8:=hF8.lt
 refine (zfn hW.wl (e0.trans hF9.ext) hc hpn).mono ?_
 rintro v58 w10 ⟨hx10,ho10⟩
 have hF10:=hF9.step hx10
 have hO10:=hO9.ext hx10
 have hg9:=hF9.lt
 have hA10:=ho9.toI.ext hx10
 have hM:∀ i,i∈zcr c.ins.length (zaX c p)↔zaX c p i:=fun i=>by rw [zbo];exact ⟨fun h=>h.2,fun h=>⟨(zbP hc hpe h).1,h⟩⟩
 have hMl:(zcr c.ins.length (zaX c p)).length≤1500:=Nat.le_trans zbS hil
 generalize zcr c.ins.length (zaX c p)=M at *
 have hLv10:=ho10.toI
 generalize hl9:w9.heap.size=lo9 at *
 generalize hl10:w10.heap.size=hi10 at *
 generalize hl8':w8.heap.size=lo8 at *
 refine zae u33 ho10.is ?_
 rw [zaj]
 have hfl:(zcP c (zdx c) p hh).length=c.ins.length:=zfl _ _ _ _
 have hf64:=zkK (c:=c) (T:=zdx c) (p:=p) (h:=hh)
 refine zaB M.length (fun j us w'=>∃ (ag:Bool) (out':List Nat),us=[.bool ag,.int .i64 (j:Int)]∧j≤M.length∧FW w w' g n out'∧OwnI lo hi w' v42 (zbA L)∧OwnI lo8 lo9 w' v55 (zbA (zcP c (zdx c) p hh))∧OwnI lo9 hi10 w' v58 (zbA M)∧BQ c out ag out' (fun q i=>q∈L.take k∨(q=p∧i∈M.take j))∧(ag=false→hh=za8 out p)) 0 (Nat.zero_le _) ⟨ag8,out8,rfl,Nat.zero_le _,hF10,hO10,hA10,hLv10,hQ8.mono fun q i _ _ _ h=>h.elim id fun h=>by simp at h,hhz⟩ ?_
 rintro j mj u w11 hjm ⟨ag11,out11,hu,hjl,hF11,hO11,hA11,hLv11,hQ11,hz11⟩
 obtain ⟨hu1,hu2⟩:=ze4 hu;clear hu
 rw [hu1,hu2]
 refine zai ?_
 refine br (fun hlt=>?_) (fun hge=>?_)
 case refine_2=>
   refine zag (by omega) ?_
   refine ⟨mk-1,by omega,k+1,by omega,ag11,out11,rfl,by omega,hF11,hO11,hQ11.mono fun q i hu hl ho h=>?_⟩
   rcases (htk q).1 h with h | rfl
   · exact .inl h
   exact .inr ⟨rfl,by rw [List.take_of_length_le (by omega)];exact (hM i).2 hl⟩
 have hj:j<M.length:=by omega
 refine zad u33 ty3 (i:=j) hLv11.is (by rw [zaj];exact hj) fun b4 o4 hA4=>?_
 rw [zbq] at hA4
 refine zac ty3 hA4 (Ext.refl _) fun _=>?_
 have htj:=fun x=>zbu hj (x:=x)
 have hiv:=(hM M[j]).1 (List.getElem_mem hj)
 generalize M[j]=i at *
 have hin:=(zbP hc hpe hiv).1
 refine NIL.mk rfl ?_
 refine zaa zbs ?_
 refine zaa zaG ?_
 refine zab zdi (zao hW.wl.code) (e0.trans hF11.ext) fun v68 h68=>?_
 refine zad u34 zdY h68 hin fun b5 o5 hA5=>?_
 rw [zaP] at hA5
 refine zab zdY hA5 (e0.trans hF11.ext) fun v71 h71=>?_
 refine zcA zr2 rfl zdY rfl h71 (e0.trans hF11.ext) fun w12 hx12 hA12 hV12=>?_
 have hx13:=zak w12
 have hx123:=hx12.trans hx13
 have hF13:=hF11.step hx123
 have hO13:=hO11.ext hx123
 have hA13:=hA11.ext hx123
 have hLv13:=hLv11.ext hx123
 generalize World.drew1 w12=w13 at *
 refine zaa zbx ?_
 refine zac ty3 (zaC hA12) hx13 fun _=>?_
 refine zaf ?_
 have hno:¬(zap c i).op=4→BQ c out ag11 out11 (fun q i=>q∈L.take k∨(q=p∧i∈M.take (j+1))):=fun hn=>hQ11.mono fun q i' _ _ ho h=>h.imp id fun ⟨h1,h2⟩=>⟨h1,by
   rcases (htj i').1 h2 with h | rfl
   · exact h
   exact absurd ho hn⟩
 refine br (fun c4=>?_) (fun c4=>?_)
 case refine_2=>
   refine zag (by omega) ?_
   exact ⟨mj-1,by omega,j+1,by omega,ag11,out11,rfl,by omega,hF13,hO13,hA13,hLv13,hno c4,hz11⟩
 obtain ⟨hag4,hagn⟩:=zcs hc hin (.inl c4)
 have hl11:=hQ11.bi.len
 have hset:=fun D'=>hQ11.set (D':=D') hc hup hiv c4 hhb
 have hskip:=hQ11.skip (D':=fun q i=>q∈L.take k∨(q=p∧i∈M.take (j+1))) (p:=p) (i:=i) hz11 fun q j' h=>by
   rcases h with h | ⟨h1,h2⟩
   · exact .inl (.inl h)
   rcases (htj j').1 h2 with h | h
   · exact .inl (.inr ⟨h1,h⟩)
   exact .inr ⟨h1,h⟩
 have hq64:=hQ11.bi.lt0 (agN c i)
 have ha64:=ziT hf64 i
 have hrO:∀ {w':World} {K:Value→Prop} (hF:FW w w' g n out11) (k:K (.int .i64 (za8 out11 (agN c i):Int))),RD Tryz.prog (Instr.indexAt 33 (.slice (some ⟨g,0,none⟩) n n) (.int .i64 (agN c i:Int))) w' fun x37=>RD Tryz.prog (Instr.loadAt 3 x37) w' K:=fun hF k=>by
   refine zad u33 ty3 (i:=agN c i) hF.mine.is (by rw [zaj,hl11];exact hagn) fun b1 o1 hA1=>?_
   rw [zbX] at hA1
   exact zac ty3 hA1 (Ext.refl _) fun _=>k
 have hrA:∀ {w':World} {K:Value→Prop} (hA:OwnI lo8 lo9 w' v55 (zbA (zcP c (zdx c) p hh))) (k:K (.int .i64 (za8 (zcP c (zdx c) p hh) i:Int))),RD Tryz.prog (Instr.indexAt 33 v55 (.int .i64 (i:Int))) w' fun x37=>RD Tryz.prog (Instr.loadAt 3 x37) w' K:=fun hA k=>by
   refine zad u33 ty3 (i:=i) hA.is (by rw [zaj,hfl];exact hin) fun b1 o1 hA1=>?_
   rw [zbX] at hA1
   exact zac ty3 hA1 (Ext.refl _) fun _=>k
 refine zaa zby ?_
 refine zac ty3 (zaD hA12) hx13 fun _=>?_
 rw [hag4]
 refine hrO hF13 ?_
 refine hrA hA13 ?_
 refine zgS (by omega) (by omega) ?_
 refine zaa zby ?_
 refine zac ty3 (zaD hA12) hx13 fun _=>?_
 rw [hag4]
 refine hrO hF13 ?_
 refine zaO ?_
 refine br (fun hne=>?_) (fun heq=>?_)
 · have hx14:=zak w13
   have hF14:=hF13.step hx14
   have hO14:=hO13.ext hx14
   have hA14:=hA13.ext hx14
   have hLv14:=hLv13.ext hx14
   generalize World.drew1 w13=w14 at *
   refine zaa zby ?_
   refine zac ty3 (zaD hA12) (hx13.trans hx14) fun _=>?_
   rw [hag4]
   refine hrO hF14 ?_
   refine hrA hA14 ?_
   refine zgS (by omega) (by omega) ?_
   have hvl:=Nat.and_le_left (n:=za8 out11 (agN c i)) (m:=za8 (zcP c (zdx c) p hh) i)
   refine zd6 (α:=Int) rfl u33 ty3 (by omega) ?_
   refine zcK (α:=Int) rfl ty3 hF14.mine (by rw [zaj,hl11,hnn]) (by omega) (zcF (v:=za8 out11 (agN c i) &&& za8 (zcP c (zdx c) p hh) i) (by omega)) fun w15 hc15 hm15=>?_
   have hF15:=hF14.set (v:=za8 out11 (agN c i) &&& za8 (zcP c (zdx c) p hh) i) hc15 hm15
   have hc15':=zhp hc15
   refine zag (by omega) ?_
   exact ⟨mj-1,by omega,j+1,by omega,true,_,rfl,by omega,hF15,hO14.chg hc15' (by omega),hA14.chg hc15' (by omega),hLv14.chg hc15' (by omega),hset _ fun e=>hne (by rw [e]),fun e=>by cases e⟩
 refine zag (by omega) ?_
 exact ⟨mj-1,by omega,j+1,by omega,ag11,out11,rfl,by omega,hF13,hO13,hA13,hLv13,hskip (Int.ofNat_inj.1 (Decidable.not_not.1 heq)),hz11⟩
def F68 (a0:Value) (w:World) (R:VW):Prop:=
 cL 149 [a0] w fun x12 w=>
 cL 150 [a0,x12] w fun x15 w=>
 NIL a0 <|
 rF 92 a0 0 w fun x18=>
 rF 36 x18 4 w fun x19=>
 rL 34 x19 w fun x20=>
 rN 34 3 x20 w fun x21=>
 oP (Instr.makeSlice 33 x21 x21) w fun x22 w=>
 rN 33 3 x22 w fun x24=>
 LOOPI [25] [(iV 0)] w fun u5 w next5=>
 rC (u5 25) x24 w fun x26=>
 BR x26
 (rX 33 x22 (u5 25) w fun x30=>
 oS 3 x30 (iV 63) w fun w=>
 rA (u5 25) (iV 1) w fun x31=>
 next5 [x31] w)
 (NIL a0 <|
 rF 92 a0 6 w fun x34=>
 rL 3 x34 w fun x35=>
 cL 48 [x35] w fun x36 w=>
 rN 33 3 x36 w fun x37=>
 LOOPI [38] [(iV 0)] w fun u10 w next10=>
 rC (u10 38) x37 w fun x39=>
 BR x39
 (rX 33 x36 (u10 38) w fun x40=>
 rL 3 x40 w fun x41=>
 rX 33 x15 x41 w fun x47=>
 rL 3 x47 w fun x48=>
 cL 151 [a0,x12,x41,x48] w fun x49 w=>
 NIL a0 <|
 rF 92 a0 0 w fun x52=>
 rF 36 x52 3 w fun x53=>
 rL 33 x53 w fun x54=>
 rX 33 x54 x41 w fun x56=>
 rL 3 x56 w fun x57=>
 LOOPI [10] [x57] w fun u14 w next14=>
 NIL a0 <|
 rF 92 a0 0 w fun x61=>
 rL 36 x61 w fun x62=>
 cL 119 [x62,x41] w fun x64 w=>
 rC (u14 10) x64 w fun x65=>
 BR x65
 (rX 33 x49 (u14 10) w fun x72=>
 rL 3 x72 w fun x73=>
 rX 33 x22 (u14 10) w fun x74=>
 oS 3 x74 x73 w fun w=>
 rA (u14 10) (iV 1) w fun x67=>
 next14 [x67] w)
 (rA (u10 38) (iV 1) w fun x75=>
 next10 [x75] w))
 (R x22 w))
def cfg68:Cfg:=⟨extL,[],[(5,4261412928,[25]),(10,75557863725639445513984,[38]),(14,37778643632581009998848,[10])],[],[],[],[]⟩
theorem F68_call {a0:Value} {w:World} {R:VW} (h:F68 a0 w R):cL 68 [a0] w R:=co (g:=cfg68) Tryz.func68 (by kernel_rfl) (by kernel_rfl) (by kernel_rfl) h
open Rep (rep)
def MS (c:DCode) (out:List Nat) (D:Nat→Prop):Prop:=out.length=c.ins.length∧∀ i,i<c.ins.length→D i→za8 out i=zfm c i
theorem MS.set {c:DCode} {out:List Nat} {D D':Nat→Prop} (h:MS c out D) {i v:Nat} (hi:i<c.ins.length) (hv:v=zfm c i) (hD:∀ j,D' j→D j∨j=i):MS c (out.set i v) D':=by
 refine ⟨by simp [h.1],fun j hj hd=>?_⟩
 rw [zcj (by rw [h.1];exact hi)]
 by_cases e:i=j
 · subst e;rw [if_pos rfl];exact hv
 rw [if_neg e]
 exact h.2 j hj ((hD j hd).resolve_right fun e'=>e e'.symm)
theorem MS.mono {c:DCode} {out:List Nat} {D D':Nat→Prop} (h:MS c out D) (hD:∀ j,j<c.ins.length→D' j→D j):MS c out D':=⟨h.1,fun j hj hd=>h.2 j hj (hD j hj hd)⟩
theorem MS.fin {c:DCode} {out:List Nat} {D:Nat→Prop} (h:MS c out D) (hD:∀ j,j<c.ins.length→D j):out=zjq c:=by
 refine List.ext_getElem (by rw [h.1,ziS]) fun i h1 h2=>?_
 have hi:i<c.ins.length:=by rw [←h.1];exact h1
 rw [zbe h1,zbe h2,zsz hi,h.2 i hi (hD i hi)]
theorem ziX {c:DCode} (hc:CodeR c) {i:Nat} (hi:i<c.ins.length):∃ p,p<c.procs.length∧zar c i=p∧eN c p≤i∧i≤zN c p:=by
 obtain ⟨q,hq,h1,h2,h3⟩:=hc.f.find hc.1.procs8.2 (a:=(i:Int)) (by omega) (by omega)
 have hin:=zqL hc hi hq h3
 exact ⟨q,by have:=hc.2.1.1;omega,h3,hin⟩
theorem zuc {w W0:World} {b:Nat} {c:DCode} (hW:WAt W0 b c) (e0:Ext W0 w) (hc:CodeR c) :
   CALL Tryz.prog 68 [.pointer (some ⟨b,0,none⟩)] w fun r w'=>Ext w w'∧Own w.heap.size w' r (zbA (zjq c)):=by
 refine F68_call ?_
 unfold F68
 have h8:=hc.1.procs8
 have hil:=hc.f.ins
 have hTR:=zjN c
 refine (zpq hW e0 hc).mono ?_
 rintro v12 w1 ⟨hx1,ho1⟩
 have hs1:=hx1.size
 refine (zpr hW (e0.trans hx1) ho1.is (Ext.refl _) hc).mono ?_
 rintro v15 w2 ⟨hx2,ho2⟩
 have hs2:=hx2.size
 have hx12:=hx1.trans hx2
 have e2:=e0.trans hx12
 have hE2:=ho1.is.ext hx2
 have hB2:=ho2.is
 refine NIL.mk rfl ?_
 refine zaa zbs ?_
 refine zaa zaG ?_
 refine zab zdi (zao hW.wl.code) e2 fun v20 h20=>?_
 refine zae u34 h20 ?_
 have hn:c.ins.length=c.ins.length:=rfl
 generalize hnn:c.ins.length=n at hn
 rw [hnn] at hil
 have hz0:=(ziV hc h8.2).2.2
 refine zeZ (by omega) (by omega) fun w3 hx3 hM3=>?_
 have hs3:=hx3.size
 generalize hg:w2.heap.size=g at *
 have hF3:FW w2 w3 g n (fil n 0):=⟨hx3,by simpa [fil] using hM3,by omega⟩
 refine zkP u33 ?_
 refine zaB n (fun k us w'=>us=[.int .i64 (k:Int)]∧k≤n∧FW w2 w' g n (fil n k)) 0 (Nat.zero_le _) ⟨rfl,Nat.zero_le _,hF3⟩ ?_
 rintro k mk u w4 hkm ⟨hu,hkl,hF4⟩
 simp only [List.map_cons,List.map_nil,List.cons.injEq,and_true] at hu
 rw [hu]
 refine zai ?_
 refine br (fun hlt=>?_) (fun hge=>?_)
 · have hk:k<n:=by omega
   refine zd6 (α:=Int) rfl u33 ty3 hk ?_
   refine zcK (α:=Int) rfl ty3 hF4.mine (by rw [zaj,zqS hkl]) hk (zcF (v:=63) (by omega)) fun w5 hc5 hm5=>?_
   have hF5:=hF4.set (v:=63) hc5 hm5
   rw [zqT hk] at hF5
   refine zag (by omega) ?_
   exact ⟨mk-1,by omega,k+1,by omega,rfl,by omega,hF5⟩
 have hk:k=n:=by omega
 rw [hk,zot] at hF4
 have hMS:MS c (List.replicate n 63) (fun i=>¬UsedP c (zar c i).toNat):=⟨by simp [hnn],fun i hi hd=>by
   rw [←zbe (by simp;omega)]
   obtain ⟨p,_,h1,_⟩:=ziX hc hi
   have hd':¬UsedP c (zar c i).toNat:=hd
   rw [h1,Int.toNat_natCast] at hd'
   rw [zpo (p:=p) h1 hd']
   simp⟩
 generalize List.replicate n 63=out at *
 clear hu hkm
 have hus:zdB c<256:=zaR h8.1
 refine NIL.mk rfl ?_
 refine zaa zis ?_
 refine zac ty3 hW.used (e2.trans hF4.ext) fun _=>?_
 refine (zcY (m:=zdB c) (by omega)).mono ?_
 rintro v36 w5 ⟨hx5,ho5⟩
 unfold zdB at ho5
 rw [zdd (by omega)] at ho5
 have hF5:=hF4.step hx5
 have hg4:=hF4.lt
 have hL:∀ p,p∈zcr c.procs.length (UsedP c)↔UsedP c p:=fun p=>by rw [zbo];exact ⟨fun h=>h.2,fun h=>⟨h.lt hc,h⟩⟩
 have hLl:(zcr c.procs.length (UsedP c)).length≤8:=Nat.le_trans zbS h8.1
 generalize zcr c.procs.length (UsedP c)=L at *
 have hO5:=ho5.toI
 generalize hlo:w4.heap.size=lo at *
 generalize hhi:w5.heap.size=hi at *
 refine zae u33 ho5.is ?_
 rw [zaj]
 refine zaB L.length (fun k us w'=>∃ (out':List Nat),us=[.int .i64 (k:Int)]∧k≤L.length∧FW w2 w' g n out'∧OwnI lo hi w' v36 (zbA L)∧MS c out' (fun i=>¬UsedP c (zar c i).toNat∨(zar c i).toNat∈L.take k)) 0 (Nat.zero_le _) ⟨out,rfl,Nat.zero_le _,hF5,hO5,hMS.mono fun j _ h=>h.elim id fun h=>by simp at h⟩ ?_
 rintro k mk u w8 hkm ⟨out8,hu,hkl,hF8,hO8,hS8⟩
 simp only [List.map_cons,List.map_nil,List.cons.injEq,and_true] at hu
 rw [hu]
 refine zai ?_
 refine br (fun hlt=>?_) (fun hge=>?_)
 case refine_2=>
   rw [hS8.fin fun j hj=>by
     by_cases hu:UsedP c (zar c j).toNat
     · exact .inr (by rw [List.take_of_length_le (by omega)];exact (hL _).2 hu)
     exact .inl hu] at hF8
   exact ⟨hx12.trans hF8.ext,hF8.own.mono (by omega)⟩
 have hk:k<L.length:=by omega
 refine zad u33 ty3 (i:=k) hO8.is (by rw [zaj];exact hk) fun b2 o2 hA2=>?_
 rw [zbq] at hA2
 refine zac ty3 hA2 (Ext.refl _) fun _=>?_
 have htk:=fun x=>zbu hk (x:=x)
 have hup:=(hL L[k]).1 (List.getElem_mem hk)
 generalize L[k]=p at *
 have hpn:=hup.lt hc
 have hpe:p<c.entry.length:=by rw [hc.2.1.1];exact hpn
 have e8:=e2.trans hF8.ext
 refine zad u33 ty3 (i:=p) hB2 (by rw [zaj,zkN];exact hpn) fun b3 o3 hA3=>?_
 rw [zbX,zqP hpn] at hA3
 refine zac ty3 hA3 hF8.ext fun _=>?_
 refine (znm hW.wl e8 hE2 hF8.ext hc hTR hpn (h:=zsy c p) zng).mono ?_
 rintro v49 w9 ⟨hx9,ho9⟩
 have hF9:=hF8.step hx9
 have hO9:=hO8.ext hx9
 have hg8:=hF8.lt
 have hA9:=ho9.toI
 have e9:=e2.trans hF9.ext
 generalize hl8':w8.heap.size=lo8 at *
 generalize hl9:w9.heap.size=lo9 at *
 obtain ⟨he1,he2,he3⟩:=zhZ hc hpe
 obtain ⟨hz1,hz2,hz3⟩:=ziV hc hpn
 obtain ⟨_,hez,_⟩:=zni hc hpe
 have hval:∀ i,eN c p≤i→i≤zN c p→za8 (zcP c (zdx c) p (zsy c p)) i=zfm c i:=fun i h1 h2=>(znk (zqM hc hpe h1 h2) hup).symm
 have hin:∀ i,i<c.ins.length→(zar c i).toNat=p→eN c p≤i∧i≤zN c p:=fun i hi h=>by
   obtain ⟨q,hq,h1,h2⟩:=ziX hc hi
   have:q=p:=by rw [h1,Int.toNat_natCast] at h;exact h
   subst this;exact h2
 have hfl:(zcP c (zdx c) p (zsy c p)).length=c.ins.length:=zfl _ _ _ _
 have hf64:=zkK (c:=c) (T:=zdx c) (p:=p) (h:=zsy c p)
 generalize zcP c (zdx c) p (zsy c p)=fl at *
 refine NIL.mk rfl ?_
 refine zaa zbs ?_
 refine zaa za5 ?_
 refine zab za1 (zan hW.wl.code) e9 fun v54 h54=>?_
 refine zad u33 ty3 h54 hpe fun b5 o5 hA5=>?_
 rw [zbm hpe,he1] at hA5
 refine zac ty3 hA5 e9 fun _=>?_
 generalize hE:eN c p=E at *
 generalize hZ:zN c p=Z at *
 refine zaB (Z+1-E) (fun j us w'=>∃ (out':List Nat),us=[.int .i64 ((E+j:Nat):Int)]∧E+j≤Z+1∧FW w2 w' g n out'∧OwnI lo hi w' v36 (zbA L)∧OwnI lo8 lo9 w' v49 (zbA fl)∧MS c out' (fun i=>¬UsedP c (zar c i).toNat∨(zar c i).toNat∈L.take k∨(E≤i∧i<E+j))) 0 (Nat.zero_le _) ⟨out8,rfl,by omega,hF9,hO9,hA9,hS8.mono fun i _ h=>h.imp id fun h=>h.resolve_right fun h=>by omega⟩ ?_
 rintro j mj u w11 hjm ⟨out11,hu,hjl,hF11,hO11,hA11,hS11⟩
 simp only [List.map_cons,List.map_nil,List.cons.injEq,and_true] at hu
 rw [hu]
 have e11:=e2.trans hF11.ext
 refine NIL.mk rfl ?_
 refine zaa zbs ?_
 refine zab zdW hW.wl.code e11 fun v62 h62=>?_
 refine (zdq h62 e11 (by omega)).mono ?_
 rintro _ w12 ⟨hx12',rfl⟩
 rw [hz1]
 have hF12:=hF11.step hx12'
 have hO12:=hO11.ext hx12'
 have hA12:=hA11.ext hx12'
 refine zai ?_
 refine br (fun hlt=>?_) (fun hge=>?_)
 case refine_2=>
   refine zag (by omega) ?_
   refine ⟨mk-1,by omega,k+1,by omega,out11,rfl,by omega,hF12,hO12,hS11.mono fun i hi h=>?_⟩
   rcases h with h | h
   · exact .inl h
   rcases (htk _).1 h with h | h
   · exact .inr (.inl h)
   have:=hin i hi h
   exact .inr (.inr (by omega))
 have hij:E+j<n:=by omega
 have hv:=hval (E+j) (by omega) (by omega)
 have hv64:=ziT hf64 (E+j)
 refine zad u33 ty3 (i:=E+j) hA12.is (by rw [zaj,hfl,hnn];exact hij) fun b6 o6 hA6=>?_
 rw [zbX] at hA6
 refine zac ty3 hA6 (Ext.refl _) fun _=>?_
 refine zd6 (α:=Int) rfl u33 ty3 hij ?_
 refine zcK (α:=Int) rfl ty3 hF12.mine (by rw [zaj,hS11.1,hnn]) hij (zcF (v:=za8 fl (E+j)) (by omega)) fun w13 hc13 hm13=>?_
 have hF13:=hF12.set (v:=za8 fl (E+j)) hc13 hm13
 have hc13':=zhp hc13
 refine zag (by omega) ?_
 refine ⟨mj-1,by omega,j+1,by omega,_,rfl,by omega,hF13,hO12.chg hc13' (by omega),hA12.chg hc13' (by omega),hS11.set (by rw [hnn];exact hij) hv fun i h=>?_⟩
 by_cases e:i=E+j
 · exact .inr e
 exact .inl (h.imp id fun h=>h.imp id fun h=>by omega)
def MC (c:DCode) (ms:List Bool) (i:Nat):Prop:=
 ((zap c i).op=4→mkd ms (eN c (agN c i))∧(mkd ms (zN c (agN c i))→∀ j∈zaY c i,mkd ms j))∧(¬(zap c i).op=4→∀ j∈zaY c i,mkd ms j)
structure TP (c:DCode) (ms0:List Bool) (ag:Bool) (ms:List Bool) (k:Nat):Prop where
 len:ms.length=c.ins.length
 snd:∀ i,mkd ms i→MetP c i
 root:∀ p,RootP c p→mkd ms (eN c p)
 yes:ag=true→zon ms0<zon ms
 no:ag=false→ms=ms0∧∀ i,i<k→mkd ms0 i→MC c ms0 i
theorem zig {ms:List Bool} {i j:Nat} (h:mkd ms j):mkd (ms.set i true) j:=by
 have hl:=zom h
 by_cases hi:i<ms.length
 · exact (zfj hi).2 (.inl h)
 rw [List.set_eq_of_length_le (by omega)];exact h
theorem zqW {ms:List Bool} {i:Nat} (h:mkd ms i):ms.set i true=ms:=by
 have hl:=zom h
 rw [zdA hl] at h
 rw [←h];exact List.set_getElem_self hl
def zuZ (ms:List Bool) (i:Nat) (ag:Bool):Bool:=ag || !ms.getD i false
theorem zow {ms:List Bool} {i:Nat} {ag:Bool} (h:mkd ms i):zuZ ms i ag=ag:=by
 unfold mkd at h;unfold zuZ;rw [h];simp
theorem zox {ms:List Bool} {i:Nat} {ag:Bool} (h:¬mkd ms i):zuZ ms i ag=true:=by
 unfold mkd at h;unfold zuZ;rw [Bool.not_eq_true] at h;rw [h];simp
theorem TP.meet {c:DCode} {ms0 ms:List Bool} {ag:Bool} {k i:Nat} (h:TP c ms0 ag ms k) (hi:i<c.ins.length) (hm:MetP c i):TP c ms0 (zuZ ms i ag) (ms.set i true) k:=by
 by_cases hk:mkd ms i
 · rw [zow hk,zqW hk];exact h
 rw [zox hk]
 have hc:=zkE (by rw [h.len];exact hi) hk
 refine ⟨by simp [h.len],fun j hj=>?_,fun p hp=>zig (h.root p hp),fun _=>?_,fun e=>by cases e⟩
 · rcases (zfj (by rw [h.len];exact hi)).1 hj with h1 | h1
   · exact h.snd j h1
   rw [h1];exact hm
 cases ag with
 | true=>have:=h.yes rfl;omega
 | false=>rw [←(h.no rfl).1];omega
theorem TP.next {c:DCode} {ms0 ms:List Bool} {ag:Bool} {k:Nat} (h:TP c ms0 ag ms k) (hk:mkd ms k→MC c ms k):TP c ms0 ag ms (k+1):=
 ⟨h.len,h.snd,h.root,h.yes,fun e=>⟨(h.no e).1,fun i hi hm=>by
   by_cases e2:i=k
   · subst e2;rw [(h.no e).1] at hk;exact hk hm
   exact (h.no e).2 i (by omega) hm⟩⟩
theorem TP.fin {c:DCode} (hc:CodeR c) {ms0 ms:List Bool} (h:TP c ms0 false ms c.ins.length):ms=zuY c:=by
 obtain ⟨h1,h2⟩:=h.no rfl
 refine zfI h.len fun i hi=>⟨h.snd i,fun hm=>?_⟩
 have hC:MetC c (mkd ms):=⟨h.root,fun i hi ho=>?_,fun i j hi ho hj=>?_,fun i j hi ho hz hj=>?_⟩
 · exact hC.all hm
 all_goals
   have hil:=zom hi
   rw [h.len] at hil
   have:=h2 i hil (by rw [←h1];exact hi)
   rw [←h1] at this
 · exact (this.1 ho).1
 · exact this.2 ho j hj
 exact (this.1 ho).2 hz j hj
theorem TP.again {c:DCode} {ms0 ms:List Bool} {ag:Bool} {k:Nat} (h:TP c ms0 ag ms k):TP c ms false ms 0:=
 ⟨h.len,h.snd,h.root,fun e=>(by cases e),fun _=>⟨rfl,fun i hi=>by omega⟩⟩
theorem zvn {m n:Nat} (h:¬n ||| m=n):n<n ||| m:=by
 have:n≤n ||| m:=Nat.left_le_or
 omega
end Go.Proofs.YtcnglfeoglgebaaGreat
namespace Go.Sh
open Rep (rep)
theorem ChgI.one {w w':World} {g:Nat} (h:ChgI g (g+1) w w'):Chg [g] w w':=⟨h.os,h.tape,h.output,h.size,fun b hb hn=>h.block b hb (by simp at hn;omega)⟩
theorem OwnI.chgF {α:Type} [Rep α] {w w':World} {lo hi:Nat} {v:Value} {x:α} {F:List Nat} (h:OwnI lo hi w v x) (hc:Chg F w w') (hd:∀ b∈F,b<lo∨hi≤b):OwnI lo hi w' v x:=by
 obtain ⟨G,hm,hG⟩:=h
 exact ⟨G,hm.keep fun b hb=>hc.block b (hm.lt b hb) fun hF=>by have:=hG b hb;have:=hd b hF;omega,hG⟩
theorem Blk.chgF {w w':World} {g e:Nat} {cs:List Value} {F:List Nat} (h:Blk g e w cs) (hc:Chg F w w') (hd:g∉F):Blk g e w' cs:=h.keep (hc.block g h.lt hd)
theorem Ext.chgF {w0 w w':World} {F:List Nat} (h:Ext w0 w) (hc:Chg F w w') (hd:∀ b∈F,w0.heap.size≤b):Ext w0 w':=
 ⟨hc.os.trans h.os,hc.tape.trans h.tape,hc.output.trans h.output,Nat.le_trans h.size hc.size,fun b hb=>(hc.block b (Nat.lt_of_lt_of_le hb h.size) fun hF=>by have:=hd b hF;omega).trans (h.block b hb)⟩
end Go.Sh
namespace Go.Proofs.YtcnglfeoglgebaaGreat
open Go Go.Sh Go.Proofs
open Rep (rep)
def F154 (a0 a1 a2:Value) (w:World) (R:VW):Prop:=
 rL 90 a1 w fun x4=>
 rX 90 x4 a0 w fun x6=>
 rL 4 x6 w fun x7=>
 rD (Op.unary .not x7) w fun x8=>
 BR x8
 (rL 90 a1 w fun x9=>
 rX 90 x9 a0 w fun x11=>
 oS 4 x11 (Value.bool true) w fun w=>
 oS 4 a2 (Value.bool true) w fun w=>
 R (Value.tuple #[]) w)
 (R (Value.tuple #[]) w)
def cfg154:Cfg:=⟨extL,[],[],[],[],[],[]⟩
theorem F154_call {a0 a1 a2:Value} {w:World} {R:VW} (h:F154 a0 a1 a2 w R):cL 154 [a0,a1,a2] w R:=co (g:=cfg154) Tryz.func154 (by kernel_rfl) (by kernel_rfl) (by kernel_rfl) h
def F70 (a0:Value) (w:World) (R:VW):Prop:=
 NIL a0 <|
 rF 92 a0 0 w fun x14=>
 rF 36 x14 4 w fun x15=>
 rL 34 x15 w fun x16=>
 rN 34 3 x16 w fun x17=>
 oP (Instr.makeSlice 90 x17 x17) w fun x18 w=>
 oP (Instr.alloc 90 true (.tuple #[])) w fun x3 w=>
 oS 90 x3 x18 w fun w=>
 NIL a0 <|
 rF 92 a0 5 w fun x21=>
 rL 3 x21 w fun x22=>
 cL 48 [x22] w fun x23 w=>
 rN 33 3 x23 w fun x24=>
 LOOPI [25] [(iV 0)] w fun u3 w next3=>
 rC (u3 25) x24 w fun x26=>
 BR x26
 (rX 33 x23 (u3 25) w fun x27=>
 rL 3 x27 w fun x28=>
 (fun w=>rL 90 x3 w fun x29=>
 NIL a0 <|
 rF 92 a0 0 w fun x32=>
 rF 36 x32 3 w fun x33=>
 rL 33 x33 w fun x34=>
 rX 33 x34 x28 w fun x36=>
 rL 3 x36 w fun x37=>
 rX 90 x29 x37 w fun x38=>
 oS 4 x38 (Value.bool true) w fun w=>
 rA (u3 25) (iV 1) w fun x39=>
 next3 [x39] w) (World.drew1 w))
 (oP (Instr.alloc 4 true (.tuple #[])) w fun x6 w=>
 oS 4 x6 (Value.bool true) w fun w=>
 LOOPI [6] [x6] w fun u8 w next8=>
 rL 4 (u8 6) w fun x40=>
 BR x40
 (oS 4 (u8 6) (Value.bool false) w fun w=>
 rD (Instr.makeFunc (Go.Fn.func 154) [].toArray [x3,(u8 6)].toArray) w fun x41=>
 NIL a0 <|
 rF 92 a0 0 w fun x44=>
 rF 36 x44 4 w fun x45=>
 rL 34 x45 w fun x46=>
 rN 34 3 x46 w fun x47=>
 LOOPI [48] [(iV 0)] w fun u12 w next12=>
 rC (u12 48) x47 w fun x49=>
 BR x49
 (rX 34 x46 (u12 48) w fun x51=>
 rL 84 x51 w fun x52=>
 oP (Instr.alloc 84 true (.tuple #[])) w fun x9 w=>
 oS 84 x9 x52 w fun w=>
 rL 90 x3 w fun x53=>
 rX 90 x53 (u12 48) w fun x55=>
 rL 4 x55 w fun x56=>
 rD (Op.unary .not x56) w fun x57=>
 BR x57
 (rA (u12 48) (iV 1) w fun x96=>
 next12 [x96] w)
 (JOIN [] (fun J18=>
 rF 84 x9 0 w fun x58=>
 rL 3 x58 w fun x59=>
 rB .eql 3 T0 U0 x59 (iV 4) w fun x60=>
 BR x60
 ((fun w=>NIL a0 <|
 rF 92 a0 0 w fun x64=>
 rF 36 x64 3 w fun x65=>
 rL 33 x65 w fun x66=>
 rF 84 x9 1 w fun x67=>
 rL 3 x67 w fun x68=>
 rX 33 x66 x68 w fun x69=>
 rL 3 x69 w fun x70=>
 OPN tp (ze7 x41 [x70]) w fun x71 w=>
 (fun w=>rL 90 x3 w fun x72=>
 NIL a0 <|
 rF 92 a0 0 w fun x75=>
 rL 36 x75 w fun x76=>
 rF 84 x9 1 w fun x77=>
 rL 3 x77 w fun x78=>
 (fun w_=>cL 119 [x76,x78] w_ fun x79 w=>
 Ext w_ w ∧
 rB .sub 3 T0 U0 x79 (iV 1) w fun x80=>
 rX 90 x72 x80 w fun x81=>
 rL 4 x81 w fun x82=>
 rD (Op.unary .not x82) w fun x83=>
 BR x83
 (rA (u12 48) (iV 1) w fun x96=>
 next12 [x96] w)
 (J18 [] w)) w) (World.drew1 w)) (World.drew1 w))
 (J18 [] w)) (fun u18 w=>
 cL 153 [a0,(u12 48)] w fun x86 w=>
 rN 33 3 x86 w fun x87=>
 LOOPI [88] [(iV 0)] w fun u19 w next19=>
 rC (u19 88) x87 w fun x89=>
 BR x89
 (rX 33 x86 (u19 88) w fun x90=>
 rL 3 x90 w fun x91=>
 OPN tp (ze7 x41 [x91]) w fun x94 w=>
 rA (u19 88) (iV 1) w fun x95=>
 next19 [x95] w)
 (rA (u12 48) (iV 1) w fun x96=>
 next12 [x96] w))))
 (rL 4 (u8 6) w fun x97=>
 oP (Instr.alloc 4 true (.tuple #[])) w fun x6 w=>
 oS 4 x6 x97 w fun w=>
 next8 [x6] w))
 (rL 90 x3 w fun x98=>
 R x98 w))
def cfg70:Cfg:=⟨extL,[(18,19342812825603690643587072,[])],[(3,1099478073376,[25]),(8,316912650057057349274664176576,[6]),(12,158456325028528393712111192832,[48]),(19,78918677504442992524819171328,[88])],[(5,[0,1,2,3,4,5,6,7,8,9,10],0),(16,[0,1,2,3,4,5,6,7,8,9,10],0),(17,[0,1,2,3,4,5,6,7,8,9,10,11],128)],[],[],[]⟩
theorem F70_call {a0:Value} {w:World} {R:VW} (h:F70 a0 w R):cL 70 [a0] w R:=co (g:=cfg70) Tryz.func70 (by kernel_rfl) (by kernel_rfl) (by kernel_rfl) h
open Rep (rep)
theorem zoy {P:Program} {f:Nat} {args caps:List Value} {w:World} {K:Value→World→Prop} (hE:zdT P f=true) (h:CALL P f (args++caps) w K):OPN P (ze7 (.func (.func f) #[] caps.toArray) args) w K:=by
 obtain ⟨h⟩:=h
 refine .enter f (args++caps).toArray w ?_ h
 simp [ze7,Deferred.ofValue,invoke,zfa hE]
theorem ztw:zdT Tryz.prog 154=true:=by kernel_rfl
theorem zwF:zbU Tryz.prog 90=some [.slice none 0 0]:=by kernel_rfl
theorem zfO {w:World} {lo hi:Nat} {u:Value} (h:u.oneCell'=true):OwnI lo hi w u (⟨u⟩:Raw):=⟨[],⟨⟨[u],⟨rfl,rfl,h⟩,rfl⟩,List.nodup_nil,Wr.nil _⟩,by simp⟩
theorem zhr {t by_:Nat} {z u:Value} {w:World} {K:Value→World→Prop} (hz:zbU Tryz.prog t=some [z]) (ht:tyI Tryz.prog t=some (1,by_,false)) (hu:u.oneCell'=true) (k:∀ w',Ext w w'→Blk w.heap.size t w' [u]→K (.pointer (some ⟨w.heap.size,0,none⟩)) w') :
   OP Tryz.prog (Instr.alloc t true (.tuple #[])) w fun p w1=>OPU Tryz.prog (Instr.storeAt t p u) w1 fun w2=>K p w2:=by
 refine zbD hz fun w1 hx1 hB1=>?_
 refine zb0 (α:=Raw) (lo:=0) (hi:=0) ht rfl rfl hB1 (by simp) (zfO hu) fun w2 hc2 hB2=>?_
 exact k w2 (hx1.chgI hc2 (Nat.le_refl _)) hB2
structure MW (w1 w:World) (gv g ga n:Nat) (ms:List Bool) (ag:Bool):Prop where
 ext:Ext w1 w
 var:Blk gv 90 w [.slice (some ⟨g,0,none⟩) n n]
 mks:Mine [g] w (.slice (some ⟨g,0,none⟩) n n) ms
 agn:Blk ga 4 w [.bool ag]
 n1:gv≠g
 n2:gv≠ga
 n3:g≠ga
 g0:w1.heap.size≤g
 g1:w1.heap.size≤gv
 g2:w1.heap.size≤ga
section
variable {w1 w w':World} {gv g ga n:Nat} {ms:List Bool} {ag:Bool}
theorem MW.step (h:MW w1 w gv g ga n ms ag) (hx:Ext w w'):MW w1 w' gv g ga n ms ag:=⟨h.ext.trans hx,h.var.ext hx,h.mks.ext hx,h.agn.ext hx,h.n1,h.n2,h.n3,h.g0,h.g1,h.g2⟩
theorem MW.mark {ms':List Bool} (h:MW w1 w gv g ga n ms ag) (hc:Chg [g] w w') (hm:Mine [g] w' (.slice (some ⟨g,0,none⟩) n n) ms'):MW w1 w' gv g ga n ms' ag:=
 ⟨h.ext.chgF hc (by simp [h.g0]),h.var.chgF hc (by simp [h.n1]),hm,h.agn.chgF hc (by simp [Ne.symm h.n3]),h.n1,h.n2,h.n3,h.g0,h.g1,h.g2⟩
theorem MW.agains {ag':Bool} (h:MW w1 w gv g ga n ms ag) (hc:Chg [ga] w w') (hB:Blk ga 4 w' [.bool ag']):MW w1 w' gv g ga n ms ag':=
 ⟨h.ext.chgF hc (by simp [h.g2]),h.var.chgF hc (by simp [h.n2]),h.mks.keep fun b hb=>by
   simp only [List.mem_cons,List.not_mem_nil,or_false] at hb;subst hb
   exact hc.block b (h.mks.lt b (by simp)) (by simp [h.n3]),hB,h.n1,h.n2,h.n3,h.g0,h.g1,h.g2⟩
theorem MW.cell {ga':Nat} {ag':Bool} (h:MW w1 w gv g ga n ms ag) (hx:Ext w w') (hB:Blk ga' 4 w' [.bool ag']) (hg:w.heap.size≤ga'):MW w1 w' gv g ga' n ms ag':=
 ⟨h.ext.trans hx,h.var.ext hx,h.mks.ext hx,hB,h.n1,by have:=h.var.lt;omega,by have:=h.mks.lt g (by simp);omega,h.g0,h.g1,by have:=h.ext.size;omega⟩
theorem zqX {i:Nat} (h:MW w1 w gv g ga n ms ag) (hi:i<n) (hl:ms.length=n) :
   CALL Tryz.prog 154 [.int .i64 (i:Int),.pointer (some ⟨gv,0,none⟩),.pointer (some ⟨ga,0,none⟩)] w fun r w'=>r=.tuple #[]∧MW w1 w' gv g ga n (ms.set i true) (zuZ ms i ag)∧Chg [g,ga] w w':=by
 refine F154_call ?_
 unfold F154
 refine zaA zqb h.var rfl ?_
 refine zad u90 ty4 h.mks.is (by rw [hl];exact hi) fun b1 o1 hA1=>?_
 refine zdh ty4 hA1 (Ext.refl _) ?_
 have hmk:=zdA (ms:=ms) (i:=i) (by rw [hl];exact hi)
 refine zaU ?_
 refine zb4 (fun hf=>?_) (fun hf=>?_)
 · have hn:¬mkd ms i:=by rw [hmk];simpa using hf
   rw [zox hn]
   refine zaA zqb h.var rfl ?_
   refine zd6 (α:=Bool) rfl u90 ty4 hi ?_
   refine zcK (α:=Bool) rfl ty4 h.mks hl hi zfJ fun w2 hc2 hm2=>?_
   have h2:=h.mark hc2 hm2
   refine zb0 (α:=Raw) (lo:=0) (hi:=0) ty4 rfl rfl h2.agn (by simp) (zfO rfl) fun w3 hc3 hB3=>?_
   exact ⟨rfl,h2.agains hc3.one hB3,(hc2.mono (by simp)).trans (hc3.one.mono (by simp))⟩
 have hy:mkd ms i:=by rw [hmk];simpa using hf
 rw [zow hy,zqW hy]
 exact ⟨rfl,h,Chg.refl _ _⟩
end
theorem zvo {w W0:World} {b:Nat} {c:DCode} (hW:WAt W0 b c) (e0:Ext W0 w) (hc:CodeR c) :
   CALL Tryz.prog 70 [.pointer (some ⟨b,0,none⟩)] w fun r w'=>Ext w w'∧Own w.heap.size w' r (zuY c):=by
 refine F70_call ?_
 unfold F70
 have h8:=hc.1.procs8
 have hil:=hc.f.ins
 have hcode:=hW.wl.code
 refine NIL.mk rfl ?_
 refine zaa zbs ?_
 refine zaa zaG ?_
 refine zab zdi (zao hcode) e0 fun v16 h16=>?_
 refine zae u34 h16 ?_
 have hz0:=(ziV hc h8.2).2.2
 have hn:c.ins.length=c.ins.length:=rfl
 generalize hnn:c.ins.length=n at hn
 rw [hnn] at hil
 refine zkF (by omega) (by omega) fun w1 hx1 hM1=>?_
 have hs1:=hx1.size
 have hg1:=hM1.lt _ (List.mem_singleton.2 rfl)
 generalize hg:w.heap.size=g at *
 refine zhr zwF zqb rfl fun w2 hx2 hB2=>?_
 have hs2:=hx2.size
 have hM2:=hM1.ext hx2
 generalize hgv:w1.heap.size=gv at *
 refine NIL.mk rfl ?_
 refine zaa zhK ?_
 refine zac ty3 hW.roots (e0.trans (hx1.trans hx2)) fun _=>?_
 have hrs:zbK c<256:=zaR h8.1
 refine (zcY (m:=zbK c) (by omega)).mono ?_
 rintro v23 w3 ⟨hx3,ho3⟩
 unfold zbK at ho3
 rw [zdd (by omega)] at ho3
 have hL:∀ p,p∈zcr c.procs.length (RootP c)↔RootP c p:=fun p=>by rw [zbo];exact ⟨fun h=>h.2,fun h=>⟨h.lt hc,h⟩⟩
 have hLl:(zcr c.procs.length (RootP c)).length≤8:=Nat.le_trans zbS h8.1
 generalize zcr c.procs.length (RootP c)=L at *
 have hs3:=hx3.size
 have hgv2:=hB2.lt
 refine zae u33 ho3.is ?_
 rw [zaj]
 refine zaB L.length (fun k us w'=>∃ ms,us=[.int .i64 (k:Int)]∧k≤L.length∧Ext w w'∧Blk gv 90 w' [.slice (some ⟨g,0,none⟩) n n]∧Mine [g] w' (.slice (some ⟨g,0,none⟩) n n) ms∧OwnI w2.heap.size w3.heap.size w' v23 (zbA L)∧ms.length=n∧(∀ i,mkd ms i→MetP c i)∧∀ p∈L.take k,mkd ms (eN c p)) 0 (Nat.zero_le _) ⟨_,rfl,Nat.zero_le _,hx1.trans (hx2.trans hx3),hB2.ext hx3,hM2.ext hx3,ho3.toI,by simp,fun i h=>absurd h zdL,by simp⟩ ?_
 rintro k mk u w4 hkm ⟨ms,hu,hkl,hx4,hB4,hM4,hO4,hl4,hsn4,hrt4⟩
 simp only [List.map_cons,List.map_nil,List.cons.injEq,and_true] at hu
 rw [hu]
 refine zai ?_
 refine br (fun hlt=>?_) (fun hge=>?_)
 · have hk:k<L.length:=by omega
   refine zad u33 ty3 (i:=k) hO4.is (by rw [zaj];exact hk) fun b2 o2 hA2=>?_
   rw [zbq] at hA2
   refine zac ty3 hA2 (Ext.refl _) fun _=>?_
   have htk:=fun x=>zbu hk (x:=x)
   have hrp:=(hL L[k]).1 (List.getElem_mem hk)
   generalize L[k]=p at *
   have hpe:p<c.entry.length:=by rw [hc.2.1.1];exact hrp.lt hc
   obtain ⟨he1,he2,_⟩:=zhZ hc hpe
   have hxd:=zak w4
   have hx5:=hx4.trans hxd
   have hB5:=hB4.ext hxd
   have hM5:=hM4.ext hxd
   have hO5:=hO4.ext hxd
   generalize World.drew1 w4=w5 at *
   refine zaA zqb hB5 rfl ?_
   refine NIL.mk rfl ?_
   refine zaa zbs ?_
   refine zaa za5 ?_
   refine zab za1 (zan hcode) (e0.trans hx5) fun v34 h34=>?_
   refine zad u33 ty3 h34 hpe fun b5 o5 hA5=>?_
   rw [zbm hpe,he1] at hA5
   refine zac ty3 hA5 (e0.trans hx5) fun _=>?_
   refine zd6 (α:=Bool) rfl u90 ty4 (by omega) ?_
   refine zcK (α:=Bool) rfl ty4 hM5 hl4 (by omega) zfJ fun w6 hc6 hm6=>?_
   refine zag (by omega) ?_
   refine ⟨mk-1,by omega,k+1,by omega,_,rfl,by omega,hx5.chgF hc6 (by simp [hg]),hB5.chgF hc6 (by simp;omega),hm6,hO5.chgF hc6 (by simp;omega),by simp [hl4],fun i hi=>?_,fun q hq=>?_⟩
   · rcases (zfj (by rw [hl4];omega)).1 hi with h | h
     · exact hsn4 i h
     rw [h];exact .root hrp
   rcases (htk q).1 hq with h | h
   · exact zig (hrt4 q h)
   rw [h];exact (zfj (by rw [hl4];omega)).2 (.inr rfl)
 have hrt:∀ p,RootP c p→mkd ms (eN c p):=fun p hp=>hrt4 p (by rw [List.take_of_length_le (by omega)];exact (hL p).2 hp)
 have hT:TP c ms false ms 0:=⟨by rw [hl4,hnn],hsn4,hrt,fun e=>(by cases e),fun _=>⟨rfl,fun i hi=>by omega⟩⟩
 clear hu hkm hO4 ho3
 refine zhr zv5 ty4 rfl fun w5 hx5 hB5=>?_
 have hs4:=hx4.size
 have hMW:MW w w5 gv g w4.heap.size n ms true:=⟨hx4.trans hx5,hB4.ext hx5,hM4.ext hx5,hB5,by omega,by have:=hB4.lt;omega,by have:=hM4.lt g (by simp);omega,by omega,by omega,by omega⟩
 generalize w4.heap.size=ga at *
 refine LOOPI.mk (fun m us w'=>∃ (ga:Nat) (ms:List Bool) (ag:Bool),us=[.pointer (some ⟨ga,0,none⟩)]∧m=(n-zon ms)+(if ag then 1 else 0)∧MW w w' gv g ga n ms ag∧TP c ms false ms 0∧(ag=false→ms=zuY c)) (n-zon ms+1) ⟨ga,ms,true,rfl,rfl,hMW,hT,fun e=>by cases e⟩ ?_
 rintro m u w6 ⟨ga,ms,ag,hu,hm,hW6,hT6,hend⟩
 simp only [List.map_cons,List.map_nil,List.cons.injEq,and_true] at hu
 rw [hu]
 have hcn:=zkD ms
 rw [hT6.len,hnn] at hcn
 refine zaA ty4 hW6.agn rfl ?_
 refine zb4 (fun hag=>?_) (fun hag=>?_)
 case refine_2=>
   refine zaA zqb hW6.var rfl ?_
   rw [←hend hag]
   exact ⟨hW6.ext,[g],hW6.mks,fun b hb=>by simp only [List.mem_cons,List.not_mem_nil,or_false] at hb;omega⟩
 rw [hag,if_pos rfl] at hm
 refine zb0 (α:=Raw) (lo:=0) (hi:=0) ty4 rfl rfl hW6.agn (by simp) (zfO rfl) fun w7 hc7 hB7=>?_
 have hW7:=hW6.agains hc7.one hB7
 refine zaQ (v:=.func (.func 154) #[] #[.pointer (some ⟨gv,0,none⟩),.pointer (some ⟨ga,0,none⟩)]) (fun w' _=>by simp [Instr.makeFunc]) ?_
 refine NIL.mk rfl ?_
 refine zaa zbs ?_
 refine zaa zaG ?_
 refine zab zdi (zao hcode) (e0.trans hW7.ext) fun v46 h46=>?_
 refine zae u34 h46 ?_
 rw [hnn]
 refine zaB n (fun k us w'=>∃ (ms':List Bool) (ag':Bool),us=[.int .i64 (k:Int)]∧k≤n∧MW w w' gv g ga n ms' ag'∧TP c ms ag' ms' k) 0 (Nat.zero_le _) ⟨ms,false,rfl,Nat.zero_le _,hW7,hT6⟩ ?_
 rintro k mk u w8 hkm ⟨ms8,ag8,hu,hkl,hW8,hT8⟩
 simp only [List.map_cons,List.map_nil,List.cons.injEq,and_true] at hu
 rw [hu]
 refine zai ?_
 refine br (fun hlt=>?_) (fun hge=>?_)
 case refine_2=>
   have hke:k=n:=by omega
   rw [hke] at hT8
   refine zaA ty4 hW8.agn rfl ?_
   refine zhr zv5 ty4 rfl fun w9 hx9 hB9=>?_
   have hcn8:=zkD ms8
   rw [hT8.len,hnn] at hcn8
   refine ⟨(n-zon ms8)+(if ag8 then 1 else 0),?_,_,ms8,ag8,rfl,rfl,hW8.cell hx9 hB9 (Nat.le_refl _),hT8.again,fun e=>?_⟩
   · cases ag8 with
     | true=>have:=hT8.yes rfl;simp;omega
     | false=>rw [(hT8.no rfl).1];simp;omega
   rw [e,←hnn] at hT8
   exact hT8.fin hc
 have hk:k<n:=by omega
 have hkn:k<c.ins.length:=by omega
 have hl8:ms8.length=n:=by rw [hT8.len,hnn]
 refine zad u34 zdY h46 hkn fun b3 o3 hA3=>?_
 rw [zaP] at hA3
 refine zab zdY hA3 (e0.trans hW8.ext) fun v52 h52=>?_
 refine zcA zr2 rfl zdY rfl h52 (e0.trans hW8.ext) fun w9 hx9 hAI hV9=>?_
 have hW9:=hW8.step hx9
 have hAB9:=zfe h52 hV9 rfl
 refine zaA zqb hW9.var rfl ?_
 refine zad u90 ty4 (i:=k) hW9.mks.is (by rw [hl8];exact hk) fun b4 o4 hA4=>?_
 refine zdh ty4 hA4 (Ext.refl _) ?_
 refine zaU ?_
 have hmk8:=zdA (ms:=ms8) (i:=k) (by rw [hl8];exact hk)
 refine zb4 (fun hf=>?_) (fun hf=>?_)
 · have hnm:¬mkd ms8 k:=by rw [hmk8];simpa using hf
   refine zag (by omega) ?_
   exact ⟨mk-1,by omega,k+1,by omega,ms8,ag8,rfl,by omega,hW9,hT8.next fun h=>absurd h hnm⟩
 have hym:mkd ms8 k:=by rw [hmk8];simpa using hf
 have hMk:=hT8.snd k hym
 refine JOIN.mk (fun us w'=>∃ (ms':List Bool) (ag':Bool),MW w w' gv g ga n ms' ag'∧TP c ms ag' ms' k∧((zap c k).op=4→mkd ms' (eN c (agN c k)))∧∀ j∈zaY c k,MetP c j) ?_ ?_
 · refine zaa zbx ?_
   refine zac ty3 (zaC hAI) (Ext.refl _) fun _=>?_
   refine zaf ?_
   refine br (fun c4=>?_) (fun c4=>?_)
   · obtain ⟨ha1,ha2⟩:=zcs hc hkn (.inl c4)
     have hpe:agN c k<c.entry.length:=by rw [hc.2.1.1];exact ha2
     obtain ⟨he1,he2,_⟩:=zhZ hc hpe
     obtain ⟨hz1,hz2,hz3⟩:=ziV hc ha2
     have hxd:=zak w9
     have hW10:=hW9.step hxd
     generalize World.drew1 w9=w10 at *
     refine NIL.mk rfl ?_
     refine zaa zbs ?_
     refine zaa za5 ?_
     refine zab za1 (zan hcode) (e0.trans hW10.ext) fun v66 h66=>?_
     refine zaa zby ?_
     refine zac ty3 (zaD hAI) hxd fun _=>?_
     rw [ha1]
     refine zad u33 ty3 h66 hpe fun b5 o5 hA5=>?_
     rw [zbm hpe,he1] at hA5
     refine zac ty3 hA5 (e0.trans hW10.ext) fun _=>?_
     refine zoy (args:=[_]) (caps:=[_,_]) ztw ((zqX (i:=eN c (agN c k)) hW10 (by omega) hl8).mono ?_)
     rintro _ w11 ⟨rfl,hW11,hc11⟩
     have hT11:=hT8.meet he2 (.call hMk c4)
     have hme:mkd (ms8.set (eN c (agN c k)) true) (eN c (agN c k)):=(zfj (by rw [hl8];omega)).2 (.inr rfl)
     have hx12:=zak w11
     have hW12:=hW11.step hx12
     have hgI:w8.heap.size<w10.heap.size:=by have:=hV9.lt;have:=hxd.size;omega
     have hne:w8.heap.size∉[g,ga]:=by have h1:=hW8.mks.lt g (by simp);have h2:=hW8.agn.lt;simp;omega
     have hAI11:=(hAB9.ext hxd).keep (hc11.block _ hgI hne)
     have hAI12:=(hAI11.ext hx12).at (e0.trans hW12.ext)
     generalize World.drew1 w11=w12 at *
     refine zaA zqb hW12.var rfl ?_
     refine NIL.mk rfl ?_
     refine zaa zbs ?_
     refine zab zdW hcode (e0.trans hW12.ext) fun v76 h76=>?_
     refine zaa zby ?_
     refine zac ty3 (zaD hAI12) (Ext.refl _) fun _=>?_
     rw [ha1]
     refine (zdq h76 (e0.trans hW12.ext) (by omega)).mono ?_
     rintro _ w13 ⟨hx13,rfl⟩
     refine ⟨hx13,?_⟩
     have hW13:=hW12.step hx13
     rw [hz1]
     refine za3 (by unfold I64;omega) ?_
     rw [show ((zN c (agN c k)+1:Nat):Int)-1=(zN c (agN c k):Int) by omega]
     have hl13:(ms8.set (eN c (agN c k)) true).length=n:=by rw [List.length_set,hl8]
     generalize ms8.set (eN c (agN c k)) true=ms13 at *
     refine zad u90 ty4 (i:=zN c (agN c k)) hW13.mks.is (by rw [hl13];omega) fun b6 o6 hA6=>?_
     refine zdh ty4 hA6 (Ext.refl _) ?_
     refine zaU ?_
     have hmk13:=zdA (ms:=ms13) (i:=zN c (agN c k)) (by rw [hl13];omega)
     refine zb4 (fun hf13=>?_) (fun hf13=>?_)
     · have hnm:¬mkd ms13 (zN c (agN c k)):=by rw [hmk13];simpa using hf13
       refine zag (by omega) ?_
       exact ⟨mk-1,by omega,k+1,by omega,ms13,_,rfl,by omega,hW13,hT11.next fun _=>⟨fun _=>⟨hme,fun h=>absurd h hnm⟩,fun h=>absurd c4 h⟩⟩
     have hyz:mkd ms13 (zN c (agN c k)):=by rw [hmk13];simpa using hf13
     exact ⟨ms13,_,hW13,hT11,fun _=>hme,fun j hj=>.back hMk c4 (hT11.snd _ hyz) hj⟩
   exact ⟨ms8,ag8,hW9,hT8,fun h=>absurd h c4,fun j hj=>.next hMk c4 hj⟩
 rintro us w14 ⟨ms14,ag14,hW14,hT14,hc14,hnx⟩
 refine (ziP hcode (e0.trans hW14.ext) hc hkn).mono ?_
 rintro v86 w15 ⟨hx15,ho15⟩
 have hW15:=hW14.step hx15
 have hl2:=ziO c k
 have hnl:=fun {j:Nat} (hj:j∈zaY c k)=>(zdm hc hkn hj).1
 generalize hNx:zaY c k=N at *
 refine zae u33 ho15.is ?_
 rw [zaj]
 refine zaB N.length (fun q us w'=>∃ (ms':List Bool) (ag':Bool),us=[.int .i64 (q:Int)]∧q≤N.length∧MW w w' gv g ga n ms' ag'∧TP c ms ag' ms' k∧((zap c k).op=4→mkd ms' (eN c (agN c k)))∧(∀ j∈N.take q,mkd ms' j)∧OwnI w14.heap.size w15.heap.size w' v86 (zbA N)) 0 (Nat.zero_le _) ⟨ms14,ag14,rfl,Nat.zero_le _,hW15,hT14,hc14,by simp,ho15.toI⟩ ?_
 rintro q mq u w16 hqm ⟨ms16,ag16,hu,hql,hW16,hT16,hc16,hq16,hO16⟩
 simp only [List.map_cons,List.map_nil,List.cons.injEq,and_true] at hu
 rw [hu]
 refine zai ?_
 refine br (fun hlt=>?_) (fun hge=>?_)
 case refine_2=>
   refine zag (by omega) ?_
   rw [List.take_of_length_le (by omega)] at hq16
   exact ⟨mk-1,by omega,k+1,by omega,ms16,ag16,rfl,by omega,hW16,hT16.next fun _=>⟨fun h4=>⟨hc16 h4,fun _=>hNx▸hq16⟩,fun _=>hNx▸hq16⟩⟩
 have hq:q<N.length:=by omega
 refine zad u33 ty3 (i:=q) hO16.is (by rw [zaj];exact hq) fun b7 o7 hA7=>?_
 rw [zbq] at hA7
 refine zac ty3 hA7 (Ext.refl _) fun _=>?_
 have htq:=fun x=>zbu hq (x:=x)
 have hj:=List.getElem_mem hq
 have hjl:=hnl hj
 have hjm:=hnx _ hj
 generalize N[q]=j at *
 have hl16:ms16.length=n:=by rw [hT16.len,hnn]
 refine zoy (args:=[_]) (caps:=[_,_]) ztw ((zqX (i:=j) hW16 (by omega) hl16).mono ?_)
 rintro _ w17 ⟨rfl,hW17,hc17⟩
 refine zag (by omega) ?_
 have hg14:=hW14.mks.lt g (by simp)
 have hga14:=hW14.agn.lt
 refine ⟨mq-1,by omega,q+1,by omega,_,_,rfl,by omega,hW17,hT16.meet hjl hjm,fun h4=>zig (hc16 h4),fun i hi=>?_,hO16.chgF hc17 (by simp;omega)⟩
 rcases (htq i).1 hi with h | h
 · exact zig (hq16 i h)
 rw [h];exact (zfj (by rw [hl16];omega)).2 (.inr rfl)
structure HW (w1 w:World) (gm go g ga n:Nat) (vm:Value) (out:List Nat) (ag:Bool):Prop where
 ext:Ext w1 w
 met:Blk gm 90 w [vm]
 var:Blk go 33 w [.slice (some ⟨g,0,none⟩) n n]
 mine:Mine [g] w (.slice (some ⟨g,0,none⟩) n n) (zbA out)
 agn:Blk ga 4 w [.bool ag]
 n0:gm≠g
 n01:gm≠ga
 n1:go≠g
 n2:go≠ga
 n3:g≠ga
 g0:w1.heap.size≤g
 g1:w1.heap.size≤go
 g2:w1.heap.size≤ga
section
variable {w1 w w':World} {gm go g ga n:Nat} {vm:Value} {out:List Nat} {ag:Bool}
theorem HW.set {i v:Nat} (h:HW w1 w gm go g ga n vm out ag) (hc:Chg [g] w w') (hm:Mine [g] w' (.slice (some ⟨g,0,none⟩) n n) ((zbA out).set i (v:Int))):HW w1 w' gm go g ga n vm (out.set i v) ag:=
 ⟨h.ext.chgF hc (by simp [h.g0]),h.met.chgF hc (by simp [h.n0]),h.var.chgF hc (by simp [h.n1]),by rw [zgT];exact hm,h.agn.chgF hc (by simp [Ne.symm h.n3]),h.n0,h.n01,h.n1,h.n2,h.n3,h.g0,h.g1,h.g2⟩
end
end Go.Proofs.YtcnglfeoglgebaaGreat
namespace Go.Sh
open Rep (rep)
theorem zgW {α:Type} [Rep α] {w:World} {g e o:Nat} {cs:List Value} {v:Value} {l:List α} (hB:Blk g e w cs) (ho:cs[o]?=some v) (h:Is w v l):At w g o l:=by
 obtain ⟨F,xs,hr,rfl⟩:=h
 have hr':=hr
 obtain ⟨a,cap,Fi,ys,rfl,h⟩:=hr
 refine ⟨F,_,hr',fun i u hi=>?_⟩
 have:i=0:=by
   cases i with
   | zero=>rfl
   | succ i=>simp at hi
 subst this
 simp only [List.getElem?_cons_zero,Option.some.injEq] at hi
 subst hi
 have:=hB.range o _ ho
 rw [Nat.zero_add] at this
 exact this
end Go.Sh
namespace Go.Proofs.YtcnglfeoglgebaaGreat
open Go Go.Sh Go.Proofs
open Rep (rep)
theorem zps {w:World} {v:Value} {c:DCode} (h:Is w v c):∃ a0 a1 a2 a3 a4 n0 n1 n2 n3 n4 k0 k1 k2 k3 k4,v=.agg #[.slice a0 n0 k0,.slice a1 n1 k1,.slice a2 n2 k2,.slice a3 n3 k3,.slice a4 n4 k4]:=by
 obtain ⟨F,cs,hr,rfl⟩:=h
 obtain ⟨F0,c0,F1,c1,F2,c2,F3,c3,F4,c4,rfl,rfl,⟨_,_,_,_,rfl,_⟩,⟨_,_,_,_,rfl,_⟩,⟨_,_,_,_,rfl,_⟩,⟨_,_,_,_,rfl,_⟩,⟨_,_,_,_,rfl,_⟩⟩:=zlv hr
 exact ⟨_,_,_,_,_,_,_,_,_,_,_,_,_,_,_,rfl⟩
section
variable {w1 w w':World} {gw g h n:Nat} {kc:List Value} {ms:List Bool} {out:List Nat} {nw:Bool}
end
end Go.Proofs.YtcnglfeoglgebaaGreat
namespace Go.Sh
open Rep (rep)
theorem Blk.uniq {w:World} {g e:Nat} {cs cs':List Value} (h:Blk g e w cs) (h':Blk g e w cs'):cs'=cs:=by
 unfold Blk at h h'
 rw [h] at h'
 simp only [Option.some.injEq,Obj.cells.injEq] at h'
 have:=h'.1
 simpa using this.symm
theorem zoz {w:World} {g e:Nat} {cs ds:List Value} (h:Blk g e w (cs++ds)):w.rangeAt g 0 cs:=(zau h.range).1
end Go.Sh
namespace Go.Proofs.YtcnglfeoglgebaaGreat
open Go Go.Sh Go.Proofs
open Rep (rep)
structure WB (W0 w:World) (b e:Nat) (c:DCode) (kc:List Value) (m:Nat) (x6 x7 x8 x9 x10:Value):Prop where
 ext:Ext W0 w
 blk:Blk b e w (kc++[.slice (some ⟨m,0,none⟩) c.ins.length c.ins.length,x6,x7,x8,x9,x10])
 code:∃ F,rep F W0 kc c
 live:Mine [m] w (.slice (some ⟨m,0,none⟩) c.ins.length c.ins.length) (zgP c.ins.length (zeq c))
 b0:W0.heap.size≤b
 m0:W0.heap.size≤m
 ne:b≠m
section
variable {W0 w w':World} {b e m:Nat} {c:DCode} {kc:List Value} {x6 x7 x8 x9 x10:Value}
theorem WB.k5 (h:WB W0 w b e c kc m x6 x7 x8 x9 x10):kc.length=5:=by obtain ⟨F,hr⟩:=h.code;exact Rep.len hr
theorem WB.cell (h:WB W0 w b e c kc m x6 x7 x8 x9 x10) (i:Nat):(kc++[Value.slice (some ⟨m,0,none⟩) c.ins.length c.ins.length,x6,x7,x8,x9,x10])[5+i]?=[Value.slice (some ⟨m,0,none⟩) c.ins.length c.ins.length,x6,x7,x8,x9,x10][i]?:=by
 rw [List.getElem?_append_right (by rw [h.k5];omega),h.k5,Nat.add_sub_cancel_left]
theorem WB.code_at (h:WB W0 w b e c kc m x6 x7 x8 x9 x10):At w b 0 c:=by
 obtain ⟨F,hr⟩:=h.code
 exact ⟨F,kc,zbO hr h.ext,zoz h.blk⟩
theorem WB.wl (h:WB W0 w b e c kc m x6 x7 x8 x9 x10):WL w b c:=⟨h.code_at,zgW h.blk (h.cell 0) h.live.is⟩
theorem WB.step (h:WB W0 w b e c kc m x6 x7 x8 x9 x10) (hx:Ext w w'):WB W0 w' b e c kc m x6 x7 x8 x9 x10:=⟨h.ext.trans hx,h.blk.ext hx,h.code,h.live.ext hx,h.b0,h.m0,h.ne⟩
theorem WB.chg {F:List Nat} (h:WB W0 w b e c kc m x6 x7 x8 x9 x10) (hc:Chg F w w') (hF:∀ x∈F,W0.heap.size≤x∧x≠b∧x≠m):WB W0 w' b e c kc m x6 x7 x8 x9 x10:=
 ⟨h.ext.chgF hc fun x hx=>(hF x hx).1,h.blk.chgF hc fun hb=>(hF b hb).2.1 rfl,h.code,h.live.keep fun x hx=>by
   simp only [List.mem_cons,List.not_mem_nil,or_false] at hx;subst hx
   exact hc.block x (h.live.lt x (by simp)) fun hm=>(hF x hm).2.2 rfl,h.b0,h.m0,h.ne⟩
theorem WB.cells {y6 y7 y8 y9 y10:Value} (h:WB W0 w b e c kc m x6 x7 x8 x9 x10) (hc:ChgI b (b+1) w w') (hB:Blk b e w' (kc++[.slice (some ⟨m,0,none⟩) c.ins.length c.ins.length,y6,y7,y8,y9,y10])):WB W0 w' b e c kc m y6 y7 y8 y9 y10:=
 ⟨h.ext.chgI hc h.b0,hB,h.code,h.live.keep fun x hx=>by
   simp only [List.mem_cons,List.not_mem_nil,or_false] at hx;subst hx
   exact hc.block x (h.live.lt x (by simp)) (by have:=h.ne;omega),h.b0,h.m0,h.ne⟩
theorem WB.set (h:WB W0 w b e c kc m x6 x7 x8 x9 x10) (i:Nat) (v:Value):(kc++[Value.slice (some ⟨m,0,none⟩) c.ins.length c.ins.length,x6,x7,x8,x9,x10]).set (5+i) v=kc++[Value.slice (some ⟨m,0,none⟩) c.ins.length c.ins.length,x6,x7,x8,x9,x10].set i v:=by
 rw [List.set_append_right _ _ (by rw [h.k5];omega),h.k5,Nat.add_sub_cancel_left]
end
def CS (c:DCode) (out:List Nat) (D:Nat→Nat→Prop):Prop:=out.length=c.procs.length∧∀ q,q<c.procs.length→za8 out q=zg9 (D q) c.procs.length
theorem CS.mono {c:DCode} {out:List Nat} {D D':Nat→Nat→Prop} (h:CS c out D) (hD:∀ q r,q<c.procs.length→r<c.procs.length→(D q r↔D' q r)):CS c out D':=⟨h.1,fun q hq=>by rw [h.2 q hq];exact zdc fun r hr=>hD q r hq hr⟩
theorem CS.set {c:DCode} {out:List Nat} {D D':Nat→Nat→Prop} (h:CS c out D) {p a:Nat} (hp:p<c.procs.length) (ha:a<c.procs.length) (hD:∀ q r,D' q r↔D q r∨(q=p∧r=a)):CS c (out.set p (za8 out p ||| 2^a)) D':=by
 refine ⟨by simp [h.1],fun q hq=>?_⟩
 rw [zcj (by rw [h.1];exact hp)]
 split
 · rename_i e
   subst e
   rw [h.2 p hp]
   refine zeY fun r=>?_
   rw [Nat.testBit_or,Nat.testBit_two_pow,Bool.or_eq_true,zci,decide_eq_true_eq,hD]
   constructor
   · rintro (⟨h1,h2⟩ | rfl)
     · exact ⟨h1,.inl h2⟩
     exact ⟨ha,.inr ⟨rfl,rfl⟩⟩
   rintro ⟨h1,h2 | ⟨_,h2⟩⟩
   · exact .inl ⟨h1,h2⟩
   exact .inr h2.symm
 rename_i e
 rw [h.2 q hq]
 exact zdc fun r hr=>⟨fun h=>(hD q r).2 (.inl h),fun h=>((hD q r).1 h).resolve_right fun h=>e h.1.symm⟩
theorem CS.lt0 {c:DCode} {out:List Nat} {D:Nat→Nat→Prop} (h:CS c out D) (h8:c.procs.length≤8) {q:Nat} (hq:q<c.procs.length):za8 out q<256:=by rw [h.2 q hq];exact zaR h8
theorem CS.zero {c:DCode} {D:Nat→Nat→Prop} (hD:∀ q r,¬D q r):CS c (List.replicate c.procs.length 0) D:=⟨by simp,fun q hq=>by
 rw [←zbe (by simp;exact hq),List.getElem_replicate]
 exact zeY fun r=>by simp [hD]⟩
theorem CS.eq_cls {c:DCode} {out:List Nat} {op:Int} (h:CS c out fun q r=>zoo c q op r):out=cls c op:=by
 refine List.ext_getElem (by rw [h.1,zfo]) fun i h1 h2=>?_
 have hi:i<c.procs.length:=by rw [←h.1];exact h1
 rw [zbe h1,zbe h2,ztu hi,h.2 i hi]
def zpt (j:Nat):Nat:=if j=11 then 6 else if j=14 then 7 else 8
def zu0 (j:Nat):Prop:=j=11∨j=14∨j=17
def fcB (W:World) (b e:Nat) (hd:List Value) (t9 t10:Value) (w:World):Prop:=ChgI b (b+1) W w∧∃ x6 x7 x8,Blk b e w (hd++[x6,x7,x8,t9,t10])
def fcR (b e:Nat) (j:Nat) (w w':World):Prop:=(zu0 j∧ChgI b (b+1) w w'∧∀ cs,Blk b e w cs→∃ v,Blk b e w' (cs.set (zpt j) v))∨(¬zu0 j∧Ext w w')
def fcQ (b e n:Nat):ParQ:=fun i u T w=>match i with
 | 0=>u 17=.pointer (some ⟨b,0,none⟩)
 | 1=>u 18=.pointer (some ⟨b,0,none⟩)
 | 2=>u 19=.pointer (some ⟨b,0,none⟩)
 | 3=>u 20=.int .i64 (n:Int)
 | 4=>∃ g,u 21=.slice (some ⟨g,0,none⟩) n n∧(T 4).1≤g∧g<(T 4).2∧g≠b∧Mine [g] w (.slice (some ⟨g,0,none⟩) n n) (zbA (List.replicate n 0))
 | 5=>u 22=.int .i64 (n:Int)
 | 6=>∃ g,u 23=.slice (some ⟨g,0,none⟩) n n∧(T 6).1≤g∧g<(T 6).2∧g≠b∧Mine [g] w (.slice (some ⟨g,0,none⟩) n n) (zbA (List.replicate n 0))
 | 7=>u 24=.int .i64 (n:Int)
 | 8=>∃ g,u 25=.slice (some ⟨g,0,none⟩) n n∧(T 8).1≤g∧g<(T 8).2∧g≠b∧Mine [g] w (.slice (some ⟨g,0,none⟩) n n) (zbA (List.replicate n 0))
 | 9=>u 26=.pointer (some ⟨b,0,none⟩)
 | 10=>u 27=.pointer (some ⟨b,0+6,none⟩)
 | 11=>∃ cs,Blk b e w cs∧cs[6]?=some (u 21)
 | 12=>u 28=.pointer (some ⟨b,0,none⟩)
 | 13=>u 29=.pointer (some ⟨b,0+7,none⟩)
 | 14=>∃ cs,Blk b e w cs∧cs[7]?=some (u 23)
 | 15=>u 30=.pointer (some ⟨b,0,none⟩)
 | 16=>u 31=.pointer (some ⟨b,0+8,none⟩)
 | 17=>∃ cs,Blk b e w cs∧cs[8]?=some (u 25)
 | _=>True
section
variable {b e n:Nat} {w w':World}
theorem fcR.sz {j:Nat} (h:fcR b e j w w'):w.heap.size≤w'.heap.size:=by
 rcases h with ⟨_,h,_⟩ | ⟨_,h⟩
 · exact h.size
 exact h.size
theorem fcR.chg {j:Nat} (h:fcR b e j w w'):ChgI b (b+1) w w':=by
 rcases h with ⟨_,h,_⟩ | ⟨_,h⟩
 · exact h
 exact h.toI
theorem fcR.mine {j g:Nat} {l:List Int} {v:Value} (h:fcR b e j w w') (hg:g≠b) (hm:Mine [g] w v l):Mine [g] w' v l:=hm.keep fun x hx=>by
 simp only [List.mem_cons,List.not_mem_nil,or_false] at hx;subst hx
 exact h.chg.block x (hm.lt x (by simp)) (by omega)
theorem fcR.cell {j:Nat} {u:Value} {k:Nat} (h:fcR b e j w w') (hij:zu0 j→zpt j≠k) (hc:∃ cs,Blk b e w cs∧cs[k]?=some u):∃ cs,Blk b e w' cs∧cs[k]?=some u:=by
 obtain ⟨cs,hB,hk⟩:=hc
 rcases h with ⟨hs,_,h⟩ | ⟨_,h⟩
 · obtain ⟨v,hv⟩:=h cs hB
   exact ⟨_,hv,by rw [List.getElem?_set_ne (hij hs)];exact hk⟩
 exact ⟨cs,hB.ext h,hk⟩
theorem fcB.step {W:World} {hd:List Value} {t9 t10:Value} {j:Nat} (h6:hd.length=6) (h:fcB W b e hd t9 t10 w) (hR:fcR b e j w w'):fcB W b e hd t9 t10 w':=by
 obtain ⟨hc,x6,x7,x8,hB⟩:=h
 refine ⟨hc.trans hR.chg,?_⟩
 rcases hR with ⟨hs,_,hR⟩ | ⟨_,hR⟩
 · obtain ⟨v,hv⟩:=hR _ hB
   rcases hs with rfl | rfl | rfl
   · refine ⟨v,x7,x8,?_⟩
     rw [List.set_append_right _ _ (by rw [h6];decide),h6] at hv
     exact hv
   · refine ⟨x6,v,x8,?_⟩
     rw [List.set_append_right _ _ (by rw [h6];decide),h6] at hv
     exact hv
   refine ⟨x6,x7,v,?_⟩
   rw [List.set_append_right _ _ (by rw [h6];decide),h6] at hv
   exact hv
 exact ⟨x6,x7,x8,hB.ext hR⟩
theorem fcR.ext {j:Nat} (hj:¬zu0 j) (hx:Ext w w'):fcR b e j w w':=.inr ⟨hj,hx⟩
end
theorem zkQ {W:World} {b e n j:Nat} {hd:List Value} {t9 t10:Value} {w:World} {g:Nat} {K:World→Prop} (hs:zu0 j) (h6:hd.length=6) (hB:fcB W b e hd t9 t10 w) (k:∀ w',fcR b e j w w'→(∃ cs,Blk b e w' cs∧cs[zpt j]?=some (.slice (some ⟨g,0,none⟩) n n))→K w') :
   OPU Tryz.prog (Instr.storeAt 33 (.pointer (some ⟨b,0+zpt j,none⟩)) (.slice (some ⟨g,0,none⟩) n n)) w K:=by
 obtain ⟨hc,x6,x7,x8,hB⟩:=hB
 have hlt:zpt j<(hd++[x6,x7,x8,t9,t10]).length:=by
   rw [List.length_append,h6]
   show zpt j<11
   rcases hs with rfl | rfl | rfl<;>decide
 rw [Nat.zero_add]
 refine zb0 (α:=Raw) (lo:=0) (hi:=0) za1 rfl rfl hB hlt (zfO rfl) fun w2 hc2 hB2=>?_
 have hR:fcR b e j w w2:=.inl ⟨hs,hc2,fun cs hcs=>by
   have:=hB.uniq hcs
   subst this
   exact ⟨_,hB2⟩⟩
 exact k w2 hR ⟨_,hB2,by rw [List.getElem?_set_self hlt]⟩
theorem zud {sets:List Nat} {r:Nat} (l:List Int):(orL sets l).testBit r=true↔∃ x∈l,(za8 sets x.toNat).testBit r=true:=by
 have key:∀ (l:List Int) (a:Nat),(l.foldl (fun a i=>a ||| sets.getD i.toNat 0) a).testBit r=true↔a.testBit r=true∨∃ x∈l,(za8 sets x.toNat).testBit r=true:=fun l=>by
   induction l with
   | nil=>simp
   | cons i l ih=>
     intro a
     rw [List.foldl_cons,ih,Nat.testBit_or,Bool.or_eq_true,or_assoc]
     refine or_congr Iff.rfl ?_
     simp only [List.mem_cons,exists_eq_or_imp]
     exact Iff.rfl
 have:=key l 0
 simpa [orL] using this
theorem zgX {sets:List Nat} {m n r:Nat} (hm:m<2^n) (hn:n≤62):(orL sets (zb7 m)).testBit r=true↔∃ i,i<n∧m.testBit i=true∧(za8 sets i).testBit r=true:=by
 rw [zud,zkG hm (by omega)]
 constructor
 · rintro ⟨x,hx,h⟩
   obtain ⟨i,h1,rfl,h3⟩:=zdP.1 hx
   exact ⟨i,h1,h3,by simpa using h⟩
 rintro ⟨i,h1,h2,h3⟩
 exact ⟨(i:Int),zdP.2 ⟨i,h1,rfl,h2⟩,by simpa using h3⟩
theorem znn {m n:Nat} (h:∀ r,m.testBit r=true→r<n):m<2^n:=Nat.lt_pow_two_of_testBit _ fun i hi=>by
 cases e:m.testBit i
 · rfl
 have:=h i e;omega
def F103 (a0:Value) (w:World) (R:VW):Prop:=
 NIL a0 <|
 rF 92 a0 0 w fun x13=>
 rF 36 x13 2 w fun x14=>
 rL 24 x14 w fun x15=>
 rN 24 3 x15 w fun x16=>
 (fun w0=>GPAR w0 [[(0,17)],[(1,18)],[(2,19)],[(3,20)],[(4,21),(3,20),(3,20)],[(5,22)],[(6,23),(5,22),(5,22)],[(7,24)],[(8,25),(7,24),(7,24)],[(9,26),(0,17),(0,17),(3,20),(4,21)],[(10,27),(9,26),(0,17),(3,20),(4,21)],[(10,27),(4,21),(0,17),(3,20),(4,21)],[(12,28),(1,18),(0,17),(1,18),(3,20),(4,21),(5,22),(6,23),(9,26),(10,27)],[(13,29),(12,28),(0,17),(1,18),(3,20),(4,21),(5,22),(6,23),(9,26),(10,27)],[(13,29),(6,23),(0,17),(1,18),(3,20),(4,21),(5,22),(6,23),(9,26),(10,27)],[(15,30),(2,19),(0,17),(1,18),(2,19),(3,20),(4,21),(5,22),(6,23),(7,24),(8,25),(9,26),(10,27),(12,28),(13,29)],[(16,31),(15,30),(0,17),(1,18),(2,19),(3,20),(4,21),(5,22),(6,23),(7,24),(8,25),(9,26),(10,27),(12,28),(13,29)],[(16,31),(8,25),(0,17),(1,18),(2,19),(3,20),(4,21),(5,22),(6,23),(7,24),(8,25),(9,26),(10,27),(12,28),(13,29)]] (fun B R Q=>
 (∀ (u1:Env) (T:Nat→Nat×Nat) (w:World),B w→w0.heap.size≤w.heap.size→zaH [] w0.heap.size w.heap.size T→(True)→(fun w1=>R 0 w1 w∧Q 0 (upd u1 17 a0) (zbM T 0 (w1.heap.size,w.heap.size)) w) w) ∧
 (∀ (u1:Env) (T:Nat→Nat×Nat) (w:World),B w→w0.heap.size≤w.heap.size→zaH [] w0.heap.size w.heap.size T→(True)→(fun w1=>R 1 w1 w∧Q 1 (upd u1 18 a0) (zbM T 1 (w1.heap.size,w.heap.size)) w) w) ∧
 (∀ (u1:Env) (T:Nat→Nat×Nat) (w:World),B w→w0.heap.size≤w.heap.size→zaH [] w0.heap.size w.heap.size T→(True)→(fun w1=>R 2 w1 w∧Q 2 (upd u1 19 a0) (zbM T 2 (w1.heap.size,w.heap.size)) w) w) ∧
 (∀ (u1:Env) (T:Nat→Nat×Nat) (w:World),B w→w0.heap.size≤w.heap.size→zaH [] w0.heap.size w.heap.size T→(True)→(fun w1=>R 3 w1 w∧Q 3 (upd u1 20 x16) (zbM T 3 (w1.heap.size,w.heap.size)) w) w) ∧
 (∀ (u1:Env) (T:Nat→Nat×Nat) (w:World),B w→w0.heap.size≤w.heap.size→zaH [3,3] w0.heap.size w.heap.size T→(Q 3 u1 T w∧Q 3 u1 T w∧True)→(fun w1=>oP (Instr.makeSlice 33 (u1 20) (u1 20)) w fun x21 w=>
 R 4 w1 w∧Q 4 (upd u1 21 x21) (zbM T 4 (w1.heap.size,w.heap.size)) w) w) ∧
 (∀ (u1:Env) (T:Nat→Nat×Nat) (w:World),B w→w0.heap.size≤w.heap.size→zaH [] w0.heap.size w.heap.size T→(True)→(fun w1=>R 5 w1 w∧Q 5 (upd u1 22 x16) (zbM T 5 (w1.heap.size,w.heap.size)) w) w) ∧
 (∀ (u1:Env) (T:Nat→Nat×Nat) (w:World),B w→w0.heap.size≤w.heap.size→zaH [5,5] w0.heap.size w.heap.size T→(Q 5 u1 T w∧Q 5 u1 T w∧True)→(fun w1=>oP (Instr.makeSlice 33 (u1 22) (u1 22)) w fun x23 w=>
 R 6 w1 w∧Q 6 (upd u1 23 x23) (zbM T 6 (w1.heap.size,w.heap.size)) w) w) ∧
 (∀ (u1:Env) (T:Nat→Nat×Nat) (w:World),B w→w0.heap.size≤w.heap.size→zaH [] w0.heap.size w.heap.size T→(True)→(fun w1=>R 7 w1 w∧Q 7 (upd u1 24 x16) (zbM T 7 (w1.heap.size,w.heap.size)) w) w) ∧
 (∀ (u1:Env) (T:Nat→Nat×Nat) (w:World),B w→w0.heap.size≤w.heap.size→zaH [7,7] w0.heap.size w.heap.size T→(Q 7 u1 T w∧Q 7 u1 T w∧True)→(fun w1=>oP (Instr.makeSlice 33 (u1 24) (u1 24)) w fun x25 w=>
 R 8 w1 w∧Q 8 (upd u1 25 x25) (zbM T 8 (w1.heap.size,w.heap.size)) w) w) ∧
 (∀ (u1:Env) (T:Nat→Nat×Nat) (w:World),B w→w0.heap.size≤w.heap.size→zaH [0,0,3,4] w0.heap.size w.heap.size T→(Q 0 u1 T w∧Q 0 u1 T w∧Q 3 u1 T w∧Q 4 u1 T w∧True)→(fun w1=>NIL (u1 17) <|
 R 9 w1 w∧Q 9 (upd u1 26 (u1 17)) (zbM T 9 (w1.heap.size,w.heap.size)) w) w) ∧
 (∀ (u1:Env) (T:Nat→Nat×Nat) (w:World),B w→w0.heap.size≤w.heap.size→zaH [9,0,3,4] w0.heap.size w.heap.size T→(Q 9 u1 T w∧Q 0 u1 T w∧Q 3 u1 T w∧Q 4 u1 T w∧True)→(fun w1=>rF 92 (u1 26) 2 w fun x27=>
 R 10 w1 w∧Q 10 (upd u1 27 x27) (zbM T 10 (w1.heap.size,w.heap.size)) w) w) ∧
 (∀ (u1:Env) (T:Nat→Nat×Nat) (w:World),B w→w0.heap.size≤w.heap.size→zaH [10,4,0,3,4] w0.heap.size w.heap.size T→(Q 10 u1 T w∧Q 4 u1 T w∧Q 0 u1 T w∧Q 3 u1 T w∧Q 4 u1 T w∧True)→(fun w1=>oS 33 (u1 27) (u1 21) w fun w=>
 R 11 w1 w∧Q 11 u1 (zbM T 11 (w1.heap.size,w.heap.size)) w) w) ∧
 (∀ (u1:Env) (T:Nat→Nat×Nat) (w:World),B w→w0.heap.size≤w.heap.size→zaH [1,0,1,3,4,5,6,9,10,11] w0.heap.size w.heap.size T→(Q 1 u1 T w∧Q 0 u1 T w∧Q 1 u1 T w∧Q 3 u1 T w∧Q 4 u1 T w∧Q 5 u1 T w∧Q 6 u1 T w∧Q 9 u1 T w∧Q 10 u1 T w∧Q 11 u1 T w∧True)→(fun w1=>NIL (u1 18) <|
 R 12 w1 w∧Q 12 (upd u1 28 (u1 18)) (zbM T 12 (w1.heap.size,w.heap.size)) w) w) ∧
 (∀ (u1:Env) (T:Nat→Nat×Nat) (w:World),B w→w0.heap.size≤w.heap.size→zaH [12,0,1,3,4,5,6,9,10,11] w0.heap.size w.heap.size T→(Q 12 u1 T w∧Q 0 u1 T w∧Q 1 u1 T w∧Q 3 u1 T w∧Q 4 u1 T w∧Q 5 u1 T w∧Q 6 u1 T w∧Q 9 u1 T w∧Q 10 u1 T w∧Q 11 u1 T w∧True)→(fun w1=>rF 92 (u1 28) 3 w fun x29=>
 R 13 w1 w∧Q 13 (upd u1 29 x29) (zbM T 13 (w1.heap.size,w.heap.size)) w) w) ∧
 (∀ (u1:Env) (T:Nat→Nat×Nat) (w:World),B w→w0.heap.size≤w.heap.size→zaH [13,6,11,0,1,3,4,5,6,9,10,11] w0.heap.size w.heap.size T→(Q 13 u1 T w∧Q 6 u1 T w∧Q 11 u1 T w∧Q 0 u1 T w∧Q 1 u1 T w∧Q 3 u1 T w∧Q 4 u1 T w∧Q 5 u1 T w∧Q 6 u1 T w∧Q 9 u1 T w∧Q 10 u1 T w∧Q 11 u1 T w∧True)→(fun w1=>oS 33 (u1 29) (u1 23) w fun w=>
 R 14 w1 w∧Q 14 u1 (zbM T 14 (w1.heap.size,w.heap.size)) w) w) ∧
 (∀ (u1:Env) (T:Nat→Nat×Nat) (w:World),B w→w0.heap.size≤w.heap.size→zaH [2,0,1,2,3,4,5,6,7,8,9,10,11,12,13,14] w0.heap.size w.heap.size T→(Q 2 u1 T w∧Q 0 u1 T w∧Q 1 u1 T w∧Q 2 u1 T w∧Q 3 u1 T w∧Q 4 u1 T w∧Q 5 u1 T w∧Q 6 u1 T w∧Q 7 u1 T w∧Q 8 u1 T w∧Q 9 u1 T w∧Q 10 u1 T w∧Q 11 u1 T w∧Q 12 u1 T w∧Q 13 u1 T w∧Q 14 u1 T w∧True)→(fun w1=>NIL (u1 19) <|
 R 15 w1 w∧Q 15 (upd u1 30 (u1 19)) (zbM T 15 (w1.heap.size,w.heap.size)) w) w) ∧
 (∀ (u1:Env) (T:Nat→Nat×Nat) (w:World),B w→w0.heap.size≤w.heap.size→zaH [15,0,1,2,3,4,5,6,7,8,9,10,11,12,13,14] w0.heap.size w.heap.size T→(Q 15 u1 T w∧Q 0 u1 T w∧Q 1 u1 T w∧Q 2 u1 T w∧Q 3 u1 T w∧Q 4 u1 T w∧Q 5 u1 T w∧Q 6 u1 T w∧Q 7 u1 T w∧Q 8 u1 T w∧Q 9 u1 T w∧Q 10 u1 T w∧Q 11 u1 T w∧Q 12 u1 T w∧Q 13 u1 T w∧Q 14 u1 T w∧True)→(fun w1=>rF 92 (u1 30) 4 w fun x31=>
 R 16 w1 w∧Q 16 (upd u1 31 x31) (zbM T 16 (w1.heap.size,w.heap.size)) w) w) ∧
 (∀ (u1:Env) (T:Nat→Nat×Nat) (w:World),B w→w0.heap.size≤w.heap.size→zaH [16,8,14,0,1,2,3,4,5,6,7,8,9,10,11,12,13,14] w0.heap.size w.heap.size T→(Q 16 u1 T w∧Q 8 u1 T w∧Q 14 u1 T w∧Q 0 u1 T w∧Q 1 u1 T w∧Q 2 u1 T w∧Q 3 u1 T w∧Q 4 u1 T w∧Q 5 u1 T w∧Q 6 u1 T w∧Q 7 u1 T w∧Q 8 u1 T w∧Q 9 u1 T w∧Q 10 u1 T w∧Q 11 u1 T w∧Q 12 u1 T w∧Q 13 u1 T w∧Q 14 u1 T w∧True)→(fun w1=>oS 33 (u1 31) (u1 25) w fun w=>
 R 17 w1 w∧Q 17 u1 (zbM T 17 (w1.heap.size,w.heap.size)) w) w) ∧
 True)
 (fun B Q=>∀ (u1:Env) (T:Nat→Nat×Nat) (w:World),B w→w0.heap.size≤w.heap.size→zaH [0,1,2,3,4,5,6,7,8,9,10,11,12,13,14,15,16,17] w0.heap.size w.heap.size T→(Q 0 u1 T w∧Q 1 u1 T w∧Q 2 u1 T w∧Q 3 u1 T w∧Q 4 u1 T w∧Q 5 u1 T w∧Q 6 u1 T w∧Q 7 u1 T w∧Q 8 u1 T w∧Q 9 u1 T w∧Q 10 u1 T w∧Q 11 u1 T w∧Q 12 u1 T w∧Q 13 u1 T w∧Q 14 u1 T w∧Q 15 u1 T w∧Q 16 u1 T w∧Q 17 u1 T w∧True) →
 LOOPI [33] [(iV 0)] w fun u3 w next3=>
 rC (u3 33) x16 w fun x34=>
 BR x34
 (cL 183 [a0,(u3 33)] w fun x38 w=>
 rN 33 3 x38 w fun x39=>
 LOOPI [40] [(iV 0)] w fun u6 w next6=>
 rC (u6 40) x39 w fun x41=>
 BR x41
 (rX 33 x38 (u6 40) w fun x42=>
 rL 3 x42 w fun x43=>
 NIL a0 <|
 rF 92 a0 0 w fun x46=>
 rF 36 x46 4 w fun x47=>
 rL 34 x47 w fun x48=>
 rX 34 x48 x43 w fun x50=>
 rL 84 x50 w fun x51=>
 oP (Instr.alloc 84 true (.tuple #[])) w fun x6 w=>
 oS 84 x6 x51 w fun w=>
 JOIN [] (fun J11=>
 rF 84 x6 0 w fun x52=>
 rL 3 x52 w fun x53=>
 rB .eql 3 T0 U0 x53 (iV 4) w fun x54=>
 BR x54
 ((fun w=>NIL a0 <|
 rF 92 a0 2 w fun x57=>
 rL 33 x57 w fun x58=>
 rX 33 x58 (u3 33) w fun x60=>
 rL 3 x60 w fun x61=>
 rF 84 x6 1 w fun x62=>
 rL 3 x62 w fun x63=>
 rD (convert 3 105 x63) w fun x64=>
 rB .shl 3 U0 T0 (iV 1) x64 w fun x65=>
 rB .or 3 T0 T0 x61 x65 w fun x66=>
 rX 33 x58 (u3 33) w fun x67=>
 oS 3 x67 x66 w fun w=>
 J11 [] w) (World.drew1 w))
 (J11 [] w)) (fun u11 w=>
 rF 84 x6 0 w fun x68=>
 rL 3 x68 w fun x69=>
 rB .eql 3 T0 U0 x69 (iV 5) w fun x70=>
 BR x70
 ((fun w=>NIL a0 <|
 rF 92 a0 3 w fun x73=>
 rL 33 x73 w fun x74=>
 rX 33 x74 (u3 33) w fun x76=>
 rL 3 x76 w fun x77=>
 rF 84 x6 1 w fun x78=>
 rL 3 x78 w fun x79=>
 rD (convert 3 105 x79) w fun x80=>
 rB .shl 3 U0 T0 (iV 1) x80 w fun x81=>
 rB .or 3 T0 T0 x77 x81 w fun x82=>
 rX 33 x74 (u3 33) w fun x83=>
 oS 3 x83 x82 w fun w=>
 rA (u6 40) (iV 1) w fun x84=>
 next6 [x84] w) (World.drew1 w))
 (rA (u6 40) (iV 1) w fun x84=>
 next6 [x84] w)))
 (rA (u3 33) (iV 1) w fun x85=>
 next3 [x85] w))
 (LOOPI [87] [(iV 0)] w fun u16 w next16=>
 rC (u16 87) x16 w fun x88=>
 BR x88
 (rD (convert 3 105 (u16 87)) w fun x91=>
 rB .shl 3 U0 T0 (iV 1) x91 w fun x92=>
 LOOPI [8,9] [x92,(Value.bool true)] w fun u20 w next20=>
 BR (u20 9)
 (NIL a0 <|
 rF 92 a0 2 w fun x97=>
 rL 33 x97 w fun x98=>
 cL 116 [x98,(u20 8)] w fun x100 w=>
 rB .or 3 T0 T0 (u20 8) x100 w fun x101=>
 rB .neq 3 T0 T0 x101 (u20 8) w fun x104=>
 next20 [x101,x104] w)
 (NIL a0 <|
 rF 92 a0 4 w fun x108=>
 rL 33 x108 w fun x109=>
 rX 33 x109 (u16 87) w fun x112=>
 oS 3 x112 (u20 8) w fun w=>
 rA (u16 87) (iV 1) w fun x113=>
 next16 [x113] w))
 (R (Value.tuple #[]) w)))) (World.drew1 w)
def cfg103:Cfg:={ ext:=extL,joins:=[(11,295143401579725455360,[])],loops:=[(3,77371252455336258591260776,[33]),(6,38685626227667034078969952,[40]),(16,20769187279396805603449450954491776,[87]),(20,81119734894292398653589812152064,[8,9])],draws:=[(10,[0,1,2,3,4,5,6,7,8,9,10,11,12,13],0),(12,[0,1,2,3,4,5,6,7,8,9,10,11,12,13],0)],pars:=[],gpars:=[(1,4294836224)] }
theorem F103_call {a0:Value} {w:World} {R:VW} (h:F103 a0 w R):cL 103 [a0] w R:=co (g:=cfg103) Tryz.func103 (by kernel_rfl) (by kernel_rfl) (by kernel_rfl) h
open Rep (rep)
abbrev sl (g n:Nat):Value:=.slice (some ⟨g,0,none⟩) n n
structure FC (W0 w:World) (b e:Nat) (c:DCode) (kc:List Value) (m g6 g7 g8:Nat) (c6 c7 c8:List Nat) (x9 x10:Value):Prop where
 wb:WB W0 w b e c kc m (sl g6 c.procs.length) (sl g7 c.procs.length) (sl g8 c.procs.length) x9 x10
 m6:Mine [g6] w (sl g6 c.procs.length) (zbA c6)
 m7:Mine [g7] w (sl g7 c.procs.length) (zbA c7)
 m8:Mine [g8] w (sl g8 c.procs.length) (zbA c8)
 n6:W0.heap.size≤g6∧g6≠b∧g6≠m
 n7:W0.heap.size≤g7∧g7≠b∧g7≠m
 n8:W0.heap.size≤g8∧g8≠b∧g8≠m
 d67:g6≠g7
 d68:g6≠g8
 d78:g7≠g8
section
variable {W0 w w':World} {b e m g6 g7 g8:Nat} {c:DCode} {kc:List Value} {c6 c7 c8:List Nat} {x9 x10:Value}
theorem zdN {F:List Nat} {g:Nat} {v:Value} {l:List Int} (hm:Mine [g] w v l) (hc:Chg F w w') (hg:g∉F):Mine [g] w' v l:=hm.keep fun x hx=>by
 simp only [List.mem_cons,List.not_mem_nil,or_false] at hx;subst hx
 exact hc.block x (hm.lt x (by simp)) hg
theorem FC.step (h:FC W0 w b e c kc m g6 g7 g8 c6 c7 c8 x9 x10) (hx:Ext w w'):FC W0 w' b e c kc m g6 g7 g8 c6 c7 c8 x9 x10:=⟨h.wb.step hx,h.m6.ext hx,h.m7.ext hx,h.m8.ext hx,h.n6,h.n7,h.n8,h.d67,h.d68,h.d78⟩
theorem FC.set6 {i v:Nat} (h:FC W0 w b e c kc m g6 g7 g8 c6 c7 c8 x9 x10) (hc:Chg [g6] w w') (hm:Mine [g6] w' (sl g6 c.procs.length) ((zbA c6).set i (v:Int))):FC W0 w' b e c kc m g6 g7 g8 (c6.set i v) c7 c8 x9 x10:=
 ⟨h.wb.chg hc (by simp [h.n6]),by rw [zgT];exact hm,zdN h.m7 hc (by simp [Ne.symm h.d67]),zdN h.m8 hc (by simp [Ne.symm h.d68]),h.n6,h.n7,h.n8,h.d67,h.d68,h.d78⟩
theorem FC.set7 {i v:Nat} (h:FC W0 w b e c kc m g6 g7 g8 c6 c7 c8 x9 x10) (hc:Chg [g7] w w') (hm:Mine [g7] w' (sl g7 c.procs.length) ((zbA c7).set i (v:Int))):FC W0 w' b e c kc m g6 g7 g8 c6 (c7.set i v) c8 x9 x10:=
 ⟨h.wb.chg hc (by simp [h.n7]),zdN h.m6 hc (by simp [h.d67]),by rw [zgT];exact hm,zdN h.m8 hc (by simp [Ne.symm h.d78]),h.n6,h.n7,h.n8,h.d67,h.d68,h.d78⟩
theorem FC.set8 {i v:Nat} (h:FC W0 w b e c kc m g6 g7 g8 c6 c7 c8 x9 x10) (hc:Chg [g8] w w') (hm:Mine [g8] w' (sl g8 c.procs.length) ((zbA c8).set i (v:Int))):FC W0 w' b e c kc m g6 g7 g8 c6 c7 (c8.set i v) x9 x10:=
 ⟨h.wb.chg hc (by simp [h.n8]),zdN h.m6 hc (by simp [h.d68]),zdN h.m7 hc (by simp [h.d78]),by rw [zgT];exact hm,h.n6,h.n7,h.n8,h.d67,h.d68,h.d78⟩
end
theorem WB.ins {W0 w:World} {b e m:Nat} {c:DCode} {kc:List Value} {x6 x7 x8 x9 x10:Value} (h:WB W0 w b e c kc m x6 x7 x8 x9 x10):∃ v,(kc++[Value.slice (some ⟨m,0,none⟩) c.ins.length c.ins.length,x6,x7,x8,x9,x10])[0+0+4]?=some v∧Is W0 v c.ins:=by
 obtain ⟨F,hr⟩:=h.code
 obtain ⟨F0,c0,F1,c1,F2,c2,F3,c3,F4,c4,rfl,rfl,⟨_,_,_,_,rfl,_⟩,⟨_,_,_,_,rfl,_⟩,⟨_,_,_,_,rfl,_⟩,⟨_,_,_,_,rfl,_⟩,hr4⟩:=zlv hr
 have hr4':=hr4
 obtain ⟨_,_,_,_,rfl,_⟩:=hr4
 exact ⟨_,rfl,_,_,hr4',rfl⟩
def fcD (c:DCode) (op:Int) (p:Nat) (M:List Nat) (j:Nat):Nat→Nat→Prop:=fun q r=>(q<p∧zoo c q op r)∨(q=p∧∃ i∈M.take j,(zap c i).op=op∧agN c i=r)
theorem ztx {c:DCode} {op:Int} {p:Nat} {M:List Nat} {j i:Nat} (htj:∀ x,x∈M.take (j+1)↔x∈M.take j∨x=i) (hn:¬(zap c i).op=op) (q r:Nat):fcD c op p M j q r↔fcD c op p M (j+1) q r:=by
 unfold fcD
 refine or_congr Iff.rfl (and_congr Iff.rfl ?_)
 constructor
 · rintro ⟨x,hx,h⟩;exact ⟨x,(htj x).2 (.inl hx),h⟩
 rintro ⟨x,hx,h⟩
 rcases (htj x).1 hx with hx | rfl
 · exact ⟨x,hx,h⟩
 exact absurd h.1 hn
theorem zqY {c:DCode} {op:Int} {p:Nat} {M:List Nat} {j i:Nat} (htj:∀ x,x∈M.take (j+1)↔x∈M.take j∨x=i) (hy:(zap c i).op=op) (q r:Nat):fcD c op p M (j+1) q r↔fcD c op p M j q r∨(q=p∧r=agN c i):=by
 unfold fcD
 constructor
 · rintro (h | ⟨h1,x,hx,h⟩)
   · exact .inl (.inl h)
   rcases (htj x).1 hx with hx | rfl
   · exact .inl (.inr ⟨h1,x,hx,h⟩)
   exact .inr ⟨h1,h.2.symm⟩
 rintro ((h | ⟨h1,x,hx,h⟩) | ⟨h1,h2⟩)
 · exact .inl h
 · exact .inr ⟨h1,x,(htj x).2 (.inl hx),h⟩
 exact .inr ⟨h1,i,(htj i).2 (.inr rfl),hy,h2.symm⟩
theorem zqZ {c:DCode} (hc:CodeR c) {op:Int} (hop:op=4∨op=5) {p:Nat} {M:List Nat} (hp:p<c.procs.length) (hM:∀ i,i∈M↔zaX c p i) (q r:Nat):fcD c op p M M.length q r↔fcD c op (p+1) [] 0 q r:=by
 have key:(∃ i∈M.take M.length,(zap c i).op=op∧agN c i=r)↔zoo c p op r:=by
   rw [List.take_length]
   constructor
   · rintro ⟨i,hi,h1,h2⟩
     have hl:=(hM i).1 hi
     have hin:=(zbP hc (by rw [hc.2.1.1];exact hp) hl).1
     exact ⟨i,hin,hl,h1,by rw [(zcs hc hin (by omega)).1,h2]⟩
   rintro ⟨i,hin,hl,h1,h2⟩
   have:=(zcs hc hin (by omega)).1
   exact ⟨i,(hM i).2 hl,h1,by omega⟩
 unfold fcD
 constructor
 · rintro (h | ⟨rfl,h⟩)
   · exact .inl ⟨by omega,h.2⟩
   exact .inl ⟨by omega,key.1 h⟩
 rintro (⟨h1,h2⟩ | ⟨_,x,hx,_⟩)
 · by_cases e:q=p
   · subst e;exact .inr ⟨rfl,key.2 h2⟩
   exact .inl ⟨by omega,h2⟩
 simp at hx
theorem zq0 {c:DCode} {op:Int} {p:Nat} {M:List Nat} (q r:Nat):fcD c op p [] 0 q r↔fcD c op p M 0 q r:=by
 unfold fcD;simp
theorem CS.done {c:DCode} {op:Int} {out:List Nat} (h:CS c out (fcD c op c.procs.length [] 0)):out=cls c op:=
 CS.eq_cls (op:=op) (h.mono fun q r hq hr=>by unfold fcD;simp [hq])
structure UM (c:DCode) (p m:Nat):Prop where
 lt:m<2^c.procs.length
 self:m.testBit p=true
 snd:∀ r,m.testBit r=true→FromP c p r
theorem UM.start {c:DCode} {p:Nat} (hp:p<c.procs.length):UM c p (2^p):=⟨Nat.pow_lt_pow_right (by omega) hp,by simp [Nat.testBit_two_pow],fun r hr=>by simp [Nat.testBit_two_pow] at hr;exact .inl hr.symm⟩
theorem zhs {c:DCode} {op:Int} {q r:Nat} (hq:q<c.procs.length):(za8 (cls c op) q).testBit r=true↔r<c.procs.length∧zoo c q op r:=by rw [ztu hq,zci]
theorem UM.more {c:DCode} (h8:c.procs.length≤8) {p m:Nat} (h:UM c p m):UM c p (m ||| orL (cls c 4) (zb7 m)):=by
 have hb:∀ r,(orL (cls c 4) (zb7 m)).testBit r=true→∃ i,i<c.procs.length∧m.testBit i=true∧r<c.procs.length∧zoo c i 4 r:=fun r hr=>by
   obtain ⟨i,h1,h2,h3⟩:=(zgX h.lt (by omega)).1 hr
   exact ⟨i,h1,h2,(zhs h1).1 h3⟩
 refine ⟨Nat.or_lt_two_pow h.lt (znn fun r hr=>by obtain ⟨i,_,_,h3,_⟩:=hb r hr;exact h3),by rw [Nat.testBit_or,h.self];rfl,fun r hr=>?_⟩
 rw [Nat.testBit_or,Bool.or_eq_true] at hr
 rcases hr with hr | hr
 · exact h.snd r hr
 obtain ⟨i,h1,h2,h3,h4⟩:=hb r hr
 exact (h.snd i h2).call h3 h4
theorem UM.fin {c:DCode} (h8:c.procs.length≤8) {p m:Nat} (h:UM c p m) (he:m ||| orL (cls c 4) (zb7 m)=m):m=zg9 (FromP c p) c.procs.length:=by
 have hlt:∀ r,m.testBit r=true→r<c.procs.length:=fun r hr=>Decidable.byContradiction fun hn=>by
   have:=Nat.testBit_lt_two_pow (Nat.lt_of_lt_of_le h.lt (Nat.pow_le_pow_right (by omega) (by omega:c.procs.length≤r)))
   rw [this] at hr;cases hr
 refine zeY fun r=>⟨fun hr=>⟨hlt r hr,h.snd r hr⟩,fun ⟨_,hf⟩=>?_⟩
 have step:∀ i j,m.testBit i=true→j∈zvl c i→m.testBit j=true:=fun i j hi hj=>by
   obtain ⟨hj1,hj2⟩:=zbo.1 hj
   rw [←he,Nat.testBit_or,(zgX h.lt (by omega)).2 ⟨i,hlt i hi,hi,(zhs (hlt i hi)).2 ⟨hj1,hj2⟩⟩]
   simp
 rcases hf with rfl | hf
 · exact h.self
 exact hf.keeps (p:=fun i=>m.testBit i=true) h.self step
theorem zoA {c:DCode} (h8:c.procs.length≤8) (op:Int):∀ x∈cls c op,x<256:=fun x hx=>by
 obtain ⟨q,_,rfl⟩:=List.mem_map.1 hx
 exact zaR h8
theorem zvp {c:DCode} (h8:c.procs.length≤8):∀ x∈frs c,x<256:=fun x hx=>by
 obtain ⟨q,_,rfl⟩:=List.mem_map.1 hx
 exact zaR h8
theorem zlQ {w W0:World} {b e m:Nat} {c:DCode} {kc:List Value} {x6 x7 x8 x9 x10:Value} (H:WB W0 w b e c kc m x6 x7 x8 x9 x10) (hc:CodeR c) :
   CALL Tryz.prog 103 [.pointer (some ⟨b,0,none⟩)] w fun r w'=>r=.tuple #[]∧∃ g6 g7 g8,FC W0 w' b e c kc m g6 g7 g8 (cls c 4) (cls c 5) (frs c) x9 x10:=by
 refine F103_call ?_
 unfold F103
 have h8:=hc.1.procs8
 have hil:=hc.f.ins
 refine NIL.mk rfl ?_
 refine zaa zbs ?_
 refine zaa zcC ?_
 refine zab zcQ (zaW H.code_at) (Ext.refl _) fun v15 h15=>?_
 refine zae u24 h15 ?_
 have hxd:=zak w
 have H1:=H.step hxd
 have h6:(kc++[sl m c.ins.length]).length=6:=by rw [List.length_append,H.k5];rfl
 have hB0:fcB (World.drew1 w) b e (kc++[sl m c.ins.length]) x9 x10 (World.drew1 w):=⟨ChgI.refl _,x6,x7,x8,by rw [List.append_assoc];exact H1.blk⟩
 have hbl:=H1.blk.lt
 have hsd:(World.drew1 w).heap.size=w.heap.size:=rfl
 refine GPAR.mk (fcB (World.drew1 w) b e (kc++[sl m c.ins.length]) x9 x10) (fcR b e) (fcQ b e c.procs.length) hB0 (fun j w1 w2 h1 h2=>h1.step h6 h2) (fun j w1 w2 h=>h.sz) ?_ ?_ ?_
 · intro i j u u' T T' wa wb hij hBa hR hd hq
   match i,hij,hd,hq with
   | 0,_,hd,hq=>exact (hd (0,17) (by decide)).1.trans hq
   | 1,_,hd,hq=>exact (hd (1,18) (by decide)).1.trans hq
   | 2,_,hd,hq=>exact (hd (2,19) (by decide)).1.trans hq
   | 3,_,hd,hq=>exact (hd (3,20) (by decide)).1.trans hq
   | 4,_,hd,⟨g,q1,q2,q3,q4,q5⟩=>
     obtain ⟨e1,e2⟩:=hd (4,21) (by decide)
     simp only at e1 e2
     exact ⟨g,e1.trans q1,by rw [e2];exact q2,by rw [e2];exact q3,q4,hR.mine q4 q5⟩
   | 5,_,hd,hq=>exact (hd (5,22) (by decide)).1.trans hq
   | 6,_,hd,⟨g,q1,q2,q3,q4,q5⟩=>
     obtain ⟨e1,e2⟩:=hd (6,23) (by decide)
     simp only at e1 e2
     exact ⟨g,e1.trans q1,by rw [e2];exact q2,by rw [e2];exact q3,q4,hR.mine q4 q5⟩
   | 7,_,hd,hq=>exact (hd (7,24) (by decide)).1.trans hq
   | 8,_,hd,⟨g,q1,q2,q3,q4,q5⟩=>
     obtain ⟨e1,e2⟩:=hd (8,25) (by decide)
     simp only at e1 e2
     exact ⟨g,e1.trans q1,by rw [e2];exact q2,by rw [e2];exact q3,q4,hR.mine q4 q5⟩
   | 9,_,hd,hq=>exact (hd (9,26) (by decide)).1.trans hq
   | 10,_,hd,hq=>exact (hd (10,27) (by decide)).1.trans hq
   | 11,hij,hd,hq=>
     have e1:=(hd (4,21) (by decide)).1
     simp only at e1
     show ∃ cs,Blk b e wb cs∧cs[6]?=some (u' 21)
     rw [e1]
     exact hR.cell (fun hs=>by rcases hs with rfl | rfl | rfl<;>first | exact absurd rfl hij | decide) hq
   | 12,_,hd,hq=>exact (hd (12,28) (by decide)).1.trans hq
   | 13,_,hd,hq=>exact (hd (13,29) (by decide)).1.trans hq
   | 14,hij,hd,hq=>
     have e1:=(hd (6,23) (by decide)).1
     simp only at e1
     show ∃ cs,Blk b e wb cs∧cs[7]?=some (u' 23)
     rw [e1]
     exact hR.cell (fun hs=>by rcases hs with rfl | rfl | rfl<;>first | exact absurd rfl hij | decide) hq
   | 15,_,hd,hq=>exact (hd (15,30) (by decide)).1.trans hq
   | 16,_,hd,hq=>exact (hd (16,31) (by decide)).1.trans hq
   | 17,hij,hd,hq=>
     have e1:=(hd (8,25) (by decide)).1
     simp only at e1
     show ∃ cs,Blk b e wb cs∧cs[8]?=some (u' 25)
     rw [e1]
     exact hR.cell (fun hs=>by rcases hs with rfl | rfl | rfl<;>first | exact absurd rfl hij | decide) hq
   | n+18,_,_,_=>trivial
 · have nf:∀ j,j≠11→j≠14→j≠17→¬zu0 j:=fun j a b d h=>by rcases h with h | h | h<;>contradiction
   refine ⟨?_,?_,?_,?_,?_,?_,?_,?_,?_,?_,?_,?_,?_,?_,?_,?_,?_,?_,trivial⟩
   · exact fun u T w' hB hs _ _=>⟨.ext (nf _ (by decide) (by decide) (by decide)) (Ext.refl _),rfl⟩
   · exact fun u T w' hB hs _ _=>⟨.ext (nf _ (by decide) (by decide) (by decide)) (Ext.refl _),rfl⟩
   · exact fun u T w' hB hs _ _=>⟨.ext (nf _ (by decide) (by decide) (by decide)) (Ext.refl _),rfl⟩
   · exact fun u T w' hB hs _ _=>⟨.ext (nf _ (by decide) (by decide) (by decide)) (Ext.refl _),rfl⟩
   · intro u T w' hB hs _ hp
     have q2:u 20=_:=hp.1
     rw [q2]
     exact zeZ h8.2 (by omega) fun w4 hx4 r=>⟨.ext (nf _ (by decide) (by decide) (by decide)) hx4,_,rfl,Nat.le_refl _,r.lt _ (List.mem_singleton.2 rfl),by obtain ⟨_,_,_,_,hb⟩:=hB;have:=hb.lt;omega,r⟩
   · exact fun u T w' hB hs _ _=>⟨.ext (nf _ (by decide) (by decide) (by decide)) (Ext.refl _),rfl⟩
   · intro u T w' hB hs _ hp
     have q2:u 22=_:=hp.1
     rw [q2]
     exact zeZ h8.2 (by omega) fun w4 hx4 r=>⟨.ext (nf _ (by decide) (by decide) (by decide)) hx4,_,rfl,Nat.le_refl _,r.lt _ (List.mem_singleton.2 rfl),by obtain ⟨_,_,_,_,hb⟩:=hB;have:=hb.lt;omega,r⟩
   · exact fun u T w' hB hs _ _=>⟨.ext (nf _ (by decide) (by decide) (by decide)) (Ext.refl _),rfl⟩
   · intro u T w' hB hs _ hp
     have q2:u 24=_:=hp.1
     rw [q2]
     exact zeZ h8.2 (by omega) fun w4 hx4 r=>⟨.ext (nf _ (by decide) (by decide) (by decide)) hx4,_,rfl,Nat.le_refl _,r.lt _ (List.mem_singleton.2 rfl),by obtain ⟨_,_,_,_,hb⟩:=hB;have:=hb.lt;omega,r⟩
   · intro u T w' hB hs _ hp
     have q:u 17=_:=hp.1
     rw [q]
     exact NIL.mk rfl ⟨.ext (nf _ (by decide) (by decide) (by decide)) (Ext.refl _),rfl⟩
   · intro u T w' hB hs _ hp
     have q:u 26=_:=hp.1
     rw [q]
     exact zaa zn5 ⟨.ext (nf _ (by decide) (by decide) (by decide)) (Ext.refl _),rfl⟩
   · intro u T w' hB hs _ hp
     have q:u 27=_:=hp.1
     obtain ⟨g,q1,_⟩:=hp.2.1
     rw [q,q1]
     refine zkQ (j:=11) (.inl rfl) h6 hB fun w2 hR hQ=>⟨hR,?_⟩
     show ∃ cs,Blk b e w2 cs∧cs[6]?=some (u 21)
     rw [q1];exact hQ
   · intro u T w' hB hs _ hp
     have q:u 18=_:=hp.1
     rw [q]
     exact NIL.mk rfl ⟨.ext (nf _ (by decide) (by decide) (by decide)) (Ext.refl _),rfl⟩
   · intro u T w' hB hs _ hp
     have q:u 28=_:=hp.1
     rw [q]
     exact zaa zqc ⟨.ext (nf _ (by decide) (by decide) (by decide)) (Ext.refl _),rfl⟩
   · intro u T w' hB hs _ hp
     have q:u 29=_:=hp.1
     obtain ⟨g,q1,_⟩:=hp.2.1
     rw [q,q1]
     refine zkQ (j:=14) (.inr (.inl rfl)) h6 hB fun w2 hR hQ=>⟨hR,?_⟩
     show ∃ cs,Blk b e w2 cs∧cs[7]?=some (u 23)
     rw [q1];exact hQ
   · intro u T w' hB hs _ hp
     have q:u 19=_:=hp.1
     rw [q]
     exact NIL.mk rfl ⟨.ext (nf _ (by decide) (by decide) (by decide)) (Ext.refl _),rfl⟩
   · intro u T w' hB hs _ hp
     have q:u 30=_:=hp.1
     rw [q]
     exact zaa zlo ⟨.ext (nf _ (by decide) (by decide) (by decide)) (Ext.refl _),rfl⟩
   intro u T w' hB hs _ hp
   have q:u 31=_:=hp.1
   obtain ⟨g,q1,_⟩:=hp.2.1
   rw [q,q1]
   refine zkQ (j:=17) (.inr (.inr rfl)) h6 hB fun w2 hR hQ=>⟨hR,?_⟩
   show ∃ cs,Blk b e w2 cs∧cs[8]?=some (u 25)
   rw [q1];exact hQ
 rintro u T w2 hB hs hap ⟨-,-,-,-,⟨g6,q21,ha6,hb6,hn6,hM6⟩,-,⟨g7,q23,ha7,hb7,hn7,hM7⟩,-,⟨g8,q25,ha8,hb8,hn8,hM8⟩,-,-,⟨cs6,hB6,hc6⟩,-,-,⟨cs7,hB7,hc7⟩,-,-,⟨cs8,hB8,hc8⟩,-⟩
 have t4:=hap.1 4 (by decide)
 have t6:=hap.1 6 (by decide)
 have t8:=hap.1 8 (by decide)
 have d46:=hap.2 4 (by decide) 6 (by decide) (by decide)
 have d48:=hap.2 4 (by decide) 8 (by decide) (by decide)
 have d68:=hap.2 6 (by decide) 8 (by decide) (by decide)
 obtain ⟨hch,y6,y7,y8,hBB⟩:=hB
 have u6:=hBB.uniq hB6
 have u7:=hBB.uniq hB7
 have u8:=hBB.uniq hB8
 subst u6 u7 u8
 rw [List.getElem?_append_right (by rw [h6];decide),h6,q21] at hc6
 rw [List.getElem?_append_right (by rw [h6];decide),h6,q23] at hc7
 rw [List.getElem?_append_right (by rw [h6];decide),h6,q25] at hc8
 have e6:y6=sl g6 c.procs.length:=by simpa using hc6
 have e7:y7=sl g7 c.procs.length:=by simpa using hc7
 have e8:y8=sl g8 c.procs.length:=by simpa using hc8
 subst e6 e7 e8
 rw [List.append_assoc] at hBB
 have hW2:=H1.cells hch hBB
 have hml:=H1.live.lt m (by simp)
 have hb0:=H.b0
 have hF2:FC W0 w2 b e c kc m g6 g7 g8 (List.replicate c.procs.length 0) (List.replicate c.procs.length 0) (List.replicate c.procs.length 0) x9 x10:=⟨hW2,hM6,hM7,hM8,⟨by omega,hn6,by omega⟩,⟨by omega,hn7,by omega⟩,⟨by omega,hn8,by omega⟩,by omega,by omega,by omega⟩
 clear hc6 hc7 hc8 hB6 hB7 hB8 hBB hW2 hch H1 hB0 hap d46 d48 d68 t4 t6 t8
 have hz:∀ op,CS c (List.replicate c.procs.length 0) (fcD c op 0 [] 0):=fun op=>CS.zero fun q r h=>by unfold fcD at h;simp at h
 have hz4:=hz 4
 have hz5:=hz 5
 have hc8l:(List.replicate c.procs.length 0).length=c.procs.length:=by simp
 refine zaB c.procs.length (fun k us w'=>∃ c6 c7,us=[.int .i64 (k:Int)]∧k≤c.procs.length∧FC W0 w' b e c kc m g6 g7 g8 c6 c7 (List.replicate c.procs.length 0) x9 x10∧CS c c6 (fcD c 4 k [] 0)∧CS c c7 (fcD c 5 k [] 0)) 0 (Nat.zero_le _) ⟨_,_,rfl,Nat.zero_le _,hF2,hz4,hz5⟩ ?_
 rintro p mk u3 w3 hkm ⟨c6,c7,hu,hkl,hF3,hC6,hC7⟩
 simp only [List.map_cons,List.map_nil,List.cons.injEq,and_true] at hu
 rw [hu]
 refine zai ?_
 refine br (fun hlt=>?_) (fun hge=>?_)
 · have hp:p<c.procs.length:=by omega
   have hpe:p<c.entry.length:=by rw [hc.2.1.1];exact hp
   refine (zfn hF3.wb.wl (Ext.refl _) hc hp).mono ?_
   rintro v38 w4 ⟨hx4,ho4⟩
   have hF4:=hF3.step hx4
   have hM:∀ i,i∈zcr c.ins.length (zaX c p)↔zaX c p i:=fun i=>by rw [zbo];exact ⟨fun h=>h.2,fun h=>⟨(zbP hc hpe h).1,h⟩⟩
   have hMl:(zcr c.ins.length (zaX c p)).length≤1500:=Nat.le_trans zbS hil
   generalize zcr c.ins.length (zaX c p)=M at *
   have hg6:=hF3.m6.lt g6 (by simp)
   have hg7:=hF3.m7.lt g7 (by simp)
   refine zae u33 ho4.is ?_
   rw [zaj]
   refine zaB M.length (fun j us w'=>∃ c6 c7,us=[.int .i64 (j:Int)]∧j≤M.length∧FC W0 w' b e c kc m g6 g7 g8 c6 c7 (List.replicate c.procs.length 0) x9 x10∧CS c c6 (fcD c 4 p M j)∧CS c c7 (fcD c 5 p M j)∧OwnI w3.heap.size w4.heap.size w' v38 (zbA M)) 0 (Nat.zero_le _) ⟨c6,c7,rfl,Nat.zero_le _,hF4,hC6.mono fun q r _ _=>zq0 q r,hC7.mono fun q r _ _=>zq0 q r,ho4.toI⟩ ?_
   rintro j mj u5 w5 hjm ⟨c65,c75,hu,hjl,hF5,hC65,hC75,hO5⟩
   simp only [List.map_cons,List.map_nil,List.cons.injEq,and_true] at hu
   rw [hu]
   refine zai ?_
   refine br (fun hlt5=>?_) (fun hge5=>?_)
   case refine_2=>
     have hje:j=M.length:=by omega
     rw [hje] at hC65 hC75
     refine zag (by omega) ?_
     exact ⟨mk-1,by omega,p+1,by omega,c65,c75,rfl,by omega,hF5,hC65.mono fun q r _ _=>zqZ hc (.inl rfl) hp hM q r,hC75.mono fun q r _ _=>zqZ hc (.inr rfl) hp hM q r⟩
   have hj:j<M.length:=by omega
   refine zad u33 ty3 (i:=j) hO5.is (by rw [zaj];exact hj) fun b2 o2 hA2=>?_
   rw [zbq] at hA2
   refine zac ty3 hA2 (Ext.refl _) fun _=>?_
   have htj:=fun x=>zbu hj (x:=x)
   have hiv:=(hM M[j]).1 (List.getElem_mem hj)
   generalize M[j]=i at *
   have hin:=(zbP hc hpe hiv).1
   obtain ⟨v4,hv4,hi4⟩:=hF5.wb.ins
   refine NIL.mk rfl ?_
   refine zaa zbs ?_
   refine zaa zaG ?_
   refine zaA zdi hF5.wb.blk hv4 ?_
   refine zad u34 zdY hi4 hin fun b3 o3 hA3=>?_
   rw [zaP] at hA3
   refine zab zdY hA3 hF5.wb.ext fun v51 h51=>?_
   refine zcA zr2 rfl zdY rfl h51 hF5.wb.ext fun w6 hx6 hAI hV6=>?_
   have hF6:=hF5.step hx6
   have hO6:=hO5.ext hx6
   have hAB6:=zfe h51 hV6 rfl
   have hgI:=hV6.lt
   have hgI0:w5.heap.size≠g6:=by have:=hF5.m6.lt g6 (by simp);omega
   generalize w5.heap.size=gI at *
   refine JOIN.mk (fun us w'=>∃ c6',FC W0 w' b e c kc m g6 g7 g8 c6' c75 (List.replicate c.procs.length 0) x9 x10∧CS c c6' (fcD c 4 p M (j+1))∧OwnI w3.heap.size w4.heap.size w' v38 (zbA M)∧AtB W0 w' gI 0 (zap c i)) ?_ ?_
   · refine zaa zbx ?_
     refine zac ty3 (zaC hAI) (Ext.refl _) fun _=>?_
     refine zaf ?_
     refine br (fun c4=>?_) (fun c4=>?_)
     · obtain ⟨ha1,ha2⟩:=zcs hc hin (.inl c4)
       have hxd:=zak w6
       have hF7:=hF6.step hxd
       have hO7:=hO6.ext hxd
       have hAB7:=hAB6.ext hxd
       have hgI7:gI<(World.drew1 w6).heap.size:=Nat.lt_of_lt_of_le hgI hxd.size
       generalize World.drew1 w6=w7 at *
       have hpl:p<c65.length:=by rw [hC65.1];exact hp
       refine NIL.mk rfl ?_
       refine zaa zn5 ?_
       refine zaA za1 hF7.wb.blk (hF7.wb.cell 1) ?_
       refine zad u33 ty3 (i:=p) hF7.m6.is (by rw [zaj];exact hpl) fun b4 o4 hA4=>?_
       rw [zbX] at hA4
       refine zac ty3 hA4 (Ext.refl _) fun _=>?_
       have h256:=hC65.lt0 h8.1 hp
       refine zaa zby ?_
       refine zac ty3 (zaD hAI) hxd fun _=>?_
       rw [ha1]
       have hpw:2^agN c i<256:=Nat.lt_of_lt_of_le (Nat.pow_lt_pow_right (by omega) ha2) (Nat.pow_le_pow_right (n:=2) (by omega) h8.1)
       refine zdU (by kernel_rfl) zqd (by omega) ?_
       refine zeQ (by omega) ?_
       refine zkf (m:=za8 c65 p) (n:=2^agN c i) (by omega) (by omega) ?_
       have hor:za8 c65 p ||| 2^agN c i<256:=Nat.or_lt_two_pow (n:=8) h256 hpw
       refine zd6 (α:=Int) rfl u33 ty3 hp ?_
       refine zcK (α:=Int) rfl ty3 hF7.m6 (by rw [zaj,hC65.1]) hp (zcF (v:=za8 c65 p ||| 2^agN c i) (by omega)) fun w8 hc8 hm8=>?_
       have hF8:=hF7.set6 (v:=za8 c65 p ||| 2^agN c i) hc8 hm8
       exact ⟨_,hF8,hC65.set hp ha2 fun q r=>zqY htj c4 q r,hO7.chgF hc8 (by simp;omega),hAB7.keep (hc8.block gI hgI7 (by simp;exact hgI0))⟩
     exact ⟨c65,hF6,hC65.mono fun q r _ _=>ztx htj c4 q r,hO6,hAB6⟩
   rintro u9 w9 ⟨c69,hF9,hC69,hO9,hAB9⟩
   have hAI9:=hAB9.at hF9.wb.ext
   refine zaa zbx ?_
   refine zac ty3 (zaC hAI9) (Ext.refl _) fun _=>?_
   refine zaf ?_
   refine br (fun c5=>?_) (fun c5=>?_)
   · obtain ⟨ha1,ha2⟩:=zcs hc hin (.inr c5)
     have hxd:=zak w9
     have hF10:=hF9.step hxd
     have hO10:=hO9.ext hxd
     generalize World.drew1 w9=w10 at *
     have hpl:p<c75.length:=by rw [hC75.1];exact hp
     refine NIL.mk rfl ?_
     refine zaa zqc ?_
     refine zaA za1 hF10.wb.blk (hF10.wb.cell 2) ?_
     refine zad u33 ty3 (i:=p) hF10.m7.is (by rw [zaj];exact hpl) fun b4 o4 hA4=>?_
     rw [zbX] at hA4
     refine zac ty3 hA4 (Ext.refl _) fun _=>?_
     have h256:=hC75.lt0 h8.1 hp
     refine zaa zby ?_
     refine zac ty3 (zaD hAI9) hxd fun _=>?_
     rw [ha1]
     have hpw:2^agN c i<256:=Nat.lt_of_lt_of_le (Nat.pow_lt_pow_right (by omega) ha2) (Nat.pow_le_pow_right (n:=2) (by omega) h8.1)
     refine zdU (by kernel_rfl) zqd (by omega) ?_
     refine zeQ (by omega) ?_
     refine zkf (m:=za8 c75 p) (n:=2^agN c i) (by omega) (by omega) ?_
     have hor:za8 c75 p ||| 2^agN c i<256:=Nat.or_lt_two_pow (n:=8) h256 hpw
     refine zd6 (α:=Int) rfl u33 ty3 hp ?_
     refine zcK (α:=Int) rfl ty3 hF10.m7 (by rw [zaj,hC75.1]) hp (zcF (v:=za8 c75 p ||| 2^agN c i) (by omega)) fun w11 hc11 hm11=>?_
     have hF11:=hF10.set7 (v:=za8 c75 p ||| 2^agN c i) hc11 hm11
     refine zag (by omega) ?_
     exact ⟨mj-1,by omega,j+1,by omega,c69,_,rfl,by omega,hF11,hC69,hC75.set hp ha2 fun q r=>zqY htj c5 q r,hO10.chgF hc11 (by simp;omega)⟩
   refine zag (by omega) ?_
   exact ⟨mj-1,by omega,j+1,by omega,c69,c75,rfl,by omega,hF9,hC69,hC75.mono fun q r _ _=>ztx htj c5 q r,hO9⟩
 have hke:p=c.procs.length:=by omega
 rw [hke] at hC6 hC7
 rw [hC6.done,hC7.done] at hF3
 clear hC6 hC7 hF2 hkm hu
 have hCz:CS c (List.replicate c.procs.length 0) (fun q r=>q<0∧FromP c q r):=CS.zero fun q r h=>by omega
 generalize List.replicate c.procs.length 0=c8 at *
 refine zaB c.procs.length (fun k us w'=>∃ c8,us=[.int .i64 (k:Int)]∧k≤c.procs.length∧FC W0 w' b e c kc m g6 g7 g8 (cls c 4) (cls c 5) c8 x9 x10∧CS c c8 (fun q r=>q<k∧FromP c q r)) 0 (Nat.zero_le _) ⟨_,rfl,Nat.zero_le _,hF3,hCz⟩ ?_
 rintro k mk u4 w4 hkm ⟨c84,hu,hkl,hF4,hC84⟩
 simp only [List.map_cons,List.map_nil,List.cons.injEq,and_true] at hu
 rw [hu]
 refine zai ?_
 refine br (fun hlt4=>?_) (fun hge4=>?_)
 case refine_2=>
   have hke:k=c.procs.length:=by omega
   rw [hke] at hC84
   have:c84=frs c:=by
     refine List.ext_getElem (by rw [hC84.1,zhq]) fun i h1 h2=>?_
     have hi:i<c.procs.length:=by rw [←hC84.1];exact h1
     rw [zbe h1,zbe h2,zou hi,hC84.2 i hi]
     exact zdc fun r _=>⟨fun h=>h.2,fun h=>⟨hi,h⟩⟩
   rw [this] at hF4
   exact ⟨rfl,g6,g7,g8,hF4⟩
 have hk:k<c.procs.length:=by omega
 refine zdU (by kernel_rfl) zqd (by omega) ?_
 refine zeQ (by omega) ?_
 have hU:=UM.start (c:=c) hk
 have h8':2^c.procs.length≤256:=Nat.pow_le_pow_right (n:=2) (by omega) h8.1
 refine LOOPI.mk (fun mm us w'=>∃ (s:Nat) (ag:Bool),us=[.int .i64 (s:Int),.bool ag]∧mm=(256-s)+(if ag then 1 else 0)∧FC W0 w' b e c kc m g6 g7 g8 (cls c 4) (cls c 5) c84 x9 x10∧UM c k s∧(ag=false→s=zg9 (FromP c k) c.procs.length)) (256-2^k+1) ⟨2^k,true,rfl,rfl,hF4,hU,fun e=>by cases e⟩ ?_
 rintro mm u5 w5 ⟨s,ag,hu,hm,hF5,hU5,hend⟩
 obtain ⟨hu1,hu2⟩:=ze4 hu
 rw [hu1,hu2]
 have hs256:s<256:=Nat.lt_of_lt_of_le hU5.lt h8'
 refine zb4 (fun hag=>?_) (fun hag=>?_)
 · rw [hag,if_pos rfl] at hm
   refine NIL.mk rfl ?_
   refine zaa zn5 ?_
   refine zaA za1 hF5.wb.blk (hF5.wb.cell 1) ?_
   refine (zfL hF5.m6.is (Ext.refl _) (zoA h8.1 4) (by rw [zfo];exact h8.1) (m:=s) (by rw [zfo];exact hU5.lt)).mono ?_
   rintro _ w6 ⟨hx6,rfl⟩
   have hF6:=hF5.step hx6
   have hor:=zoq (zoA h8.1 4) (zb7 s)
   have hU6:=hU5.more h8.1
   have hfin:=hU5.fin h8.1
   have hgt:=fun h=>zvn (m:=orL (cls c 4) (zb7 s)) (n:=s) h
   refine zkf (m:=s) (n:=orL (cls c 4) (zb7 s)) (by omega) (by omega) ?_
   have hor2:s ||| orL (cls c 4) (zb7 s)<256:=Nat.or_lt_two_pow (n:=8) hs256 hor
   generalize s ||| orL (cls c 4) (zb7 s)=t at *
   refine zaO ?_
   by_cases hts:t=s
   · refine ⟨256-t,by omega,t,_,rfl,?_,hF6,hU6,fun _=>by rw [hts];exact hfin hts⟩
     rw [hts];simp
   have hd:decide ((t:Int)≠(s:Int))=true:=decide_eq_true fun h=>hts (Int.ofNat_inj.1 h)
   have:=hgt hts
   rw [hd]
   exact ⟨256-t+1,by omega,t,true,rfl,rfl,hF6,hU6,fun e=>by cases e⟩
 have hse:=hend hag
 have hpl:k<c84.length:=by rw [hC84.1];exact hk
 refine NIL.mk rfl ?_
 refine zaa zlo ?_
 refine zaA za1 hF5.wb.blk (hF5.wb.cell 3) ?_
 refine zd6 (α:=Int) rfl u33 ty3 hk ?_
 refine zcK (α:=Int) rfl ty3 hF5.m8 (by rw [zaj,hC84.1]) hk (zcF (v:=s) (by omega)) fun w6 hc6 hm6=>?_
 have hF6:=hF5.set8 (v:=s) hc6 hm6
 refine zag (by omega) ?_
 refine ⟨mk-1,by omega,k+1,by omega,_,rfl,by omega,hF6,by simp [hC84.1],fun q hq=>?_⟩
 rw [zcj hpl]
 split
 · rename_i e
   subst e
   rw [hse]
   exact zdc fun r _=>⟨fun h=>⟨by omega,h⟩,fun h=>h.2⟩
 rename_i e
 rw [hC84.2 q hq]
 exact zdc fun r _=>⟨fun h=>⟨by omega,h.2⟩,fun h=>⟨by omega,h.2⟩⟩
def F112 (a0:Value) (w:World) (R:VW):Prop:=
 NIL a0 <|
 rF 92 a0 0 w fun x5=>
 rF 36 x5 2 w fun x6=>
 rL 24 x6 w fun x7=>
 cL 121 [x7,(Value.string (ByteArray.mk #[109,97,105,110]))] w fun x8 w=>
 R x8 w
def cfg112:Cfg:=⟨extL,[],[],[],[],[],[]⟩
theorem F112_call {a0:Value} {w:World} {R:VW} (h:F112 a0 w R):cL 112 [a0] w R:=co (g:=cfg112) Tryz.func112 (by kernel_rfl) (by kernel_rfl) (by kernel_rfl) h
def F104 (a0:Value) (w:World) (R:VW):Prop:=
 cL 112 [a0] w fun x6 w=>
 rD (convert 3 105 x6) w fun x7=>
 rB .shl 3 U0 T0 (iV 1) x7 w fun x8=>
 LOOPI [2,3] [x8,(Value.bool true)] w fun u2 w next2=>
 BR (u2 3)
 (NIL a0 <|
 rF 92 a0 4 w fun x13=>
 rL 33 x13 w fun x14=>
 cL 116 [x14,(u2 2)] w fun x16 w=>
 NIL a0 <|
 rF 92 a0 6 w fun x18=>
 oS 3 x18 x16 w fun w=>
 (fun w=>NIL a0 <|
 rF 92 a0 3 w fun x22=>
 rL 33 x22 w fun x23=>
 NIL a0 <|
 rF 92 a0 6 w fun x26=>
 rL 3 x26 w fun x27=>
 (fun w_=>cL 116 [x23,x27] w_ fun x28 w=>
 Ext w_ w ∧
 rB .or 3 T0 T0 (u2 2) x28 w fun x29=>
 rB .neq 3 T0 T0 x29 (u2 2) w fun x32=>
 next2 [x29,x32] w) w) (World.drew1 w))
 (NIL a0 <|
 rF 92 a0 5 w fun x37=>
 oS 3 x37 (u2 2) w fun w=>
 R (Value.tuple #[]) w)
def cfg104:Cfg:=⟨extL,[],[(2,17179868700,[2,3])],[(4,[0,1,2,3,4,5,6,7,8,9,10,11],512)],[],[],[]⟩
theorem F104_call {a0:Value} {w:World} {R:VW} (h:F104 a0 w R):cL 104 [a0] w R:=co (g:=cfg104) Tryz.func104 (by kernel_rfl) (by kernel_rfl) (by kernel_rfl) h
def F46 (a0:Value) (w:World) (R:VW):Prop:=
 oP (Instr.box 36 a0) w fun x1 w=>
 rL 36 x1 w fun x7=>
 cL 52 [x7] w fun x8 w=>
 rD (Op.unary .not x8) w fun x9=>
 BR x9
 (R (Value.tuple #[(Value.pointer none),(Value.bool false)]) w)
 ((fun w=>rL 36 x1 w fun x10=>
 rF 36 x1 4 w fun x11=>
 rL 34 x11 w fun x12=>
 rN 34 3 x12 w fun x13=>
 (fun w_=>oP (Instr.makeSlice 90 x13 x13) w_ fun x14 w=>
 Ext w_ w ∧
 (rD (Instr.build 92 #[(0,x10),(1,x14)]) w fun x15=>
 oP (Instr.box 92 x15) w fun x16 w=>
 rF 36 x1 3 w fun x17=>
 rL 33 x17 w fun x18=>
 rN 33 3 x18 w fun x19=>
 LOOPI [20] [(iV 0)] w fun u5 w next5=>
 rC (u5 20) x19 w fun x21=>
 BR x21
 (rX 33 x18 (u5 20) w fun x22=>
 rL 3 x22 w fun x23=>
 NIL x16 <|
 rF 92 x16 1 w fun x26=>
 rL 90 x26 w fun x27=>
 rX 90 x27 x23 w fun x29=>
 oS 4 x29 (Value.bool true) w fun w=>
 NIL x16 <|
 rF 92 x16 1 w fun x33=>
 rL 90 x33 w fun x34=>
 cL 102 [x16,x34,x23] w fun x36 w=>
 rA (u5 20) (iV 1) w fun x37=>
 next5 [x37] w)
 (cL 103 [x16] w fun x39 w=>
 cL 104 [x16] w fun x41 w=>
 R (Value.tuple #[x16,(Value.bool true)]) w))) w) (World.drew1 w))
def cfg46:Cfg:=⟨extL,[],[(5,274876858432,[20])],[(3,[0,1,2,3,4,5,6,7],16)],[],[],[]⟩
theorem F46_call {a0:Value} {w:World} {R:VW} (h:F46 a0 w R):cL 46 [a0] w R:=co (g:=cfg46) Tryz.func46 (by kernel_rfl) (by kernel_rfl) (by kernel_rfl) h
open Rep (rep)
theorem zty {w:World} {g e o:Nat} {cs:List Value} {x:Int} (hB:Blk g e w cs) (ho:cs[o]?=some (.int .i64 x)) (hx:I64 x):At w g o x:=by
 refine ⟨[],[.int .i64 x],⟨rfl,rfl,hx⟩,fun i u hi=>?_⟩
 have:i=0:=by
   cases i with
   | zero=>rfl
   | succ i=>simp at hi
 subst this
 simp only [List.getElem?_cons_zero,Option.some.injEq] at hi
 subst hi
 have:=hB.range o _ ho
 rw [Nat.zero_add] at this
 exact this
section
variable {W0 w w':World} {b e m g6 g7 g8:Nat} {c:DCode} {kc:List Value} {c6 c7 c8:List Nat} {x9 x10 y9 y10:Value}
theorem FC.cells (h:FC W0 w b e c kc m g6 g7 g8 c6 c7 c8 x9 x10) (hc:ChgI b (b+1) w w') (hB:Blk b e w' (kc++[.slice (some ⟨m,0,none⟩) c.ins.length c.ins.length,sl g6 c.procs.length,sl g7 c.procs.length,sl g8 c.procs.length,y9,y10])):FC W0 w' b e c kc m g6 g7 g8 c6 c7 c8 y9 y10:=
 ⟨h.wb.cells hc hB,zdN h.m6 hc.one (by simp [h.n6]),zdN h.m7 hc.one (by simp [h.n7]),zdN h.m8 hc.one (by simp [h.n8]),h.n6,h.n7,h.n8,h.d67,h.d68,h.d78⟩
theorem FC.store9 {x:Nat} {K:World→Prop} (h:FC W0 w b e c kc m g6 g7 g8 c6 c7 c8 x9 x10) (k:∀ w',FC W0 w' b e c kc m g6 g7 g8 c6 c7 c8 (.int .i64 (x:Int)) x10→K w'):OPU Tryz.prog (Instr.storeAt 3 (.pointer (some ⟨b,0+9,none⟩)) (.int .i64 (x:Int))) w K:=by
 have hl:9<(kc++[Value.slice (some ⟨m,0,none⟩) c.ins.length c.ins.length,sl g6 c.procs.length,sl g7 c.procs.length,sl g8 c.procs.length,x9,x10]).length:=by rw [List.length_append,h.wb.k5];simp
 refine zb0 (α:=Raw) (lo:=0) (hi:=0) ty3 rfl rfl h.wb.blk hl (zfO rfl) fun w2 hc2 hB2=>?_
 have:=h.wb.set 4 (.int .i64 (x:Int))
 rw [show 5+4=0+9 by omega] at this
 rw [this] at hB2
 exact k w2 (h.cells hc2 hB2)
theorem FC.store10 {x:Nat} {K:World→Prop} (h:FC W0 w b e c kc m g6 g7 g8 c6 c7 c8 x9 x10) (k:∀ w',FC W0 w' b e c kc m g6 g7 g8 c6 c7 c8 x9 (.int .i64 (x:Int))→K w'):OPU Tryz.prog (Instr.storeAt 3 (.pointer (some ⟨b,0+10,none⟩)) (.int .i64 (x:Int))) w K:=by
 have hl:10<(kc++[Value.slice (some ⟨m,0,none⟩) c.ins.length c.ins.length,sl g6 c.procs.length,sl g7 c.procs.length,sl g8 c.procs.length,x9,x10]).length:=by rw [List.length_append,h.wb.k5];simp
 refine zb0 (α:=Raw) (lo:=0) (hi:=0) ty3 rfl rfl h.wb.blk hl (zfO rfl) fun w2 hc2 hB2=>?_
 have:=h.wb.set 5 (.int .i64 (x:Int))
 rw [show 5+5=0+10 by omega] at this
 rw [this] at hB2
 exact k w2 (h.cells hc2 hB2)
end
theorem zgh {w:World} {b:Nat} {c:DCode} (hA:At w b 0 c) (hc:CodeR c) :
   CALL Tryz.prog 112 [.pointer (some ⟨b,0,none⟩)] w fun r w'=>Ext w w'∧r=.int .i64 (zcZ c:Nat):=by
 refine F112_call ?_
 unfold F112
 refine NIL.mk rfl ?_
 refine zaa zbs ?_
 refine zaa zcC ?_
 refine zab zcQ (zaW hA) (Ext.refl _) fun v15 h15=>?_
 refine (zd2 h15 (Ext.refl _)).mono ?_
 rintro _ w2 ⟨hx2,rfl⟩
 have:=(zfM hc).1
 unfold zgd at this
 rw [this]
 exact ⟨hx2,rfl⟩
structure RM (c:DCode) (r:Nat):Prop where
 lt:r<2^c.procs.length
 self:r.testBit (zcZ c)=true
 snd:∀ q,r.testBit q=true→RootP c q
noncomputable def usR (c:DCode) (r:Nat):Nat:=orL (frs c) (zb7 r)
theorem zno {c:DCode} {q r:Nat} (hq:q<c.procs.length):(za8 (frs c) q).testBit r=true↔r<c.procs.length∧FromP c q r:=by rw [zou hq,zci]
theorem zkR {c:DCode} (h8:c.procs.length≤8) {r p:Nat} (h:RM c r):(usR c r).testBit p=true↔∃ q,q<c.procs.length∧r.testBit q=true∧p<c.procs.length∧FromP c q p:=by
 unfold usR
 rw [zgX h.lt (by omega)]
 exact ⟨fun ⟨i,h1,h2,h3⟩=>⟨i,h1,h2,(zno h1).1 h3⟩,fun ⟨i,h1,h2,h3⟩=>⟨i,h1,h2,(zno h1).2 h3⟩⟩
theorem ztz {c:DCode} (h8:c.procs.length≤8) {r:Nat} (h:RM c r):usR c r<2^c.procs.length:=znn fun p hp=>by
 obtain ⟨_,_,_,h3,_⟩:=(zkR h8 h).1 hp;exact h3
theorem RM.start {c:DCode} (hc:CodeR c):RM c (2^zcZ c):=⟨Nat.pow_lt_pow_right (by omega) (zfM hc).2,by simp [Nat.testBit_two_pow],fun q hq=>by simp [Nat.testBit_two_pow] at hq;exact hq▸.main⟩
theorem RM.more_bit {c:DCode} (h8:c.procs.length≤8) {r q:Nat} (h:RM c r):(orL (cls c 5) (zb7 (usR c r))).testBit q=true↔∃ p,p<c.procs.length∧(usR c r).testBit p=true∧q<c.procs.length∧zoo c p 5 q:=by
 rw [zgX (ztz h8 h) (by omega)]
 exact ⟨fun ⟨i,h1,h2,h3⟩=>⟨i,h1,h2,(zhs h1).1 h3⟩,fun ⟨i,h1,h2,h3⟩=>⟨i,h1,h2,(zhs h1).2 h3⟩⟩
theorem RM.more {c:DCode} (h8:c.procs.length≤8) {r:Nat} (h:RM c r):RM c (r ||| orL (cls c 5) (zb7 (usR c r))):=by
 refine ⟨Nat.or_lt_two_pow h.lt (znn fun q hq=>by obtain ⟨_,_,_,h3,_⟩:=(h.more_bit h8).1 hq;exact h3),by rw [Nat.testBit_or,h.self];rfl,fun q hq=>?_⟩
 rw [Nat.testBit_or,Bool.or_eq_true] at hq
 rcases hq with hq | hq
 · exact h.snd q hq
 obtain ⟨p,h1,h2,h3,h4⟩:=(h.more_bit h8).1 hq
 obtain ⟨s,h5,h6,_,h7⟩:=(zkR h8 h).1 h2
 exact .spawn (h.snd s h6) h7 h4 h3
theorem RM.fin {c:DCode} (hc:CodeR c) (h8:c.procs.length≤8) {r:Nat} (h:RM c r) (he:r ||| orL (cls c 5) (zb7 (usR c r))=r):r=zbK c∧usR c r=zdB c:=by
 have hall:∀ q,RootP c q→r.testBit q=true:=fun q hq=>by
   induction hq with
   | main=>exact h.self
   | @spawn s p q h0 h1 h2 hq ih=>
     have hs:=h0.lt hc
     rw [←he,Nat.testBit_or,(h.more_bit h8).2 ⟨p,h1.lt hs,(zkR h8 h).2 ⟨s,hs,ih,h1.lt hs,h1⟩,hq,h2⟩]
     simp
 refine ⟨zeY fun q=>⟨fun hq=>⟨(h.snd q hq).lt hc,h.snd q hq⟩,fun hq=>hall q hq.2⟩,zeY fun p=>?_⟩
 rw [zkR h8 h]
 constructor
 · rintro ⟨q,h1,h2,h3,h4⟩
   exact ⟨h3,q,h.snd q h2,h4⟩
 rintro ⟨h3,q,h1,h2⟩
 exact ⟨q,h1.lt hc,hall q h1,h3,h2⟩
theorem zlR {w W0:World} {b e m g6 g7 g8:Nat} {c:DCode} {kc:List Value} {x9 x10:Value} (H:FC W0 w b e c kc m g6 g7 g8 (cls c 4) (cls c 5) (frs c) x9 x10) (hc:CodeR c) :
   CALL Tryz.prog 104 [.pointer (some ⟨b,0,none⟩)] w fun r w'=>r=.tuple #[]∧FC W0 w' b e c kc m g6 g7 g8 (cls c 4) (cls c 5) (frs c) (.int .i64 (zbK c:Nat)) (.int .i64 (zdB c:Nat)):=by
 refine F104_call ?_
 unfold F104
 have h8:=hc.1.procs8
 have hml:=(zfM hc).2
 refine (zgh H.wb.code_at hc).mono ?_
 rintro _ w1 ⟨hx1,rfl⟩
 have H1:=H.step hx1
 refine zdU (by kernel_rfl) zqd (by omega) ?_
 refine zeQ (by omega) ?_
 have hR:=RM.start hc
 have h8':2^c.procs.length≤256:=Nat.pow_le_pow_right (n:=2) (by omega) h8.1
 refine LOOPI.mk (fun mm us w'=>∃ (s:Nat) (ag:Bool) (y:Value),us=[.int .i64 (s:Int),.bool ag]∧mm=(256-s)+(if ag then 1 else 0)∧FC W0 w' b e c kc m g6 g7 g8 (cls c 4) (cls c 5) (frs c) x9 y∧RM c s∧(ag=false→s=zbK c∧y=.int .i64 (zdB c:Nat))) (256-2^zcZ c+1) ⟨2^zcZ c,true,x10,rfl,rfl,H1,hR,fun e=>by cases e⟩ ?_
 rintro mm u2 w2 ⟨s,ag,y,hu,hm,H2,hR2,hend⟩
 obtain ⟨hu1,hu2⟩:=ze4 hu
 rw [hu1,hu2]
 have hs256:s<256:=Nat.lt_of_lt_of_le hR2.lt h8'
 refine zb4 (fun hag=>?_) (fun hag=>?_)
 · rw [hag,if_pos rfl] at hm
   refine NIL.mk rfl ?_
   refine zaa zlo ?_
   refine zaA za1 H2.wb.blk (H2.wb.cell 3) ?_
   refine (zfL H2.m8.is (Ext.refl _) (zvp h8.1) (by rw [zhq];exact h8.1) (m:=s) (by rw [zhq];exact hR2.lt)).mono ?_
   rintro _ w3 ⟨hx3,rfl⟩
   have H3:=H2.step hx3
   have hul:=ztz h8.1 hR2
   have hu256:usR c s<256:=Nat.lt_of_lt_of_le hul h8'
   have hue:orL (frs c) (zb7 s)=usR c s:=rfl
   rw [hue]
   refine NIL.mk rfl ?_
   refine zaa zis ?_
   refine H3.store10 fun w4 H4=>?_
   have hxd:=zak w4
   have H5:=H4.step hxd
   generalize World.drew1 w4=w5 at *
   refine NIL.mk rfl ?_
   refine zaa zqc ?_
   refine zaA za1 H5.wb.blk (H5.wb.cell 2) ?_
   refine NIL.mk rfl ?_
   refine zaa zis ?_
   refine zaA ty3 H5.wb.blk (H5.wb.cell 5) ?_
   refine (zfL H5.m7.is (Ext.refl _) (zoA h8.1 5) (by rw [zfo];exact h8.1) (m:=usR c s) (by rw [zfo];exact hul)).mono ?_
   rintro _ w6 ⟨hx6,rfl⟩
   have H6:=H5.step hx6
   have hor:=zoq (zoA h8.1 5) (zb7 (usR c s))
   have hR6:=hR2.more h8.1
   have hfin:=hR2.fin hc h8.1
   have hgt:=fun h=>zvn (m:=orL (cls c 5) (zb7 (usR c s))) (n:=s) h
   refine ⟨hx6,?_⟩
   refine zkf (m:=s) (n:=orL (cls c 5) (zb7 (usR c s))) (by omega) (by omega) ?_
   have hor2:s ||| orL (cls c 5) (zb7 (usR c s))<256:=Nat.or_lt_two_pow (n:=8) hs256 hor
   generalize s ||| orL (cls c 5) (zb7 (usR c s))=t at *
   refine zaO ?_
   by_cases hts:t=s
   · refine ⟨256-t,by omega,t,_,_,rfl,?_,H6,hR6,fun _=>?_⟩
     · rw [hts];simp
     rw [(hfin hts).2]
     exact ⟨by rw [hts];exact (hfin hts).1,rfl⟩
   have hd:decide ((t:Int)≠(s:Int))=true:=decide_eq_true fun h=>hts (Int.ofNat_inj.1 h)
   have:=hgt hts
   rw [hd]
   exact ⟨256-t+1,by omega,t,true,_,rfl,rfl,H6,hR6,fun e=>by cases e⟩
 obtain ⟨hse,hye⟩:=hend hag
 rw [hye] at H2
 refine NIL.mk rfl ?_
 refine zaa zhK ?_
 refine H2.store9 fun w3 H3=>?_
 rw [hse] at H3
 exact ⟨rfl,H3⟩
theorem FC.wat {W0 w:World} {b e m g6 g7 g8:Nat} {c:DCode} {kc:List Value} (H:FC W0 w b e c kc m g6 g7 g8 (cls c 4) (cls c 5) (frs c) (.int .i64 (zbK c:Nat)) (.int .i64 (zdB c:Nat))) (h8:c.procs.length≤8):WAt w b c:=by
 have h1:zbK c<256:=zaR h8
 have h2:zdB c<256:=zaR h8
 exact ⟨H.wb.wl,zgW H.wb.blk (H.wb.cell 1) H.m6.is,zgW H.wb.blk (H.wb.cell 2) H.m7.is,zgW H.wb.blk (H.wb.cell 3) H.m8.is,zty H.wb.blk (H.wb.cell 4) (by unfold I64;omega),zty H.wb.blk (H.wb.cell 5) (by unfold I64;omega)⟩
theorem zht {w W0:World} {v0:Value} {c:DCode} (h0:Is W0 v0 c) (e0:Ext W0 w) :
   CALL Tryz.prog 46 [v0] w fun r w'=>Ext w w'∧((¬CodeR c∧r=.tuple #[.pointer none,.bool false])∨(CodeR c∧∃ b,r=.tuple #[.pointer (some ⟨b,0,none⟩),.bool true]∧WAt w' b c)):=by
 refine F46_call ?_
 unfold F46
 refine zcz h0 e0 fun w1 hx1 hA=>?_
 refine zab zdW hA (Ext.refl _) fun v7 h7=>?_
 refine (zgI h7 (Ext.refl _)).mono ?_
 rintro _ w2 ⟨hx2,rfl⟩
 refine zaS ?_
 refine br (fun hn=>?_) (fun hy=>?_)
 · exact ⟨hx1.trans hx2,.inl ⟨hn,rfl⟩⟩
 have hc:CodeR c:=Decidable.not_not.1 hy
 have h8:=hc.1.procs8
 have hil:=hc.f.ins
 have hz0:=(ziV hc h8.2).2.2
 have hxd:=zak w2
 have hx3:=hx2.trans hxd
 generalize World.drew1 w2=w3 at *
 refine zab zdW hA hx3 fun v10 h10=>?_
 refine zaa zaG ?_
 refine zab zdi (zao hA) hx3 fun v12 h12=>?_
 refine zae u34 h12 ?_
 refine zkF (by omega) (by omega) fun w4 hx4 hM4=>?_
 have hs4:=hx4.size
 have hm4:=hM4.lt _ (List.mem_singleton.2 rfl)
 generalize hm:w3.heap.size=m at *
 have h10':=h10.ext hx3
 have hcells:=zps h10'
 obtain ⟨F,kc,hr,hkc⟩:=h10'
 obtain ⟨a0,a1,a2,a3,a4,n0,n1,n2,n3,n4,k0,k1,k2,k3,k4,hcv⟩:=hcells
 have hkce:kc=[.slice a0 n0 k0,.slice a1 n1 k1,.slice a2 n2 k2,.slice a3 n3 k3,.slice a4 n4 k4]:=by
   rw [hkc] at hcv
   have:(Value.agg kc.toArray)=.agg #[.slice a0 n0 k0,.slice a1 n1 k1,.slice a2 n2 k2,.slice a3 n3 k3,.slice a4 n4 k4]:=hcv
   simpa using this
 rw [hcv]
 refine ⟨hx4,?_⟩
 refine zaT (cells:=#[.slice a0 n0 k0,.slice a1 n1 k1,.slice a2 n2 k2,.slice a3 n3 k3,.slice a4 n4 k4,sl m c.ins.length,.slice none 0 0,.slice none 0 0,.slice none 0 0,.int .i64 0,.int .i64 0]) (by kernel_rfl) ?_
 refine zqw fun w5 hx5 hB5=>?_
 have hB5':Blk w4.heap.size 92 w5 (kc++[sl m c.ins.length,.slice none 0 0,.slice none 0 0,.slice none 0 0,.int .i64 0,.int .i64 0]):=by rw [hkce];exact hB5
 have hk5:kc.length=5:=Rep.len hr
 clear hB5 hcv hkc
 have hM5:=hM4.ext hx5
 have hx35:Ext w3 w5:=hx4.trans hx5
 generalize hb:w4.heap.size=b at *
 refine zaa za5 ?_
 refine zab za1 (zan hA) (hx3.trans hx35) fun v18 h18=>?_
 have h18:=h18.ext hx3
 refine zae u33 h18 ?_
 have hel:c.entry.length=c.procs.length:=hc.2.1.1
 rw [hel]
 have hrep0:List.replicate c.ins.length false=zgP c.ins.length (fun i=>∃ p,p<0∧zaX c p i):=zjp _ fun i ⟨p,h,_⟩=>by omega
 rw [hrep0] at hM5
 have hcell0:∀ {x1 x2 x3 x4 x5:Value},(kc++[sl m c.ins.length,x1,x2,x3,x4,x5])[0+5]?=some (sl m c.ins.length):=by intros;rw [List.getElem?_append_right (by rw [hk5];omega),hk5];rfl
 refine zaB c.procs.length (fun k us w'=>us=[.int .i64 (k:Int)]∧k≤c.procs.length∧Ext w3 w'∧Blk b 92 w' (kc++[sl m c.ins.length,.slice none 0 0,.slice none 0 0,.slice none 0 0,.int .i64 0,.int .i64 0])∧Mine [m] w' (sl m c.ins.length) (zgP c.ins.length fun i=>∃ p,p<k∧zaX c p i)) 0 (Nat.zero_le _) ⟨rfl,Nat.zero_le _,hx35,hB5',hM5⟩ ?_
 rintro k mk u w6 hkm ⟨hu,hkl,hx6,hB6,hM6⟩
 simp only [List.map_cons,List.map_nil,List.cons.injEq,and_true] at hu
 rw [hu]
 refine zai ?_
 refine br (fun hlt=>?_) (fun hge=>?_)
 · have hk:k<c.procs.length:=by omega
   have hke:k<c.entry.length:=by omega
   obtain ⟨he1,he2,he3⟩:=zhZ hc hke
   refine zad u33 ty3 (i:=k) h18 hke fun b5 o5 hA5=>?_
   rw [zbm hke,he1] at hA5
   refine zac ty3 hA5 hx6 fun _=>?_
   refine NIL.mk rfl ?_
   refine zaa zn4 ?_
   refine zaA zqb hB6 hcell0 ?_
   refine zd6 (α:=Bool) rfl u90 ty4 he2 ?_
   refine zcK (α:=Bool) rfl ty4 hM6 zch he2 zfJ fun w7 hc7 hm7=>?_
   have hB7:=hB6.chgF hc7 (by simp;omega)
   have hx7:Ext w3 w7:=hx6.chgF hc7 (by simp [hm])
   have hmk7:∀ i,mkd ((zgP c.ins.length fun i=>∃ p,p<k∧zaX c p i).set (eN c k) true) i↔(i<c.ins.length∧∃ p,p<k∧zaX c p i)∨i=eN c k:=fun i=>by
     rw [zfj (by rw [zch];exact he2),zeX]
   have hl7:((zgP c.ins.length fun i=>∃ p,p<k∧zaX c p i).set (eN c k) true).length=c.ins.length:=by rw [List.length_set,zch]
   generalize (zgP c.ins.length fun i=>∃ p,p<k∧zaX c p i).set (eN c k) true=ms7 at *
   refine NIL.mk rfl ?_
   refine zaa zn4 ?_
   refine zaA zqb hB7 hcell0 ?_
   have hK7:KAt w3 w7 b c:=⟨F,kc,hr,zoz hB7,hB7.lt⟩
   refine (zlM hK7 hx7 hc rfl he2 hm7 hl7 (by omega) (by omega) ?_).mono ?_
   · intro i hi hne j hj
     rcases (hmk7 i).1 hi with ⟨h1,p,h2,h3⟩ | h
     · have hil:=zdm hc h1 hj
       exact (hmk7 j).2 (.inl ⟨hil.1,p,h2,zqK h3 hj⟩)
     exact absurd h hne
   rintro _ w8 ⟨rfl,hc8,hM8⟩
   have hset:(zgP c.ins.length fun i=>mkd ms7 i∨RP (zaY c) (eN c k) i)=zgP c.ins.length fun i=>∃ p,p<k+1∧zaX c p i:=zjM fun i hi=>by
     rw [hmk7]
     constructor
     · rintro ((⟨_,p,h2,h3⟩ | h) | h)
       · exact ⟨p,by omega,h3⟩
       · exact ⟨k,by omega,.inl h⟩
       exact ⟨k,by omega,.inr h⟩
     rintro ⟨p,h2,h3⟩
     by_cases e:p=k
     · subst e
       rcases h3 with h3 | h3
       · exact .inl (.inr h3)
       exact .inr h3
     exact .inl (.inl ⟨hi,p,by omega,h3⟩)
   rw [hset] at hM8
   refine zag (by omega) ?_
   exact ⟨mk-1,by omega,k+1,by omega,rfl,by omega,hx7.chgI hc8 (by omega),hB7.chgI hc8 (by omega),hM8⟩
 have hke:k=c.procs.length:=by omega
 have hal:(zgP c.ins.length fun i=>∃ p,p<k∧zaX c p i)=zgP c.ins.length (zeq c):=by rw [hke];rfl
 rw [hal] at hM6
 have HW:WB w3 w6 b 92 c kc m (.slice none 0 0) (.slice none 0 0) (.slice none 0 0) (.int .i64 0) (.int .i64 0):=⟨hx6,hB6,⟨F,hr⟩,hM6,by omega,by omega,by omega⟩
 refine (zlQ HW hc).mono ?_
 rintro _ w7 ⟨rfl,g6,g7,g8,H7⟩
 refine (zlR H7 hc).mono ?_
 rintro _ w8 ⟨rfl,H8⟩
 exact ⟨hx1.trans (hx3.trans H8.wb.ext),.inr ⟨hc,b,rfl,H8.wat h8.1⟩⟩
end Go.Proofs.YtcnglfeoglgebaaGreat
namespace Go.Proofs.YtcnglfeoglgebaaGreat
open Go.Shelf
def Tryz.sortRace_ren:Go.Shelf.Ren:=⟨fun | 6=>163 | 15=>219 | 14=>234 | 28=>270 | 29=>271 | 20=>289 | 21=>290 | 22=>291 | 23=>292 | 24=>293 | 25=>294 | 26=>295 | 27=>296 | 46=>328 | 47=>318 | 48=>319 | 49=>329 | 50=>330 | 57=>340 | n=>n,fun | 22=>39 | 24=>58 | 25=>185 | 3=>3 | 39=>105 | 0=>0 | 53=>272 | 55=>230 | 4=>4 | 46=>265 | 45=>264 | 50=>269 | 5=>5 | 9=>9 | 66=>298 | 70=>196 | 76=>311 | 77=>312 | n=>n,fun | n=>n⟩
theorem Tryz.sortRace:SlLaysF0.n6 Tryz.prog Tryz.sortRace_ren:={
 mixed:=by kernel_rfl,
 f6:=⟨Tryz.f163.name,by kernel_rfl,Tryz.func163.trans (congrArg some (by kernel_rfl))⟩,
 f14:=⟨Tryz.f234.name,by kernel_rfl,Tryz.func234.trans (congrArg some (by kernel_rfl))⟩,
 f15:=Tryz.func219.trans (congrArg some (by kernel_rfl)),
 f20:=⟨Tryz.f289.name,by kernel_rfl,Tryz.func289.trans (congrArg some (by kernel_rfl))⟩,
 f21:=⟨Tryz.f290.name,by kernel_rfl,Tryz.func290.trans (congrArg some (by kernel_rfl))⟩,
 f22:=⟨Tryz.f291.name,by kernel_rfl,Tryz.func291.trans (congrArg some (by kernel_rfl))⟩,
 f23:=⟨Tryz.f292.name,by kernel_rfl,Tryz.func292.trans (congrArg some (by kernel_rfl))⟩,
 f24:=⟨Tryz.f293.name,by kernel_rfl,Tryz.func293.trans (congrArg some (by kernel_rfl))⟩,
 f25:=⟨Tryz.f294.name,by kernel_rfl,Tryz.func294.trans (congrArg some (by kernel_rfl))⟩,
 f26:=⟨Tryz.f295.name,by kernel_rfl,Tryz.func295.trans (congrArg some (by kernel_rfl))⟩,
 f27:=⟨Tryz.f296.name,by kernel_rfl,Tryz.func296.trans (congrArg some (by kernel_rfl))⟩,
 f28:=Tryz.func270.trans (congrArg some (by kernel_rfl)),
 f29:=Tryz.func271.trans (congrArg some (by kernel_rfl)),
 f46:=⟨Tryz.f328.name,by kernel_rfl,Tryz.func328.trans (congrArg some (by kernel_rfl))⟩,
 f47:=Tryz.func318.trans (congrArg some (by kernel_rfl)),
 f48:=Tryz.func319.trans (congrArg some (by kernel_rfl)),
 f49:=⟨Tryz.f329.name,by kernel_rfl,Tryz.func329.trans (congrArg some (by kernel_rfl))⟩,
 f50:=⟨Tryz.f330.name,by kernel_rfl,Tryz.func330.trans (congrArg some (by kernel_rfl))⟩,
 f57:=⟨Tryz.f340.name,by kernel_rfl,Tryz.func340.trans (congrArg some (by kernel_rfl))⟩,
 t0:=Tryz.underlying0,
 a0:=Tryz.isAgg0,
 z0:=Tryz.sizeOf0,
 v0:=Tryz.zeroValue0,
 t3:=Tryz.underlying3,
 a3:=Tryz.isAgg3,
 z3:=Tryz.sizeOf3,
 v3:=Tryz.zeroValue3,
 t4:=Tryz.underlying4,
 a4:=Tryz.isAgg4,
 z4:=Tryz.sizeOf4,
 v4:=Tryz.zeroValue4,
 t5:=Tryz.underlying5,
 a5:=Tryz.isAgg5,
 z5:=Tryz.sizeOf5,
 v5:=Tryz.zeroValue5,
 t9:=Tryz.underlying9,
 a9:=Tryz.isAgg9,
 z9:=Tryz.sizeOf9,
 v9:=Tryz.zeroValue9,
 t22:=Tryz.underlying39,
 a22:=Tryz.isAgg39,
 z22:=Tryz.sizeOf39,
 v22:=Tryz.zeroValue39,
 t25:=Tryz.underlying185,
 a25:=Tryz.isAgg185,
 z25:=Tryz.sizeOf185,
 v25:=Tryz.zeroValue185,
 t39:=Tryz.underlying105,
 a39:=Tryz.isAgg105,
 z39:=Tryz.sizeOf105,
 v39:=Tryz.zeroValue105,
 t45:=Tryz.underlying264,
 a45:=Tryz.isAgg264,
 z45:=Tryz.sizeOf264,
 v45:=Tryz.zeroValue264,
 t46:=Tryz.underlying265,
 a46:=Tryz.isAgg265,
 z46:=Tryz.sizeOf265,
 v46:=Tryz.zeroValue265,
 t50:=Tryz.underlying269,
 a50:=Tryz.isAgg269,
 z50:=Tryz.sizeOf269,
 v50:=Tryz.zeroValue269,
 t53:=Tryz.underlying272,
 a53:=Tryz.isAgg272,
 z53:=Tryz.sizeOf272,
 v53:=Tryz.zeroValue272,
 t55:=Tryz.underlying230,
 a55:=Tryz.isAgg230,
 z55:=Tryz.sizeOf230,
 v55:=Tryz.zeroValue230,
 t66:=Tryz.underlying298,
 a66:=Tryz.isAgg298,
 z66:=Tryz.sizeOf298,
 v66:=Tryz.zeroValue298,
 t70:=Tryz.underlying196,
 a70:=Tryz.isAgg196,
 z70:=Tryz.sizeOf196,
 v70:=Tryz.zeroValue196,
 t76:=Tryz.underlying311,
 a76:=Tryz.isAgg311,
 z76:=Tryz.sizeOf311,
 v76:=Tryz.zeroValue311,
 t77:=Tryz.underlying312,
 a77:=Tryz.isAgg312,
 z77:=Tryz.sizeOf312,
 v77:=Tryz.zeroValue312 }
end Go.Proofs.YtcnglfeoglgebaaGreat
namespace Go.Sh
open Rep (rep)
open Go.Sort Go.Proofs
section
variable {α:Type} [Inhabited α] {enc:α→List Value} {k:Nat}
theorem zoB (hk:∀ x,(enc x).length=k):∀ (l:List α),(l.flatMap enc).length=l.length*k
 | []=>by simp
 | x :: l=>by rw [List.flatMap_cons,List.length_append,hk,zoB hk l,List.length_cons,Nat.add_mul];omega
theorem zoC (hk:∀ x,(enc x).length=k) (h0:0<k):∀ {l:List α} {t:Nat},t<l.length*k→(l.flatMap enc)[t]?=some ((enc l[t / k]!)[t%k]!)
 | [],t,h=>by simp at h
 | x :: l,t,h=>by
   rw [List.flatMap_cons]
   rcases Nat.lt_or_ge t k with ht | ht
   · rw [List.getElem?_append_left (by rw [hk];exact ht),Nat.div_eq_of_lt ht,Nat.mod_eq_of_lt ht]
     have:t<(enc x).length:=by rw [hk];exact ht
     rw [List.getElem?_eq_getElem this]
     simp [this]
   rw [List.getElem?_append_right (by rw [hk];exact ht),hk]
   have h':t-k<l.length*k:=by rw [List.length_cons,Nat.add_mul] at h;omega
   rw [zoC hk h0 h']
   have e1:t / k=(t-k) / k+1:=by
     have:t=(t-k)+k:=by omega
     conv=>lhs;rw [this]
     rw [Nat.add_div_right _ h0]
   have e2:t%k=(t-k)%k:=by
     have:t=(t-k)+k:=by omega
     conv=>lhs;rw [this]
     rw [Nat.add_mod_right]
   rw [e1,e2]
   simp
theorem zlS (hk:∀ x,(enc x).length=k) (h0:0<k) {l:List α} {t:Nat} (h:t<l.length*k):(l.flatMap enc)[t]?=some (flatK enc k l.toArray)[t]!:=by
 rw [zoC hk h0 h,get_flatK enc k l.toArray t (by simpa using h)]
 simp
end
section
variable {α:Type} [Rep α] [Flat α] [Inhabited α] {w:World} {enc:α→List Value} {b o n cap:Nat} {l:List α}
theorem zlT (henc:∀ {F w cs} {x:α},rep F w cs x→cs=enc x):∀ {l:List α} {F:List Nat} {xs:List Value},Cells F w xs l→xs=l.flatMap enc
 | [],_,_,⟨_,h⟩=>by simp [h]
 | y :: ys,_,_,⟨F1,F2,c1,c2,_,h,h1,h2⟩=>by rw [h,henc h1,zlT henc h2,List.flatMap_cons]
theorem zlU {w':World} (henc:∀ {F w cs} {x:α},rep F w cs x→cs=enc x):∀ {l:List α},(∀ x∈l,∃ F cs,rep F w cs x)→Cells [] w' (l.flatMap enc) l
 | [],_=>⟨rfl,rfl⟩
 | y :: ys,h=>by
   obtain ⟨F,cs,hr⟩:=h y (by simp)
   have hF:=Flat.flat hr
   subst hF
   have hc:=henc hr
   subst hc
   exact ⟨[],[],enc y,ys.flatMap enc,rfl,rfl,Rep.keep hr (by simp),zlU henc fun x hx=>h x (by simp [hx])⟩
theorem zlV:∀ {l:List α} {F:List Nat} {xs:List Value},Cells F w xs l→∀ x∈l,∃ F cs,rep F w cs x
 | y :: ys,_,_,⟨F1,F2,c1,c2,_,h,h1,h2⟩,x,hx=>by
   rcases List.mem_cons.1 hx with rfl | hx
   · exact ⟨_,_,h1⟩
   exact zlV h2 x hx
theorem zlW (henc:∀ {F w cs} {x:α},rep F w cs x→cs=enc x) (hk:∀ x,(enc x).length=Rep.size α) (hw:∃ c e,w.heap[b]?=some (.cells c e (0,0))) {xs:List Value} (hc:Cells [] w xs l) (hr:w.rangeAt b o xs):HoldsK enc (Rep.size α) w b o l.toArray:=by
 intro j hj
 rw [size_flatK] at hj
 have hj':j<l.length*Rep.size α:=by simpa using hj
 have:=zlT henc hc
 subst this
 have h1:=hr j _ (zlS hk Rep.pos hj')
 refine ⟨h1,?_⟩
 obtain ⟨c,e,he⟩:=hw
 simp [World.frozen?,he]
theorem znp (henc:∀ {F w cs} {x:α},rep F w cs x→cs=enc x) (hk:∀ x,(enc x).length=Rep.size α) {d':Array α} {m:Nat} {os:Array Obj} {w3:World} (hw3:w3=sortWorldK enc (Rep.size α) w b o m d' os) (hw:∃ c e,w.heap[b]?=some (.cells c e (0,0))) {xs:List Value} (hc:Cells [] w xs l) (hr:w.rangeAt b o xs)
   (h1:l.length≤cap) (h2:cap≤maxLen) (hl:d'.size=l.length) (hp:∀ x∈d'.toList,x∈l):Chg [b] w w3∧Mine [b] w3 (.slice (some ⟨b,o,none⟩) l.length cap) d'.toList:=by
 subst hw3
 have hH:=zlW henc hk hw hc hr
 obtain ⟨c,e,he⟩:=hw
 have hb:b<w.heap.size:=(Array.getElem?_eq_some_iff.1 he).1
 have hsz:(putRowK enc (Rep.size α) (Sort.ahead w m) b o d').heap.size=w.heap.size:=by simp [putRowK,putRow,mapBlock,Sort.ahead]
 have hblk:∀ i,i<w.heap.size→i≠b→(sortWorldK enc (Rep.size α) w b o m d' os).heap[i]?=w.heap[i]?:=fun i hi hne=>by
   unfold sortWorldK
   rw [heap_grow_old _ _ (by rw [hsz];exact hi)]
   simp [putRowK,putRow,mapBlock,Sort.ahead,Array.getElem?_modify,hne.symm]
 have hbb:∃ c',(sortWorldK enc (Rep.size α) w b o m d' os).heap[b]?=some (.cells c' e (0,0)):=by
   unfold sortWorldK
   rw [heap_grow_old _ _ (by rw [hsz];exact hb)]
   exact ⟨_,by simp [putRowK,putRow,mapBlock,Sort.ahead,Array.getElem?_modify,he,onCells];rfl⟩
 have hsz2:w.heap.size≤(sortWorldK enc (Rep.size α) w b o m d' os).heap.size:=by
   unfold sortWorldK grow
   rw [Array.size_append,hsz];omega
 refine ⟨⟨rfl,rfl,rfl,hsz2,fun i hi hm=>hblk i hi fun e=>hm (by simp [e])⟩,⟨⟨_,⟨some ⟨b,o,none⟩,cap,[],d'.toList.flatMap enc,rfl,by simpa [hl] using h1,h2,?_,.inr ⟨b,o,rfl,rfl,?_,by omega⟩⟩,by simp [mkv,Rep.agg,hl]⟩,by simp,fun i hi=>?_⟩⟩
 · exact zlU (w:=w) henc fun x hx=>zlV hc x (hp x hx)
 · intro j v hv
   have hj:j<d'.toList.length*Rep.size α:=by
     have:=(List.getElem?_eq_some_iff.1 hv).1
     rwa [zoB hk] at this
   rw [zlS hk Rep.pos hj,Option.some.injEq] at hv
   have hj2:j<(flatK enc (Rep.size α) d').size:=by rw [size_flatK];simpa using hj
   have:=cell?_putRow id (Sort.ahead w m) b o (flatK enc (Rep.size α) l.toArray) (flatK enc (Rep.size α) d') hH (by simp [hl]) j hj2
   unfold sortWorldK
   rw [cell?_grow _ _ _ (by rw [hsz];exact hb)]
   show (putRow id (Sort.ahead w m) b o (flatK enc (Rep.size α) d')).cell? _=_
   rw [this,←hv]
   simp
 simp only [List.mem_cons,List.not_mem_nil,or_false] at hi
 subst hi
 obtain ⟨c',hc'⟩:=hbb
 exact ⟨c',e,hc'⟩
end
end Go.Sh
namespace Go.Sh
open Rep (rep)
section
variable {P:Program} {w:World} {α:Type} [Rep α] [Flat α] {b o n cap k:Nat} {l:List α}
theorem zeC {F:List Nat} {v:Value} (hm:Mine F w v l) (hl:l≠[]):∃ b o cap xs,v=.slice (some ⟨b,o,none⟩) l.length cap∧F=[b]∧l.length≤cap∧cap≤maxLen∧Cells [] w xs l∧w.rangeAt b o xs∧(∃ c e,w.heap[b]?=some (.cells c e (0,0))):=by
 obtain ⟨⟨cs,⟨a,cap,Fi,xs,rfl,h1,h2,hc,h4⟩,rfl⟩,hn,hw⟩:=hm
 rcases h4 with ⟨h4,_⟩ | ⟨b,o,rfl,rfl,hr,hb⟩
 · exact absurd h4 hl
 have hFi:=Cells.flat (xs:=xs) hc
 subst hFi
 exact ⟨b,o,cap,xs,rfl,rfl,h1,h2,hc,hr,hw b (by simp)⟩
theorem ze0 {xs:List Value} (h1:l.length≤cap) (h2:cap≤maxLen) (hc:Cells [] w xs l) (hr:w.rangeAt b o xs) (hw:∃ c e,w.heap[b]?=some (.cells c e (0,0))):Mine [b] w (.slice (some ⟨b,o,none⟩) l.length cap) l:=
 ⟨⟨_,⟨some ⟨b,o,none⟩,cap,[],xs,rfl,h1,h2,hc,.inr ⟨b,o,rfl,rfl,hr,by obtain ⟨c,e,h⟩:=hw;exact (Array.getElem?_eq_some_iff.1 h).1⟩⟩,rfl⟩,by simp,fun i hi=>by simp at hi;subst hi;exact hw⟩
theorem zue {t e:TypeId} {by_:Nat} {K:Value→Prop} (ht:P.underlying t=some (.slice e)) (he:tyI P e=some (Rep.size α,by_,Rep.agg α)) (hk:k≤n) (hn:n≤cap) (kk:K (.slice (some ⟨b,o,none⟩) k cap)) :
   RD P (Instr.sliceAt t (.slice (some ⟨b,o,none⟩) n cap) none (some (.int .i64 (k:Int))) none) w K:=by
 refine zaQ (fun w' _=>?_) kk
 have hbd:(Instr.sliceBounds true n cap none (some (.int .i64 (k:Int))) none).run P w'=.ok (0,k,cap) w':=by
   have h5:(k:Int)≤(cap:Int):=by omega
   simp [Instr.sliceBounds,Instr.sliceBound,asIntOf,h5]
   intro h6
   omega
 simp only [Instr.sliceAt,Instr.slice,Sem.run_bind,run_underlying ht,Result.andThen_ok,hbd,zaw he]
 simp [Addr.add_mid]
theorem zoD {t e:TypeId} {by_:Nat} {K:Value→Prop} (ht:P.underlying t=some (.slice e)) (he:tyI P e=some (Rep.size α,by_,Rep.agg α)) (hk:k≤n) (hn:n≤cap) (kk:K (.slice (if cap=k then some ⟨b,o,none⟩ else some ⟨b,o+k*Rep.size α,none⟩) (n-k) (cap-k))) :
   RD P (Instr.sliceAt t (.slice (some ⟨b,o,none⟩) n cap) (some (.int .i64 (k:Int))) none none) w K:=by
 refine zaQ (fun w' _=>?_) kk
 have hb:(Instr.sliceBounds true n cap (some (.int .i64 (k:Int))) none none).run P w'=.ok (k,n,cap) w':=by
   have:(k:Int)≤(n:Int):=by omega
   simp [Instr.sliceBounds,Instr.sliceBound,asIntOf,this]
   try (intro h;omega)
 simp [Instr.sliceAt,Instr.slice,run_underlying ht,hb,zaw he,Addr.add_mid]
theorem zoE {t e:TypeId} {by_ j:Nat} {K:Value→Prop} (ht:P.underlying t=some (.slice e)) (he:tyI P e=some (Rep.size α,by_,Rep.agg α)) (hk:k≤j) (hn:j≤cap) {a:Option Addr} (kk:∀ a',(k≠0→a'=a)→K (.slice a' k j)) :
   RD P (Instr.sliceAt t (.slice a n cap) none (some (.int .i64 (k:Int))) (some (.int .i64 (j:Int)))) w K:=by
 have hb:∀ w',(Instr.sliceBounds true n cap none (some (.int .i64 (k:Int))) (some (.int .i64 (j:Int)))).run P w'=.ok (0,k,j) w':=fun w'=>by
   have h1:(j:Int)≤(cap:Int):=by omega
   have h2:(k:Int)≤(j:Int):=by omega
   simp [Instr.sliceBounds,Instr.sliceBound,asIntOf,h1,h2]
   try (intro h;omega)
 have:∃ a',(∀ w',(Instr.sliceAt t (.slice a n cap) none (some (.int .i64 (k:Int))) (some (.int .i64 (j:Int)))).run P w'=.ok (.slice a' k j) w')∧(k≠0→a'=a):=by
   cases a with
   | none=>exact ⟨none,fun w'=>by simp [Instr.sliceAt,Instr.slice,run_underlying ht,hb,zaw he],fun _=>rfl⟩
   | some a=>exact ⟨some a,fun w'=>by simp [Instr.sliceAt,Instr.slice,run_underlying ht,hb,zaw he,Addr.add],fun _=>rfl⟩
 obtain ⟨a',h1,h2⟩:=this
 exact zaQ (fun w' _=>h1 w') (kk a' h2)
theorem zq1 [RepZ α] {t e ty:TypeId} {K:Value→World→Prop} (ht:P.underlying t=some (.slice e)) (hz:zbU P e=some (RepZ.zc α)) (hm:Mine [b] w (.slice (some ⟨b,o,none⟩) n cap) l) (hl:l.length=n) (hk:k≤n) (hk0:0<k) (hn:n≤cap)
   (kk:∀ w',Chg [b] w w'→Mine [b] w' (.slice (some ⟨b,o,none⟩) k cap) (l.take k)→K (.tuple #[]) w') :
   OP P (Builtin.clear_ #[t] ty [Value.slice (if cap=k then some ⟨b,o,none⟩ else some ⟨b,o+k*Rep.size α,none⟩) (n-k) (cap-k)].toArray) w K:=by
 have hne:l≠[]:=fun e=>by rw [e] at hl;simp at hl;omega
 obtain ⟨b',o',cap',xs,hv,hb',h1,h2,hc,hr,hw⟩:=zeC hm hne
 simp only [Value.slice.injEq,Option.some.injEq,Addr.mk.injEq] at hv
 obtain ⟨⟨rfl,rfl,_⟩,hnl,rfl⟩:=hv
 have htk:(l.take k).length=k:=by simp;omega
 have e0:l=l.take k++l.drop k:=by simp
 have hc':=hc
 rw [e0] at hc'
 obtain ⟨F1,F2,x1,x2,hFF,rfl,c1,c2⟩:=Cells.split hc'
 obtain ⟨rfl,rfl⟩:=List.append_eq_nil_iff.1 hFF.symm
 have hx1:x1.length=k*Rep.size α:=by rw [Cells.len c1,htk]
 have hr1:=(zau hr).1
 by_cases hnk:n=k
 · subst hnk
   refine ⟨.tuple #[],w,?_,kk w (Chg.refl _ _) ?_⟩
   · rw [Nat.sub_self]
     by_cases hck:cap=n
     · rw [if_pos hck];simp [Builtin.clear_,run_underlying ht]
     rw [if_neg hck];simp [Builtin.clear_,run_underlying ht]
   have:=ze0 (l:=l.take n) (cap:=cap) (by omega) h2 c1 hr1 hw
   rwa [htk] at this
 have hck:¬cap=k:=by omega
 rw [if_neg hck]
 obtain ⟨c,e',he⟩:=hw
 unfold zbU at hz
 cases hi:P.info? e with
 | none=>simp [hi] at hz
 | some i=>
   simp only [hi] at hz
   obtain ⟨z,hzz,hzc⟩:=Option.map_eq_some_iff.1 hz
   have hzl:z.cells.size=Rep.size α:=by
     rw [←Array.length_toList,hzc];exact Rep.len (RepZ.zr (α:=α) w)
   have hpos:=Rep.pos (α:=α)
   obtain ⟨m,hm'⟩:∃ m,n-k=m+1:=⟨n-k-1,by omega⟩
   have hzs:(Builtin.zeroCells z.cells (n-k)).toList.length=(n-k)*Rep.size α:=by simp [Builtin.zeroCells,hzl]
   have hfit:o+(k*Rep.size α)+0+(Builtin.zeroCells z.cells (n-k)).toList.length≤c.size:=by
     rw [hzs]
     have hx:(x1++x2).length=n*Rep.size α:=by rw [Cells.len hc,hl]
     have hlast:=hr (n*Rep.size α-1) ((x1++x2)[n*Rep.size α-1]'(by rw [hx];have:=Nat.mul_pos (show 0<n by omega) hpos;omega)) (List.getElem?_eq_getElem _)
     simp only [World.cell?,he] at hlast
     have:=(Array.getElem?_eq_some_iff.1 (by simpa using hlast)).1
     have h3:(n-k)*Rep.size α+k*Rep.size α=n*Rep.size α:=by rw [←Nat.add_mul];congr 1;omega
     have h4:=Nat.mul_pos (show 0<n by omega) hpos
     omega
   have hone:∀ v∈(Builtin.zeroCells z.cells (n-k)).toList,v.oneCell'=true:=fun v hv=>by
     simp only [Builtin.zeroCells,Array.toList_map,Array.toList_range,List.mem_map,List.mem_range] at hv
     obtain ⟨i,_,rfl⟩:=hv
     have hlt:i%z.cells.size<z.cells.size:=Nat.mod_lt _ (by omega)
     have e3:z.cells[i%z.cells.size]! = z.cells[i%z.cells.size]'hlt:=by simp [hlt]
     rw [e3]
     refine Rep.one (RepZ.zr (α:=α) w) _ ?_
     rw [←hzc]
     exact Array.getElem_mem_toList hlt
   have hst:=run_storeCells_at (P:=P) b (o+k*Rep.size α) e' (Builtin.zeroCells z.cells (n-k)).toList 0 c w he hfit hone
   simp only [Nat.add_zero] at hst
   refine ⟨.tuple #[],_,?_,kk _ (zc6 w b (c.toList.take (o+k*Rep.size α)++(Builtin.zeroCells z.cells (n-k)).toList++c.toList.drop (o+k*Rep.size α+(Builtin.zeroCells z.cells (n-k)).toList.length)).toArray) ?_⟩
   · rw [hm'] at hst ⊢
     simp [Builtin.clear_,run_underlying ht,zeroValue,typeInfo,hi,hzz,hst]
   have hB:=setRow_heap w b c (c.toList.take (o+k*Rep.size α)++(Builtin.zeroCells z.cells (n-k)).toList++c.toList.drop (o+k*Rep.size α+(Builtin.zeroCells z.cells (n-k)).toList.length)).toArray e' _ he
   have:=ze0 (w:=w.setRow b (c.toList.take (o+k*Rep.size α)++(Builtin.zeroCells z.cells (n-k)).toList++c.toList.drop (o+k*Rep.size α+(Builtin.zeroCells z.cells (n-k)).toList.length)).toArray) (b:=b) (o:=o) (l:=l.take k) (cap:=cap) (xs:=x1) (by omega) h2 (c1.keep (by simp)) (fun j v hv=>?_) ⟨_,_,hB⟩
   · rwa [htk] at this
   have hj:=(List.getElem?_eq_some_iff.1 hv).1
   rw [hx1] at hj
   have h5:=hr1 j v hv
   simp only [World.cell?,he] at h5
   have h6:c[o+j]?=some v:=by simpa using h5
   simp only [World.cell?,hB]
   simp only [Option.isSome_none,Bool.false_eq_true,if_false,List.getElem?_toArray]
   rw [List.append_assoc,List.getElem?_append_left (by simp;have:=(Array.getElem?_eq_some_iff.1 h6).1;omega),List.getElem?_take,if_pos (by omega)]
   simpa using h6
end
end Go.Sh
namespace Go.Proofs.YtcnglfeoglgebaaGreat
open Go Go.Sh Go.Proofs
open Rep (rep)
set_option maxRecDepth 20000 in
theorem znq {w w0 w1:World} {K:Value→Prop} {x y:Operand} {v1 v2:Value} {a b:DRace} (h1:Is w0 v1 a) (h2:Is w1 v2 b) (k:K (.bool (decide (a=b)))):RD Tryz.prog (bin .eql 58 x y v1 v2) w K:=by
  obtain ⟨rfl,_⟩:=zkl.1 h1
  obtain ⟨rfl,_⟩:=zkl.1 h2
  refine zaQ (fun w' _=>?_) k
  have hg:Tryz.prog.eqGuardType Tryz.prog.depth 58=false:=by kernel_rfl
  have e0:∀ xs ys w,(eqGuard .eql 58 x y (.agg xs) (.agg ys)).run Tryz.prog w=.ok () w:=fun xs ys w=>run_eqGuard_agg (P:=Tryz.prog) w .eql 58 x y xs ys hg
  have e1:∀ xs ys w,(Op.equalIn 10000 58 (.agg xs) (.agg ys)).run Tryz.prog w=(Op.eqFields 9999 xs ys (Tryz.prog.fieldsOf 58).toList).run Tryz.prog w:=fun xs ys w=>run_equalIn_struct w 9999 58 xs ys (by kernel_rfl) (by kernel_rfl)
  have e2:(Tryz.prog.fieldsOf 58).toList.map (fun f=>(f.name,f.type,f.offset))=[("Global", 3,0),("A", 3,1),("B", 3,2)]:=by kernel_rfl
  have e3:∀ (c d:Int) (w:World),(Op.equalIn 9999 3 (.int .i64 c) (.int .i64 d)).run Tryz.prog w=.ok (c == d) w:=fun c d w=>run_equalIn_int w 9998 3 .i64 .i64 c d u3
  have hd:(a=b)↔(a.g=b.g∧a.a=b.a∧a.b=b.b):=⟨fun e=>by rw [e];exact ⟨rfl,rfl,rfl⟩,fun ⟨x,y,z⟩=>by cases a;cases b;simp only at x y z;rw [x,y,z]⟩
  generalize hF:(Tryz.prog.fieldsOf 58).toList=fs at e1 e2
  match fs,e2 with
  | [f0,f1,f2],e2=>
    simp only [List.map_cons,List.map_nil,List.cons.injEq,Prod.mk.injEq,and_true] at e2
    obtain ⟨⟨n0,t0,o0⟩,⟨n1,t1,o1⟩,⟨n2,t2,o2⟩⟩:=e2
    have p0:∀ (a b c:Value) (w:World),(part 3 #[a,b,c] 0).run Tryz.prog w=.ok a w:=fun a b c w=>by simp [part,zcl ty3]
    have p1:∀ (a b c:Value) (w:World),(part 3 #[a,b,c] 1).run Tryz.prog w=.ok b w:=fun a b c w=>by simp [part,zcl ty3]
    have p2:∀ (a b c:Value) (w:World),(part 3 #[a,b,c] 2).run Tryz.prog w=.ok c w:=fun a b c w=>by simp [part,zcl ty3]
    simp only [bin,Sem.run_bind,e0,Result.andThen_ok,run_eql_struct,e1,Op.eqFields,n0,n1,n2,t0,t1,t2,o0,o1,o2]
    simp only [ne_eq,String.reduceEq,not_false_eq_true,if_true,Sem.run_bind,p0,p1,p2,Result.andThen_ok,e3,Sem.run_ite,Sem.run_pure,hd]
    by_cases x0:a.g=b.g<;>by_cases x1:a.a=b.a<;>by_cases x2:a.b=b.b<;>simp [x0,x1,x2]
set_option maxRecDepth 20000 in
theorem znr {w w0 w1:World} {K:Value→Prop} {x y:Operand} {v1 v2:Value} {a b:DRace} (h1:Is w0 v1 a) (h2:Is w1 v2 b) (k:K (.bool (decide (a≠b)))):RD Tryz.prog (bin .neq 58 x y v1 v2) w K:=by
  obtain ⟨rfl,_⟩:=zkl.1 h1
  obtain ⟨rfl,_⟩:=zkl.1 h2
  refine zaQ (fun w' _=>?_) k
  have hg:Tryz.prog.eqGuardType Tryz.prog.depth 58=false:=by kernel_rfl
  have e0:∀ xs ys w,(eqGuard .neq 58 x y (.agg xs) (.agg ys)).run Tryz.prog w=.ok () w:=fun xs ys w=>run_eqGuard_agg (P:=Tryz.prog) w .neq 58 x y xs ys hg
  have e1:∀ xs ys w,(Op.equalIn 10000 58 (.agg xs) (.agg ys)).run Tryz.prog w=(Op.eqFields 9999 xs ys (Tryz.prog.fieldsOf 58).toList).run Tryz.prog w:=fun xs ys w=>run_equalIn_struct w 9999 58 xs ys (by kernel_rfl) (by kernel_rfl)
  have e2:(Tryz.prog.fieldsOf 58).toList.map (fun f=>(f.name,f.type,f.offset))=[("Global", 3,0),("A", 3,1),("B", 3,2)]:=by kernel_rfl
  have e3:∀ (c d:Int) (w:World),(Op.equalIn 9999 3 (.int .i64 c) (.int .i64 d)).run Tryz.prog w=.ok (c == d) w:=fun c d w=>run_equalIn_int w 9998 3 .i64 .i64 c d u3
  have hd:(a=b)↔(a.g=b.g∧a.a=b.a∧a.b=b.b):=⟨fun e=>by rw [e];exact ⟨rfl,rfl,rfl⟩,fun ⟨x,y,z⟩=>by cases a;cases b;simp only at x y z;rw [x,y,z]⟩
  generalize hF:(Tryz.prog.fieldsOf 58).toList=fs at e1 e2
  match fs,e2 with
  | [f0,f1,f2],e2=>
    simp only [List.map_cons,List.map_nil,List.cons.injEq,Prod.mk.injEq,and_true] at e2
    obtain ⟨⟨n0,t0,o0⟩,⟨n1,t1,o1⟩,⟨n2,t2,o2⟩⟩:=e2
    have p0:∀ (a b c:Value) (w:World),(part 3 #[a,b,c] 0).run Tryz.prog w=.ok a w:=fun a b c w=>by simp [part,zcl ty3]
    have p1:∀ (a b c:Value) (w:World),(part 3 #[a,b,c] 1).run Tryz.prog w=.ok b w:=fun a b c w=>by simp [part,zcl ty3]
    have p2:∀ (a b c:Value) (w:World),(part 3 #[a,b,c] 2).run Tryz.prog w=.ok c w:=fun a b c w=>by simp [part,zcl ty3]
    simp only [bin,Sem.run_bind,e0,Result.andThen_ok,run_neq_struct,e1,Op.eqFields,n0,n1,n2,t0,t1,t2,o0,o1,o2]
    simp only [ne_eq,String.reduceEq,not_false_eq_true,if_true,Sem.run_bind,p0,p1,p2,Result.andThen_ok,e3,Sem.run_ite,Sem.run_pure,hd]
    by_cases x0:a.g=b.g<;>by_cases x1:a.a=b.a<;>by_cases x2:a.b=b.b<;>simp [x0,x1,x2,hd]
def F166 (a0:Value) (w:World) (R:VW):Prop:=
 rN 39 3 a0 w fun x7=>
 rB .lss 3 T0 U0 x7 (iV 2) w fun x8=>
 BR x8
 (R a0 w)
 (LOOPI [3] [(iV 1)] w fun u4 w next4=>
 rN 39 3 a0 w fun x12=>
 rC (u4 3) x12 w fun x13=>
 BR x13
 ((fun w=>rX 39 a0 (u4 3) w fun x18=>
 rL 58 x18 w fun x19=>
 rB .sub 3 T0 U0 (u4 3) (iV 1) w fun x22=>
 rX 39 a0 x22 w fun x23=>
 rL 58 x23 w fun x24=>
 rB .eql 58 T0 T0 x19 x24 w fun x25=>
 BR x25
 (rD (Instr.sliceAt 39 a0 (some (u4 3)) none none) w fun x28=>
 LOOPI [3,5] [(u4 3),(iV 1)] w fun u9 w next9=>
 rN 39 3 x28 w fun x31=>
 rC (u9 5) x31 w fun x32=>
 BR x32
 ((fun w=>rX 39 x28 (u9 5) w fun x37=>
 rL 58 x37 w fun x38=>
 rB .sub 3 T0 U0 (u9 5) (iV 1) w fun x41=>
 rX 39 x28 x41 w fun x42=>
 rL 58 x42 w fun x43=>
 rB .neq 58 T0 T0 x38 x43 w fun x44=>
 BR x44
 (rX 39 x28 (u9 5) w fun x49=>
 rL 58 x49 w fun x50=>
 rX 39 a0 (u9 3) w fun x51=>
 oS 58 x51 x50 w fun w=>
 rA (u9 3) (iV 1) w fun x53=>
 rA (u9 5) (iV 1) w fun x34=>
 next9 [x53,x34] w)
 (rA (u9 5) (iV 1) w fun x34=>
 next9 [(u9 3),x34] w)) (World.drew1 w))
 (rD (Instr.sliceAt 39 a0 (some (u9 3)) none none) w fun x56=>
 oP (Builtin.clear_ #[39] 0 [x56].toArray) w fun _ w=>
 rD (Instr.sliceAt 39 a0 none (some (u9 3)) none) w fun x59=>
 R x59 w))
 (rA (u4 3) (iV 1) w fun x15=>
 next4 [x15] w)) (World.drew1 w))
 (R a0 w))
def cfg166:Cfg:=⟨extL,[],[(4,1152921504606846012,[3]),(9,18014397972611112,[3,5])],[(6,[0,1,2,3,4,5,6,7,8,9],0),(11,[0,1,2,3,4,5,6,7,8,9],0)],[],[],[]⟩
theorem F166_call {a0:Value} {w:World} {R:VW} (h:F166 a0 w R):cL 166 [a0] w R:=co (g:=cfg166) Tryz.func166 (by kernel_rfl) (by kernel_rfl) (by kernel_rfl) h
def F162 (a0:Value) (w:World) (R:VW):Prop:=
 rB .eql 39 T0 U0 a0 (Value.slice none 0 0) w fun x4=>
 BR x4
 (R (Value.slice none 0 0) w)
 (oP (Instr.buildSlice 39 0 #[]) w fun x5 w=>
 oP (Builtin.append_ #[39,39] 39 [x5,a0].toArray) w fun x7 w=>
 R x7 w)
def cfg162:Cfg:=⟨extL,[],[],[],[],[],[]⟩
theorem F162_call {a0:Value} {w:World} {R:VW} (h:F162 a0 w R):cL 162 [a0] w R:=co (g:=cfg162) Tryz.func162 (by kernel_rfl) (by kernel_rfl) (by kernel_rfl) h
def F165 (a0:Value) (w:World) (R:VW):Prop:=
 rN 39 3 a0 w fun x5=>
 rN 39 3 a0 w fun x7=>
 rD (Instr.sliceAt 39 a0 none (some x5) (some x7)) w fun x8=>
 R x8 w
def cfg165:Cfg:=⟨extL,[],[],[],[],[],[]⟩
theorem F165_call {a0:Value} {w:World} {R:VW} (h:F165 a0 w R):cL 165 [a0] w R:=co (g:=cfg165) Tryz.func165 (by kernel_rfl) (by kernel_rfl) (by kernel_rfl) h
theorem zgi {P:Program} {w:World} {t e:TypeId} {b a n cap sz by_ k:Nat} {ag:Bool} {u:Value} {K:Value→Prop} (ht:P.underlying t=some (.slice e)) (he:tyI P e=some (sz,by_,ag)) (hu:u=.slice (some ⟨b,a,none⟩) n cap) (hk:k<n) (kk:K (.pointer (some ⟨b,a+k*sz,none⟩))) :
   RD P (Instr.indexAt t u (.int .i64 (k:Int))) w K:=by
 subst hu
 exact zaQ (fun w' _=>by rw [zbH ht he (by omega) (by omega)];simp) kk
instance:Flat DRace:=⟨fun h=>by obtain ⟨F1,F2,c1,c2,rfl,rfl,⟨rfl,_⟩,⟨F3,F4,c3,c4,rfl,rfl,⟨rfl,_⟩,⟨rfl,_⟩⟩⟩:=h;rfl⟩
section
variable {α:Type} [DecidableEq α]
def ddg (x:α):List α→List α
 | []=>[]
 | y :: l=>if y=x then ddg x l else y :: ddg y l
def ddp:List α→List α
 | []=>[]
 | x :: l=>x :: ddg x l
theorem zkS (y:α):∀ (l:List α) (x:α),ddg x (l++[y])=if y=l.getLastD x then ddg x l else ddg x l++[y]
 | [],x=>rfl
 | a :: l,x=>by
   rw [List.cons_append,ddg,ddg,List.getLastD_cons]
   by_cases h:a=x
   · rw [if_pos h,if_pos h,zkS y l x,h]
   rw [if_neg h,if_neg h,zkS y l a]
   split<;>rfl
theorem zkT {l:List α} {k:Nat} (h0:0<k) (hk:k<l.length):ddp (l.take (k+1))=if l[k]=l[k-1] then ddp (l.take k) else ddp (l.take k)++[l[k]]:=by
 rw [List.take_succ_eq_append_getElem hk]
 cases l with
 | nil=>simp at hk
 | cons x l=>
   obtain ⟨j,rfl⟩:∃ j,k=j+1:=⟨k-1,by omega⟩
   have hj:j<l.length:=by simpa using hk
   have e:(l.take j).getLastD x=(x :: l)[j+1-1]:=by
     rw [List.getLastD_eq_getLast?,List.getLast?_eq_getElem?,List.length_take,Nat.min_eq_left (by omega)]
     cases j with
     | zero=>simp
     | succ j=>simp [List.getElem?_take];rw [List.getElem?_eq_getElem (by omega)];rfl
   rw [List.take_succ_cons,List.cons_append,ddp,ddp,zkS,e]
   split<;>rfl
end
theorem zpu {w:World} {lo hi:Nat} {v:Value} {l:List DRace} (h:OwnI lo hi w v l) (hn:l.length≤1073741824) :
   CALL Tryz.prog 166 [v] w fun r w'=>ChgI lo hi w w'∧OwnI lo hi w' r (ddp l):=by
 obtain ⟨F,hM,hF⟩:=h
 refine F166_call ?_
 unfold F166
 refine zae u39 hM.is ?_
 refine zai ?_
 refine br (fun hlt=>?_) (fun hge=>?_)
 · refine ⟨ChgI.refl w,F,?_,hF⟩
   have:ddp l=l:=by
     match l,hlt with
     | [],_=>rfl
     | [x],_=>rfl
     | _ :: _ :: _,h=>simp only [List.length_cons] at h;omega
   rw [this];exact hM
 have hne:l≠[]:=fun e=>by rw [e] at hge;simp at hge
 obtain ⟨b,o,cap,xs,rfl,rfl,h1,h2,hcc,hrr,hww⟩:=zeC hM hne
 have hln:=hM.is
 refine zaB l.length (fun k us w'=>us=[.int .i64 (k:Int)]∧Ext w w'∧1≤k∧k≤l.length∧ddp (l.take k)=l.take k) 1 (by omega) ⟨rfl,Ext.refl w,Nat.le_refl _,by omega,?_⟩ ?_
 · cases l with
   | nil=>exact absurd rfl hne
   | cons x l=>rfl
 rintro k0 mk u w1 hkm ⟨hu,hx1,hk1,hkl,hd0⟩
 simp only [List.map_cons,List.map_nil,List.cons.injEq,and_true] at hu
 rw [hu]
 refine zae u39 hln ?_
 refine zai ?_
 refine br (fun hlt=>?_) (fun hge1=>?_)
 case refine_2=>
   have:k0=l.length:=by omega
   subst this
   rw [List.take_length] at hd0
   rw [hd0]
   exact ⟨hx1.toI,[b],hM.ext hx1,hF⟩
 have hk:k0<l.length:=by omega
 have hx2:=zak w1
 have hx12:=hx1.trans hx2
 generalize World.drew1 w1=w2 at *
 refine zad u39 zjn hln hk fun b1 o1 hA1=>?_
 refine zab zjn hA1 hx12 fun v19 h19=>?_
 refine za3 (by unfold I64;omega) ?_
 rw [show ((k0:Int)-1)=((k0-1:Nat):Int) by omega]
 refine zad (i:=k0-1) u39 zjn hln (by omega) fun b2 o2 hA2=>?_
 refine zab zjn hA2 hx12 fun v24 h24=>?_
 refine znq h19 h24 ?_
 refine br (fun heq=>?_) (fun hneq=>?_)
 case refine_2=>
   refine zag (by omega) ?_
   refine ⟨mk-1,by omega,k0+1,by omega,rfl,hx12,by omega,by omega,?_⟩
   rw [zkT (by omega) hk,if_neg hneq,hd0,←List.take_succ_eq_append_getElem hk]
 refine zoD (α:=DRace) u39 zjn (by omega) h1 ?_
 rw [if_neg (by omega)]
 have e3:Rep.size DRace=3:=rfl
 rw [e3]
 refine zaB (l.length-k0) (fun k2 us w'=>∃ (k:Nat) (cur:List DRace),us=[.int .i64 (k:Int),.int .i64 (k2:Int)]∧Chg [b] w w'∧Mine [b] w' (.slice (some ⟨b,o,none⟩) l.length cap) cur∧cur.length=l.length∧1≤k2∧k2≤l.length-k0∧k0≤k∧k+1≤k0+k2 ∧
     cur.take k=ddp (l.take (k0+k2))∧∀ j,k≤j→cur[j]?=l[j]?) 1 (by omega)
   ⟨k0,l,rfl,hx12.chg _,hM.ext hx12,rfl,Nat.le_refl _,by omega,Nat.le_refl _,by omega,by rw [zkT (by omega) hk,if_pos heq,hd0],fun _ _=>rfl⟩ ?_
 rintro k2 mk2 u9 w3 hkm2 ⟨k,cur,hu9,hc3,hm3,hl3,hk21,hk22,hk0,hkk,htk,hrest⟩
 obtain ⟨hu91,hu92⟩:=ze4 hu9
 rw [hu91,hu92]
 refine zaQ (v:=.int .i64 ((l.length-k0:Nat):Int)) (fun w' _=>by simp [Builtin.len_,run_underlying u39];rfl) ?_
 refine zai ?_
 refine br (fun hlt2=>?_) (fun hge2=>?_)
 · have hp:k0+k2<l.length:=by omega
   have hx4:=zak w3
   have hm4:=hm3.ext hx4
   have hc4:=hc3.trans (hx4.chg _)
   generalize World.drew1 w3=w4 at *
   have hcne:cur≠[]:=fun e=>by rw [e] at hl3;simp at hl3;omega
   obtain ⟨b',o',cap',xs',hv',hb',_,_,hcc',hrr',hww'⟩:=zeC hm4 hcne
   simp only [Value.slice.injEq,Option.some.injEq,Addr.mk.injEq] at hv'
   obtain ⟨⟨rfl,rfl,_⟩,_,rfl⟩:=hv'
   have hat:∀ i (hi:i<cur.length),At w4 b (o+i*3) cur[i]:=fun i hi=>hcc'.at hrr' hi
   have hget:∀ i (hi:i<l.length) (hki:k≤i),cur[i]'(by omega)=l[i]:=fun i hi hki=>by
     have:=hrest i hki
     rw [List.getElem?_eq_getElem (by omega),List.getElem?_eq_getElem hi] at this
     exact Option.some.inj this
   have hA3:=hat (k0+k2) (by omega)
   have hA4:=hat (k0+k2-1) (by omega)
   rw [hget _ hp (by omega)] at hA3
   rw [hget _ (by omega) (by omega)] at hA4
   refine zgi (k:=k2) u39 zjn rfl (by omega) ?_
   rw [show o+k0*3+k2*3=o+(k0+k2)*3 by omega]
   refine zab zjn hA3 (Ext.refl _) fun v38 h38=>?_
   refine za3 (by unfold I64;omega) ?_
   rw [show ((k2:Int)-1)=((k2-1:Nat):Int) by omega]
   refine zgi (k:=k2-1) u39 zjn rfl (by omega) ?_
   rw [show o+k0*3+(k2-1)*3=o+(k0+k2-1)*3 by omega]
   refine zab zjn hA4 (Ext.refl _) fun v43 h43=>?_
   refine znr h38 h43 ?_
   have hdt:=zkT (l:=l) (k:=k0+k2) (by omega) hp
   refine br (fun hne2=>?_) (fun heq2=>?_)
   · refine zgi (k:=k2) u39 zjn rfl (by omega) ?_
     rw [show o+k0*3+k2*3=o+(k0+k2)*3 by omega]
     refine zab zjn hA3 (Ext.refl _) fun v50 h50=>?_
     obtain ⟨F5,cs5,hr5,hv5⟩:=h50
     have hF5:=Flat.flat hr5
     subst hF5
     refine zn0 (α:=DRace) u39 zjn hm4 (k:=k) (by omega) ⟨cs5,hr5,hv5⟩ fun w5 hc5 hm5=>?_
     refine zag (by omega) ?_
     refine zag (by omega) ?_
     refine ⟨mk2-1,by omega,k2+1,by omega,k+1,_,rfl,hc4.trans hc5,hm5,by simp [hl3],by omega,by omega,by omega,by omega,?_,fun j hj=>?_⟩
     · rw [show k0+(k2+1)=k0+k2+1 by omega,hdt,if_neg hne2,←htk]
       rw [List.take_succ_eq_append_getElem (by simp;omega),List.getElem_set_self,List.take_set_of_le (Nat.le_refl _)]
     rw [List.getElem?_set_ne (by omega)]
     exact hrest j (by omega)
   have heq2:=Decidable.not_not.1 heq2
   refine zag (by omega) ?_
   refine ⟨mk2-1,by omega,k2+1,by omega,k,cur,rfl,hc4,hm4,hl3,by omega,by omega,hk0,by omega,?_,hrest⟩
   rw [show k0+(k2+1)=k0+k2+1 by omega,hdt,if_pos heq2,htk]
 have hk2:k0+k2=l.length:=by omega
 rw [hk2,List.take_length] at htk
 refine zoD (α:=DRace) u39 zjn (by omega) h1 ?_
 refine zq1 (α:=DRace) u39 zwn hm3 hl3 (by omega) (by omega) h1 fun w5 hc5 hm5=>?_
 refine zue (α:=DRace) u39 zjn (by omega) h1 ?_
 rw [htk] at hm5
 exact ⟨(hc3.trans hc5).toI hF,[b],hm5,hF⟩
theorem zq2 {w W:World} {v:Value} {l:List DRace} (h:Is W v l) (e:Ext W w) (hn:l.length≤1073741824) :
   CALL Tryz.prog 162 [v] w fun r w'=>Ext w w'∧Own w.heap.size w' r l:=by
 refine F162_call ?_
 unfold F162
 obtain ⟨a,cap,Fi,xs,rfl,h1,h2,h3,h4⟩:=zcc h
 refine zed u39 ?_
 refine zb4 (fun hnil=>?_) (fun _=>?_)
 · have:l=[]:=by
     rcases h4 with h4 | ⟨b,o,rfl,_⟩
     · exact h4
     simp at hnil
   subst this
   exact ⟨Ext.refl w,zhc rfl⟩
 refine zbW (α:=DRace) u39 zjn fun a5 w1 hx1 r5=>?_
 have hs1:=hx1.size
 refine zhf (α:=DRace) u39 zjn zwm r5 (Nat.le_refl _) h (e.trans hx1) (by rw [zam];simp;omega) (by simp;omega) fun v7 w2 hc2 r7=>?_
 rw [List.nil_append] at r7
 exact ⟨Ext.chgI hx1 hc2 (by omega),r7.own.own.mono (by omega)⟩
theorem zsF {w:World} {lo hi:Nat} {v:Value} {l:List DRace} (h:OwnI lo hi w v l) :
   CALL Tryz.prog 165 [v] w fun r w'=>Ext w w'∧OwnI lo hi w' r l:=by
 obtain ⟨F,hM,hF⟩:=h
 refine F165_call ?_
 unfold F165
 refine zae u39 hM.is ?_
 refine zae u39 hM.is ?_
 by_cases hne:l=[]
 · subst hne
   obtain ⟨a,cap,Fi,xs,rfl,h1,h2,h3,h4⟩:=zcc hM.is
   refine zoE (α:=DRace) (k:=0) (j:=0) u39 zjn (Nat.le_refl _) h1 fun a' _=>⟨Ext.refl w,zb6 a'⟩
 obtain ⟨b,o,cap,xs,rfl,rfl,h1,h2,hc,hr,hw⟩:=zeC hM hne
 refine zoE (α:=DRace) (k:=l.length) (j:=l.length) u39 zjn (Nat.le_refl _) h1 fun a' ha=>?_
 rw [ha (fun e=>hne (List.eq_nil_of_length_eq_zero e))]
 exact ⟨Ext.refl w,[b],ze0 (Nat.le_refl _) (by omega) hc hr hw,hF⟩
end Go.Proofs.YtcnglfeoglgebaaGreat
