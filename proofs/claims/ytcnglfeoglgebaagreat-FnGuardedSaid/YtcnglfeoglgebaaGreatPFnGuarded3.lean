/-
  Parts of the proof, put together by program.
-/
import Derived.Test.YtcnglfeoglgebaaGreatPFnGuarded2
set_option linter.unusedVariables false
set_option linter.unusedSimpArgs false
set_option linter.unusedSectionVars false
namespace Go.Proofs.YtcnglfeoglgebaaGreat
open Go Go.Sh Go.Proofs
open Rep (rep)
def F102 (a0 a1 a2:Value) (w:World) (R:VW):Prop:=
 oP (Instr.buildSlice 33 1 #[(0,a2)]) w fun x11 w=>
 LOOPI [6] [x11] w fun u1 w next1=>
 rN 33 3 (u1 6) w fun x13=>
 rB .gtr 3 T0 U0 x13 (iV 0) w fun x14=>
 BR x14
 (rN 33 3 (u1 6) w fun x17=>
 rB .sub 3 T0 U0 x17 (iV 1) w fun x18=>
 rX 33 (u1 6) x18 w fun x19=>
 rL 3 x19 w fun x20=>
 rN 33 3 (u1 6) w fun x23=>
 rB .sub 3 T0 U0 x23 (iV 1) w fun x24=>
 rD (Instr.sliceAt 33 (u1 6) none (some x24) none) w fun x25=>
 cL 153 [a0,x20] w fun x28 w=>
 rN 33 3 x28 w fun x29=>
 LOOPI [6,30] [x25,(iV 0)] w fun u5 w next5=>
 rC (u5 30) x29 w fun x31=>
 BR x31
 (rX 33 x28 (u5 30) w fun x32=>
 rL 3 x32 w fun x33=>
 rX 90 a1 x33 w fun x36=>
 rL 4 x36 w fun x37=>
 rD (Op.unary .not x37) w fun x38=>
 BR x38
 (rX 90 a1 x33 w fun x41=>
 oS 4 x41 (Value.bool true) w fun w=>
 oP (Instr.buildSlice 33 1 #[(0,x33)]) w fun x44 w=>
 oP (Builtin.append_ #[33,33] 33 [(u5 6),x44].toArray) w fun x45 w=>
 rA (u5 30) (iV 1) w fun x46=>
 next5 [x45,x46] w)
 (rA (u5 30) (iV 1) w fun x46=>
 next5 [(u5 6),x46] w))
 (next1 [(u5 6)] w))
 (R (Value.tuple #[]) w)
def cfg102:Cfg:=⟨extL,[],[(1,140737488351936,[6]),(5,140736414614080,[6,30])],[],[],[],[]⟩
theorem F102_call {a0 a1 a2:Value} {w:World} {R:VW} (h:F102 a0 a1 a2 w R):cL 102 [a0,a1,a2] w R:=co (g:=cfg102) Tryz.func102 (by kernel_rfl) (by kernel_rfl) (by kernel_rfl) h
section
variable {P:Program} {w w':World}
theorem ze4 {α:Type} [Rep α] [Flat α] {F:List Nat} {v:Value} {l:List α} (hm:Mine F w v l) (hl:l≠[]):∃ b o cap,v=.slice (some ⟨b,o,none⟩) l.length cap∧F=[b]:=by
 obtain ⟨⟨cs,⟨a,cap,Fi,xs,rfl,h1,h2,hc,h4⟩,rfl⟩,hn,hw⟩:=hm
 rcases h4 with ⟨h4,_⟩ | ⟨b,o,rfl,rfl,hr,hb⟩
 · exact absurd h4 hl
 have hFi:=Cells.flat (xs:=xs) hc
 subst hFi
 exact ⟨b,o,cap,rfl,rfl⟩
theorem zbI {α:Type} [Rep α] [Flat α] (h1:Rep.size α=1) {t by_ m n i:Nat} {l:List α} {y:α} {u:Value} {K:World→Prop} (ht:tyI P t=some (1,by_,Rep.agg α)) (hm:Mine [m] w (.slice (some ⟨m,0,none⟩) n n) l) (hl:l.length=n) (hi:i<n) (hu:Mine [] w u y)
   (k:∀ w',Chg [m] w w'→Mine [m] w' (.slice (some ⟨m,0,none⟩) n n) (l.set i y)→K w'):OPU P (Instr.storeAt t (.pointer (some ⟨m,i*1,none⟩)) u) w K:=by
 obtain ⟨b,a,cap,G,hv,hL⟩:=zrj hm (k:=i) (by omega)
 simp only [Value.slice.injEq,Option.some.injEq,Addr.mk.injEq,and_true] at hv
 obtain ⟨⟨rfl,rfl⟩,_⟩:=hv
 rw [h1,Nat.zero_add] at hL
 refine ziW (y':=y) (by rw [h1];exact ht) hL hu fun w8 F' hc8 hm8 hF8=>?_
 have hF9:F'=[m]:=by
   obtain ⟨b,o,cap,hv,hF2⟩:=ze4 hm8 (by intro e;have h:=congrArg List.length e;rw [List.length_set,hl] at h;simp only [List.length_nil] at h;omega)
   subst hF2
   have:=hF8 b (by simp)
   simpa using this
 subst hF9
 exact k w8 hc8 hm8
theorem zcJ {α:Type} [Rep α] {t e by_ m n i:Nat} {K:Value→Prop} (h1:Rep.size α=1) (ht:P.underlying t=some (.slice e)) (he:tyI P e=some (1,by_,Rep.agg α)) (hi:i<n) (kk:K (.pointer (some ⟨m,i*1,none⟩))) :
   RD P (Instr.indexAt t (.slice (some ⟨m,0,none⟩) n n) (.int .i64 (i:Int))) w K:=zgg ht he hi kk
end
structure WI (w1 w:World) (m n lo hi:Nat) (tv:Value) (L:List Nat) (ms:List Bool):Prop where
 chg:ChgI m (m+1) w1 w
 row:RowI lo hi 3 w tv (zaZ L)
 mks:Mine [m] w (.slice (some ⟨m,0,none⟩) n n) ms
 l0:w1.heap.size≤lo
 m1:m<lo
 h2:lo≤hi
 h3:hi≤w.heap.size
section
variable {w1 w w':World} {m n lo hi:Nat} {tv:Value} {L:List Nat} {ms:List Bool}
theorem WI.step (h:WI w1 w m n lo hi tv L ms) (hx:Ext w w'):WI w1 w' m n lo hi tv L ms:=
 ⟨h.chg.trans hx.toI,h.row.ext hx,h.mks.ext hx,h.l0,h.m1,h.h2,Nat.le_trans h.h3 hx.size⟩
theorem WI.push {tv':Value} {x:Nat} {lo' hi':Nat} (h:WI w1 w m n lo hi tv L ms) (hc:ChgI lo hi w w') (hr:RowI lo' hi' 3 w' tv' (zaZ L++[(x:Int)])) (hd:lo'=lo∧hi'=hi∨lo'=w.heap.size∧hi'=w'.heap.size) :
   WI w1 w' m n lo' hi' tv' (L++[x]) ms:=by
 have hs:=hc.size
 have h1:=h.l0
 have h2:=h.h2
 have h3:=h.h3
 have h4:=h.chg.size
 have h5:=h.m1
 have hml:=h.mks.lt m (by simp)
 refine ⟨⟨hc.os.trans h.chg.os,hc.tape.trans h.chg.tape,hc.output.trans h.chg.output,Nat.le_trans h4 hs,fun b hb ho=>(hc.block b (Nat.lt_of_lt_of_le hb h4) (by omega)).trans (h.chg.block b hb ho)⟩,by rw [zcI];exact hr,h.mks.keep fun b hb=>?_,by omega,by omega,by omega,by omega⟩
 simp only [List.mem_cons,List.not_mem_nil,or_false] at hb
 subst hb
 exact hc.block b hml (by omega)
theorem WI.mark {ms':List Bool} (h:WI w1 w m n lo hi tv L ms) (hc:Chg [m] w w') (hm:Mine [m] w' (.slice (some ⟨m,0,none⟩) n n) ms'):WI w1 w' m n lo hi tv L ms':=by
 have hc':ChgI m (m+1) w w':=hc.toI fun b hb=>by simp only [List.mem_cons,List.not_mem_nil,or_false] at hb;omega
 have h5:=h.m1
 exact ⟨h.chg.trans hc',h.row.chg hc' (by omega),hm,h.l0,h5,h.h2,Nat.le_trans h.h3 hc'.size⟩
end
theorem zrY:zbt Tryz.prog 4=some [.bool false]:=by kernel_rfl
theorem ze5 {w:World} {x:Int} (lo hi:Nat) (h:I64 x):OwnI lo hi w (.int .i64 x) x:=⟨[],zcR h,by simp⟩
theorem zed {w:World} {b:Bool}:Mine [] w (.bool b) b:=⟨⟨[.bool b],⟨rfl,rfl⟩,rfl⟩,List.nodup_nil,Wr.nil w⟩
section
variable {P:Program} {w:World} {α:Type} [Rep α] [Flat α] {lo hi e:Nat} {v:Value} {l:List α}
theorem zqm {t e b o n cap k by_:Nat} {K:Value→Prop} (ht:P.underlying t=some (.slice e)) (he:tyI P e=some (Rep.size α,by_,Rep.agg α)) (hk:k≤n) (hn:n≤cap) (kk:K (.slice (some ⟨b,o,none⟩) k cap)) :
   RD P (Instr.sliceAt t (.slice (some ⟨b,o,none⟩) n cap) none (some (.int .i64 (k:Int))) none) w K:=by
 refine zaF (fun w' _=>?_) kk
 have hbd:(Instr.sliceBounds true n cap none (some (.int .i64 (k:Int))) none).run P w'=.ok (0,k,cap) w':=by
   have h5:(k:Int)≤(cap:Int):=by omega
   simp [Instr.sliceBounds,Instr.sliceBound,asIntOf,h5]
   intro h6
   omega
 simp only [Instr.sliceAt,Instr.slice,Sem.run_bind,run_underlying ht,Result.andThen_ok,hbd,zar he]
 simp [Addr.add_mid]
theorem zoM (h:RowI lo hi e w v l) (hl:l≠[]) {k:Nat} (hk:k≤l.length):∃ g cap,v=.slice (some ⟨g,0,none⟩) l.length cap∧l.length≤cap∧RowI lo hi e w (.slice (some ⟨g,0,none⟩) k cap) (l.take k):=by
 rcases h with ⟨a,_,h⟩ | ⟨F,⟨xs,Fi,⟨hlen,ho⟩,hc,hF,hw⟩,hn,hb⟩
 · exact absurd h hl
 rcases ho with ⟨_,h0⟩ | ⟨g,cap,cur,rfl,_,hg,h1,h2,h3,h4⟩
 · exact absurd (List.eq_nil_of_length_eq_zero h0) hl
 refine ⟨g,cap,rfl,h1,.inr ⟨F,⟨xs.take (k*Rep.size α),[],⟨?_,.inr ⟨g,cap,cur,?_,Nat.zero_le _,hg,by rw [List.length_take];omega,h2,h3,?_⟩⟩,?_,?_,Wr.nil w⟩,hn,hb⟩⟩
 · rw [List.length_take,List.length_take,hlen,Nat.min_eq_left hk]
   exact Nat.min_eq_left (Nat.mul_le_mul_right _ hk)
 · rw [List.length_take,Nat.min_eq_left hk]
 · rw [List.length_take,Nat.min_eq_left hk,←h4,List.take_take,Nat.min_eq_left (Nat.mul_le_mul_right _ hk)]
 · have e1:l=l.take k++l.drop k:=by simp
   have hFi:=Cells.flat (xs:=xs) hc
   subst hFi
   rw [e1] at hc
   obtain ⟨F1,F2,x1,x2,hF12,hx12,c1,c2⟩:=Cells.split hc
   have hF1:=Cells.flat (xs:=x1) c1
   subst hF1
   have hl1:=Cells.len c1
   rw [List.length_take,Nat.min_eq_left hk] at hl1
   rw [hx12,List.take_left' hl1]
   exact c1
 have hFi:=Cells.flat (xs:=xs) hc
 subst hFi
 rw [hF];rfl
end
def KAt (W0 w:World) (b:Nat) (c:DCode):Prop:=∃ F cs,Rep.rep F W0 cs c∧w.rangeAt b 0 cs∧b<w.heap.size
theorem KAt.at {W0 w:World} {b:Nat} {c:DCode} (h:KAt W0 w b c) (hx:Ext W0 w):At w b 0 c:=by
 obtain ⟨F,cs,hr,hc,_⟩:=h
 exact ⟨F,cs,zaP hr hx,hc⟩
theorem KAt.keep {W0 w w':World} {b:Nat} {c:DCode} (h:KAt W0 w b c) (hb:w'.heap[b]?=w.heap[b]?) (hs:w.heap.size≤w'.heap.size):KAt W0 w' b c:=by
 obtain ⟨F,cs,hr,hc,hl⟩:=h
 exact ⟨F,cs,hr,zaS hc hb,by omega⟩
theorem KAt.lt {W0 w:World} {b:Nat} {c:DCode} (h:KAt W0 w b c):b<w.heap.size:=by obtain ⟨_,_,_,_,h⟩:=h;exact h
theorem zi1 {w W0:World} {b m n a:Nat} {c:DCode} {ms0:List Bool} (hk:KAt W0 w b c) (e0:Ext W0 w) (hc:CodeR c) (hn:c.ins.length=n) (ha:a<n) (hM:Mine [m] w (.slice (some ⟨m,0,none⟩) n n) ms0) (hl:ms0.length=n) (h0:W0.heap.size≤m) (hb:b≠m)
   (hclo:∀ i,mkd ms0 i→i≠a→∀ j∈zax c i,mkd ms0 j) :
   CALL Tryz.prog 102 [.pointer (some ⟨b,0,none⟩),.slice (some ⟨m,0,none⟩) n n,.int .i64 (a:Int)] w fun r w'=>r=.tuple #[]∧ChgI m (m+1) w w'∧Mine [m] w' (.slice (some ⟨m,0,none⟩) n n) (ze3 n fun i=>mkd ms0 i∨RP (zax c) a i):=by
 refine F102_call ?_
 unfold F102
 have hil:=hc.f.ins
 have hnl:=fun {i j:Nat}=>zb5 hc (i:=i) (j:=j)
 rw [hn] at hnl hil
 refine zeb (x:=(a:Int)) u33 ty3 z3 (by decide) (zcR (by unfold I64;omega)) fun v11 w1 hx1 hr1=>?_
 have hW1:WI w w1 m n w.heap.size w1.heap.size v11 [a] ms0:=⟨hx1.toI,hr1,hM.ext hx1,Nat.le_refl _,hM.lt m (by simp),hx1.size,Nat.le_refl _⟩
 have hKA:∀ {w':World} {lo hi tv L ms},WI w w' m n lo hi tv L ms→At w' b 0 c:=fun h=>(hk.keep (h.chg.block b hk.lt (by omega)) h.chg.size).at (e0.chgI h.chg h0)
 refine zaE (1+n) (fun h us w'=>∃ (tv:Value) (lo hi:Nat) (L:List Nat) (ms:List Bool),us=[tv]∧WI w w' m n lo hi tv L ms∧SInv (zax c) n a ms0 ms L h) 0 (Nat.zero_le _) ⟨v11,_,_,[a],_,rfl,hW1,SInv.start hl ha⟩ ?_
 rintro h mk u w4 hkm ⟨tv,lo,hi,L,ms,hu,hW4,hS4⟩
 simp only [List.map_cons,List.map_nil,List.cons.injEq,and_true] at hu
 rw [hu]
 have hb4:=hS4.bound
 refine zaf u33 hW4.row.is ?_
 rw [zae]
 refine zdP ?_
 refine br (fun hlt=>?_) (fun hge=>?_)
 case refine_2=>
   have hL0:L=[]:=List.eq_nil_of_length_eq_zero (by omega)
   rw [hL0] at hS4
   have hfin:=hS4.fin hclo
   have hms:ms=ze3 n (fun i=>mkd ms0 i∨RP (zax c) a i):=zec hS4.len fun i hi=>hfin i
   rw [←hms]
   exact ⟨rfl,hW4.chg,hW4.mks⟩
 obtain ⟨z,hz⟩:∃ z,L.length=z+1:=⟨L.length-1,by omega⟩
 have hzl:z<L.length:=by omega
 have hne:zaZ L≠[]:=fun e=>by have:=congrArg List.length e;rw [zae,hz] at this;cases this
 refine zaf u33 hW4.row.is ?_
 rw [zae]
 refine zck (by unfold I64;omega) ?_
 have ez:(L.length:Int)-1=(z:Int):=by omega
 rw [ez]
 refine zad u33 ty3 (i:=z) hW4.row.is (by rw [zae];exact hzl) fun b1 o1 hA1=>?_
 rw [zaR] at hA1
 refine zac ty3 hA1 (Ext.refl _) fun _=>?_
 generalize hx:L[z]=x at *
 refine zaf u33 hW4.row.is ?_
 rw [zae]
 refine zck (by unfold I64;omega) ?_
 rw [ez]
 obtain ⟨g,cap,hv4,hcap,hr4⟩:=zoM hW4.row hne (k:=z) (by rw [zae];omega)
 rw [zae] at hv4 hcap
 rw [hv4]
 refine zqm (α:=Int) u33 ty3 (by omega) hcap ?_
 have hLz:L=L.take z++[x]:=by
   have:=List.take_succ_eq_append_getElem hzl
   rw [←hz,List.take_length,hx] at this
   exact this
 rw [←zm7] at hr4
 have hW5:WI w w4 m n lo hi (.slice (some ⟨g,0,none⟩) z cap) (L.take z) ms:=⟨hW4.chg,hr4,hW4.mks,hW4.l0,hW4.m1,hW4.h2,hW4.h3⟩
 have hxn:x<n:=(hS4.tdo x (by rw [hLz];simp)).2
 refine (zgB (hKA hW5) (Ext.refl _) hc (by rw [hn];exact hxn)).mono ?_
 rintro v27 w6 ⟨hx6,ho6⟩
 have hW6:=hW5.step hx6
 have hI6:=hW5.h3
 have hm6:=hW5.mks.lt m (by simp)
 have hLm:∀ i,i∈L↔i∈L.take z∨i=x:=fun i=>by
   have:i∈L↔i∈L.take z++[x]:=by rw [←hLz]
   rw [this];simp
 have hS6:SIn2 (zax c) n a ms0 ms (L.take z) h x 0:=hS4.pop hLm (by rw [List.length_take];omega)
 have hl2:=zgA c x
 refine zaf u33 ho6.is ?_
 rw [zae]
 refine zaE (zax c x).length (fun q us w'=>∃ (tv:Value) (lo hi:Nat) (L:List Nat) (ms:List Bool),us=[tv,.int .i64 (q:Int)]∧q≤(zax c x).length∧WI w w' m n lo hi tv L ms∧SIn2 (zax c) n a ms0 ms L h x q∧OwnI w4.heap.size w6.heap.size w' v27 (zaZ (zax c x))∧(hi≤w4.heap.size∨w6.heap.size≤lo)∧w6.heap.size≤w'.heap.size) 0 (Nat.zero_le _) ⟨_,lo,hi,_,ms,rfl,Nat.zero_le _,hW6,hS6,ho6.toI,.inl hI6,Nat.le_refl _⟩ ?_
 rintro q mk8 u8 w7 hkm8 ⟨tv7,lo7,hi7,L7,ms7,hu8,hql,hW7,hS7,ho7,hd7,hz7⟩
 obtain ⟨hu81,hu82⟩:=zey hu8
 rw [hu81,hu82]
 refine zal ?_
 refine br (fun hlt8=>?_) (fun hge8=>?_)
 case refine_2=>
   exact ⟨mk-1,by omega,h+1,by omega,tv7,lo7,hi7,L7,ms7,rfl,hW7,hS7.done (by omega)⟩
 have hq:q<(zax c x).length:=by omega
 have hy:=hnl hxn (List.getElem_mem hq)
 refine zad u33 ty3 (i:=q) ho7.is (by rw [zae];exact hq) fun b3 o3 hA3=>?_
 rw [zaR] at hA3
 refine zac ty3 hA3 (Ext.refl _) fun _=>?_
 have hlen7:=hS7.len
 refine zad u90 ty4 hW7.mks.is (by rw [hlen7];exact hy.1) fun b2 o2 hA2=>?_
 refine zb1 ty4 hA2 (Ext.refl _) ?_
 refine zaO ?_
 have hmk7:=zcg (ms:=ms7) (i:=(zax c x)[q]) (by rw [hlen7];exact hy.1)
 refine zbQ (fun hf=>?_) (fun hf=>?_)
 · have hnm:¬mkd ms7 (zax c x)[q]:=by rw [hmk7];simpa using hf
   refine zcJ (α:=Bool) rfl u90 ty4 hy.1 ?_
   refine zbI (α:=Bool) rfl ty4 hW7.mks hlen7 hy.1 zed fun w8 hc8 hm8=>?_
   have hW8:=hW7.mark hc8 hm8
   have hc8':ChgI m (m+1) w7 w8:=hc8.toI fun b hb=>by simp only [List.mem_cons,List.not_mem_nil,or_false] at hb;omega
   have ho8:=ho7.chg hc8' (by omega)
   have hS8:=hS7.push hq hy.1 hnm
   generalize (zax c x)[q]=y at *
   have hLb:L7.length≤2+n:=by
     have h1:=hS7.cnt
     have h2:=zh4 ms7
     omega
   refine zgC (x:=(y:Int)) u33 ty3 z3 zc3 (by decide) hW8.row (ze5 0 0 (by unfold I64;omega)) (by rw [zak,zae];omega) (by rw [zae];omega) fun v54 w9 lo9 hi9 hc9 hr9 hd9=>?_
   have hW9:=hW8.push hc9 hr9 hd9
   have hsz8:=hc8'.size
   refine zag (by omega) ?_
   exact ⟨mk8-1,by omega,q+1,by omega,v54,lo9,hi9,L7++[y],_,rfl,by omega,hW9,hS8,ho8.chg hc9 (by omega),by omega,by have:=hc9.size;omega⟩
 have hnm:mkd ms7 (zax c x)[q]:=by rw [hmk7];simpa using hf
 refine zag (by omega) ?_
 exact ⟨mk8-1,by omega,q+1,by omega,tv7,lo7,hi7,L7,ms7,rfl,by omega,hW7,hS7.skip hq hnm,ho7,hd7,hz7⟩
def zqn (ms:List Bool) (n:Nat):List Nat:=(List.range n).filter fun i=>ms.getD i false
theorem zi2 (ms:List Bool) (n:Nat):zqn ms (n+1)=zqn ms n++(if ms.getD n false then [n] else []):=by
 simp only [zqn,List.range_succ,List.filter_append,List.filter_cons,List.filter_nil]
theorem zoN (ms:List Bool) (n:Nat):(zqn ms n).length≤n:=Nat.le_trans (List.length_filter_le _ _) (by simp)
theorem zm9 (n:Nat) (p:Nat→Prop):zqn (ze3 n p) n=zbh n p:=by
 refine List.filter_congr fun i hi=>?_
 have hi':=List.mem_range.1 hi
 have:=zdw (n:=n) (p:=p) (i:=i)
 unfold mkd at this
 by_cases h:p i
 · rw [this.2 ⟨hi',h⟩];simp [h]
 have h2:(ze3 n p).getD i false≠true:=fun e=>h (this.1 e).2
 simp only [h,decide_false]
 cases hh:(ze3 n p).getD i false
 · rfl
 exact absurd hh h2
def zay (c:DCode) (p:Nat) (i:Nat):Prop:=i=(en c p).toNat∨RP (zax c) (en c p).toNat i
theorem zh6 {w:World} {n:Nat} {K:Value→World→Prop} (h0:0<n) (hn:n≤1000000)
   (k:∀ w',Ext w w'→Mine [w.heap.size] w' (.slice (some ⟨w.heap.size,0,none⟩) n n) (List.replicate n false)→K (.slice (some ⟨w.heap.size,0,none⟩) n n) w'):OP Tryz.prog (Instr.makeSlice 90 (.int .i64 (n:Int)) (.int .i64 (n:Int))) w K:=
 zk3 (α:=Bool) u90 ty4 rfl rfl zrY (by omega) (by omega) fun w2 hx2 hr2=>by
   refine k w2 hx2 ?_
   obtain ⟨F,hM,hF⟩:=hr2.own
   obtain ⟨b,o,cap,hv,hF2⟩:=ze4 hM (by intro e;have:=congrArg List.length e;simp at this;omega)
   simp only [Value.slice.injEq,Option.some.injEq,Addr.mk.injEq,List.cons.injEq,and_true] at hv
   obtain ⟨⟨hb,ho⟩,_⟩:=hv
   rw [←hb] at hF2
   rw [hF2] at hM
   exact hM
theorem zg9 (n:Nat) {p:Nat→Prop} (h:∀ i,¬p i):List.replicate n false=ze3 n p:=
 zec (by simp) fun i _=>⟨fun h=>absurd h zcq,fun hp=>absurd hp (h i)⟩
def zk6 (c:DCode) (p:Nat) (op:Int) (q:Nat):Prop:=∃ i,i<c.ins.length∧zay c p i∧(zah c i).op=op∧(zah c i).arg=(q:Int)
end Go.Proofs.YtcnglfeoglgebaaGreat
namespace Go.Sh
def zmp (m n:Nat):Nat:=Nat.bitwise (fun a b=>a&&!b) m n
theorem zee (m n i:Nat):(zmp m n).testBit i=(m.testBit i&&!n.testBit i):=Nat.testBit_bitwise rfl m n i
theorem zj4 (m n:Nat):zmp m n≤m:=Nat.le_of_testBit fun i h=>by rw [zee] at h;simp at h;exact h.1
section
variable {P:Program} {w:World} {K:Value→Prop} {t:TypeId} {x y:Operand}
theorem ze6 {m n:Nat} (hm:m<4611686018427387904) (hn:n<4611686018427387904) (k:K (.int .i64 ((m &&& n:Nat):Int))):RD P (bin .and t x y (.int .i64 (m:Int)) (.int .i64 (n:Int))) w K:=by
 have hlt:m &&& n≤m:=Nat.and_le_left
 refine zaF (fun w' _=>?_) k
 have e1:IntKind.i64.wrap ((m &&& n:Nat):Int)=((m &&& n:Nat):Int):=IntWalk.i64_in _ (by omega)
 have e2:((BitVec.ofInt 64 (m:Int)) &&& (BitVec.ofInt 64 (n:Int))).toNat=m &&& n:=by
   simp only [BitVec.toNat_and,BitVec.ofInt_natCast,BitVec.toNat_ofNat]
   rw [Nat.mod_eq_of_lt (by omega),Nat.mod_eq_of_lt (by omega)]
 show (do eqGuard .and t x y (.int .i64 (m:Int)) (.int .i64 (n:Int));binOp .and t (.int .i64 (m:Int)) (.int .i64 (n:Int)):Sem Value).run P w'=_
 simp only [eqGuard,binOp,Op.intBits]
 show Result.ok (Value.int .i64 (IntKind.i64.wrap (((BitVec.ofInt 64 (m:Int)) &&& (BitVec.ofInt 64 (n:Int))).toNat:Nat))) w'=_
 rw [e2,e1]
theorem zgD {m n:Nat} (hm:m<4611686018427387904) (hn:n<4611686018427387904) (k:K (.int .i64 ((zmp m n:Nat):Int))):RD P (bin .andNot t x y (.int .i64 (m:Int)) (.int .i64 (n:Int))) w K:=by
 have hlt:zmp m n≤m:=zj4 m n
 refine zaF (fun w' _=>?_) k
 have e1:IntKind.i64.wrap ((zmp m n:Nat):Int)=((zmp m n:Nat):Int):=IntWalk.i64_in _ (by omega)
 have e2:((BitVec.ofInt 64 (m:Int)) &&& ~~~(BitVec.ofInt 64 (n:Int))).toNat=zmp m n:=by
   apply Nat.eq_of_testBit_eq
   intro i
   have hm64:m<2^64:=by omega
   have hn64:n<2^64:=by omega
   simp only [BitVec.testBit_toNat,BitVec.getLsbD_and,BitVec.getLsbD_not,BitVec.ofInt_natCast,BitVec.getLsbD_ofNat,zee]
   by_cases hi:i<64
   · simp [hi]
   have:m.testBit i=false:=Nat.testBit_lt_two_pow (Nat.lt_of_lt_of_le hm64 (Nat.pow_le_pow_right (by omega) (by omega)))
   simp [hi,this]
 show (do eqGuard .andNot t x y (.int .i64 (m:Int)) (.int .i64 (n:Int));binOp .andNot t (.int .i64 (m:Int)) (.int .i64 (n:Int)):Sem Value).run P w'=_
 simp only [eqGuard,binOp,Op.intBits]
 show Result.ok (Value.int .i64 (IntKind.i64.wrap (((BitVec.ofInt 64 (m:Int)) &&& ~~~(BitVec.ofInt 64 (n:Int))).toNat:Nat))) w'=_
 rw [e2,e1]
theorem zpE {m n:Nat} {ku:IntKind} (hm:m<4611686018427387904) (k:K (.int .i64 ((m >>> n:Nat):Int))):RD P (bin .shr t x y (.int .i64 (m:Int)) (.int ku (n:Int))) w K:=by
 refine zaF (fun w' _=>?_) k
 have e0:¬((n:Int)<0):=by omega
 have e1:(m:Int).fdiv (2^(min n 64))=((m >>> n:Nat):Int):=by
   rw [Nat.shiftRight_eq_div_pow]
   have h2:((2:Int)^(min n 64))=((2^(min n 64):Nat):Int):=by simp
   rw [h2,Int.fdiv_eq_ediv_of_nonneg _ (Int.natCast_nonneg _),←Int.natCast_ediv]
   by_cases h:n≤64
   · rw [Nat.min_eq_left h]
   rw [Nat.min_eq_right (by omega),Nat.div_eq_of_lt (by omega),Nat.div_eq_of_lt (Nat.lt_of_lt_of_le (by omega:m<2^64) (Nat.pow_le_pow_right (by omega) (by omega)))]
 show (do eqGuard .shr t x y (.int .i64 (m:Int)) (.int ku (n:Int));binOp .shr t (.int .i64 (m:Int)) (.int ku (n:Int)):Sem Value).run P w'=_
 simp only [eqGuard,binOp,Op.shift,e0,if_false,Int.toNat_natCast]
 show Result.ok (Value.int .i64 ((m:Int).fdiv (2^(min n 64)))) w'=_
 rw [e1]
end
def zcb (m:Nat):Nat→List Int
 | 0=>[]
 | k+1=>if m.testBit k then zcb m k++[(k:Int)] else zcb m k
theorem zfw (m:Nat):∀ k,(zcb m k).length≤k
 | 0=>Nat.le_refl _
 | k+1=>by
   have:=zfw m k
   rw [zcb]
   split
   · simp;omega
   omega
theorem zgE {m k:Nat} (h:m<2^k):∀ {j:Nat},k≤j→zcb m j=zcb m k
 | 0,hj=>by rw [Nat.le_zero.1 hj]
 | j+1,hj=>by
   by_cases e:k=j+1
   · rw [e]
   rw [zcb,if_neg,zgE h (by omega)]
   rw [Nat.testBit_lt_two_pow (Nat.lt_of_lt_of_le h (Nat.pow_le_pow_right (by omega) (by omega)))]
   simp
def zbo (m:Nat):List Int:=zcb m 64
theorem zh7 {m k:Nat} (h:m<2^k) (hk:k≤64):zbo m=zcb m k:=zgE h hk
theorem zcy {m:Nat} {x:Int}:∀ {k:Nat},x∈zcb m k↔∃ i,i<k∧x=(i:Int)∧m.testBit i=true
 | 0=>by simp [zcb]
 | k+1=>by
   rw [zcb]
   constructor
   · intro h
     split at h
     · rename_i hb
       rcases List.mem_append.1 h with h | h
       · obtain ⟨i,h1,h2,h3⟩:=zcy.1 h;exact ⟨i,by omega,h2,h3⟩
       simp at h;exact ⟨k,by omega,h,hb⟩
     obtain ⟨i,h1,h2,h3⟩:=zcy.1 h;exact ⟨i,by omega,h2,h3⟩
   rintro ⟨i,h1,h2,h3⟩
   by_cases e:i=k
   · subst e;rw [if_pos h3];simp [h2]
   have:=(zcy (m:=m) (x:=x) (k:=k)).2 ⟨i,by omega,h2,h3⟩
   split
   · simp [this]
   exact this
theorem zqo (m i:Nat):decide (((m >>> i &&& 1:Nat):Int)=1)=m.testBit i:=by
 have h:m >>> i &&& 1=(m.testBit i).toNat:=by
   rw [Nat.and_one_is_mod,Nat.testBit_eq_decide_div_mod_eq,Nat.shiftRight_eq_div_pow]
   rcases Nat.mod_two_eq_zero_or_one (m / 2^i) with h | h<;>simp [h]
 rw [h]
 cases m.testBit i<;>rfl
theorem zk7 {m i:Nat}:m >>> i=0↔m<2^i:=by
 rw [Nat.shiftRight_eq_div_pow,Nat.div_eq_zero_iff]
 have:¬(2^i=0):=by have:0<2^i:=Nat.pow_pos (by omega);omega
 simp [this]
end Go.Sh
namespace Go.Proofs.YtcnglfeoglgebaaGreat
open Go Go.Sh Go.Proofs
open Rep (rep)
def F110 (a0 a1:Value) (w:World) (R:VW):Prop:=
 rD (convert 3 105 a1) w fun x7=>
 rB .shr 3 T0 T0 a0 x7 w fun x8=>
 rB .and 3 T0 U0 x8 (iV 1) w fun x9=>
 rB .eql 3 T0 U0 x9 (iV 1) w fun x10=>
 R x10 w
def cfg110:Cfg:=⟨extL,[],[],[],[],[],[]⟩
theorem F110_call {a0 a1:Value} {w:World} {R:VW} (h:F110 a0 a1 w R):cL 110 [a0,a1] w R:=co (g:=cfg110) Tryz.func110 (by kernel_rfl) (by kernel_rfl) (by kernel_rfl) h
theorem zdd {w:World} {m:Nat} {i:Nat}   (hm:m<4611686018427387904) (hi:i<4611686018427387904) :
   CALL Tryz.prog 110 [.int .i64 (m:Int),.int .i64 (i:Int)] w fun r w'=>Ext w w'∧(r=.bool (m.testBit i)):=by
 refine F110_call ?_
 unfold F110
 refine zcD (by kernel_rfl) zmI (by omega) ?_
 refine zpE (by omega) ?_
 refine ze6 (n:=1) (Nat.lt_of_le_of_lt (Nat.shiftRight_le m i) hm) (by omega) ?_
 refine zai ?_
 refine ⟨Ext.refl w,?_⟩
 rw [zqo]
def F48 (a0:Value) (w:World) (R:VW):Prop:=
 LOOPI [3,4] [(Value.slice none 0 0),(iV 0)] w fun u3 w next3=>
 rD (convert 3 105 (u3 4)) w fun x7=>
 rB .shr 3 T0 T0 a0 x7 w fun x8=>
 rB .neq 3 T0 U0 x8 (iV 0) w fun x9=>
 BR x9
 (cL 110 [a0,(u3 4)] w fun x14 w=>
 BR x14
 (oP (Instr.buildSlice 33 1 #[(0,(u3 4))]) w fun x17 w=>
 oP (Builtin.append_ #[33,33] 33 [(u3 3),x17].toArray) w fun x18 w=>
 rA (u3 4) (iV 1) w fun x11=>
 next3 [x18,x11] w)
 (rA (u3 4) (iV 1) w fun x11=>
 next3 [(u3 3),x11] w))
 (R (u3 3) w)
def cfg48:Cfg:=⟨extL,[],[(3,524280,[3,4])],[],[],[],[]⟩
theorem F48_call {a0:Value} {w:World} {R:VW} (h:F48 a0 w R):cL 48 [a0] w R:=co (g:=cfg48) Tryz.func48 (by kernel_rfl) (by kernel_rfl) (by kernel_rfl) h
theorem zcc {w:World} {m:Nat}   (hm:m<4611686018427387904) :
   CALL Tryz.prog 48 [.int .i64 (m:Int)] w fun r w'=>Ext w w'∧(Own w.heap.size w' r (zbo m)):=by
 refine F48_call ?_
 unfold F48
 refine zaE (62) (fun k us w'=>∃ v:Value,us=[v,.int .i64 (k:Int)]∧Ext w w'∧(RowI w.heap.size w'.heap.size 3 w' v (zcb m k))) (0) (by omega) ⟨_,rfl,Ext.refl w,zb2 _ _ _ _⟩ ?_
 rintro k m3 uu3 w1_ hk3 ⟨v3,hu,hx1_,hrow⟩
 have hs_hx1_:=hx1_.size
 obtain ⟨hu0,hu1⟩:=zey hu
 try rw [hu0]
 try rw [hu1]
 try clear hu0 hu1
 have hrl:=zfw m k
 refine zcD (by kernel_rfl) zmI (by omega) ?_
 refine zpE (by omega) ?_
 refine zaT ?_
 refine br (fun c1=>?_) (fun c1=>?_)
 · have hk62:k<62:=by
     rcases Nat.lt_or_ge k 62 with h | h
     · exact h
     have h1:m<2^k:=Nat.lt_of_lt_of_le (show m<2^62 by omega) (Nat.pow_le_pow_right (by omega) h)
     exact absurd (by rw [zk7.2 h1];rfl) c1
   refine (zdd (by omega) (by omega)).mono ?_
   rintro _ w2_ ⟨hx2_,rfl⟩
   have hs_hx2_:=hx2_.size
   refine zbQ (fun c2=>?_) (fun c2=>?_)
   · refine zdt (α:=Int) u33 ty3 z3 zc3 (by decide) (hrow.ext hx2_) (by omega) (ownI_int (lo:=w2_.heap.size) (hi:=w2_.heap.size) (by first | assumption | (unfold I64 at *;omega))) (by omega) (by omega) (by rw [zak];omega) (by omega) fun v18 w3_ hc3_ o18=>?_
     have hs_hc3_:=hc3_.size
     refine zag (by omega) ?_
     refine ⟨m3-1,by omega,k+1,by omega,_,rfl,(Ext.chgI (hx1_.trans hx2_) hc3_ (by omega)),?_⟩
     rw [zcb,if_pos c2];exact o18
   refine zag (by omega) ?_
   refine ⟨m3-1,by omega,k+1,by omega,_,rfl,(hx1_.trans hx2_),?_⟩
   rw [zcb,if_neg (by simp [c2])];exact (hrow.ext hx2_).mono (by omega) (by omega)
 refine ⟨hx1_,?_⟩
 have h1:m >>> k=0:=by have:=Decidable.not_not.1 c1;omega
 rw [zh7 (zk7.1 h1) (by omega)]
 exact hrow.own.own
def zrs (c:DCode) (s:DState) (t:Int):Nat→Nat→Int→Nat
 | 0,_,_=>0
 | n+1,m,u=>if zft c s u<0 then 0 else if ow s (zft c s u)=t then m ||| 2^(zft c s u).toNat else zrs c s t n (m ||| 2^(zft c s u).toNat) (ow s (zft c s u))
def zrt (c:DCode) (s:DState) (t:Int):Nat:=zrs c s t s.stacks.length 0 t
theorem zru {m i:Nat} (hm:m<64) (hi:i<6):m ||| 2^i<64:=Nat.or_lt_two_pow (n:=6) hm (Nat.pow_lt_pow_right (by omega) hi)
def zj5 (c:DCode) (s:DState):Nat→Nat
 | 0=>0
 | k+1=>if zrt c s k≠0 then zj5 c s k ||| 2^(zft c s k).toNat else zj5 c s k
def F116 (a0 a1:Value) (w:World) (R:VW):Prop:=
 cL 48 [a1] w fun x9 w=>
 rN 33 3 x9 w fun x10=>
 LOOPI [5,11] [(iV 0),(iV 0)] w fun u3 w next3=>
 rC (u3 11) x10 w fun x12=>
 BR x12
 (rX 33 x9 (u3 11) w fun x13=>
 rL 3 x13 w fun x14=>
 rX 33 a0 x14 w fun x18=>
 rL 3 x18 w fun x19=>
 rB .or 3 T0 T0 (u3 5) x19 w fun x20=>
 rA (u3 11) (iV 1) w fun x21=>
 next3 [x20,x21] w)
 (R (u3 5) w)
def cfg116:Cfg:=⟨extL,[],[(3,4192416,[5,11])],[],[],[],[]⟩
theorem F116_call {a0 a1:Value} {w:World} {R:VW} (h:F116 a0 a1 w R):cL 116 [a0,a1] w R:=co (g:=cfg116) Tryz.func116 (by kernel_rfl) (by kernel_rfl) (by kernel_rfl) h
def orL (sets:List Nat) (l:List Int):Nat:=l.foldl (fun a i=>a ||| sets.getD i.toNat 0) 0
theorem zoO (sets:List Nat) (l:List Int) (i:Int):orL sets (l++[i])=orL sets l ||| sets.getD i.toNat 0:=by simp [orL]
theorem zk8 {sets:List Nat} (hs:∀ x∈sets,x<256) (l:List Int):orL sets l<256:=by
 have key:∀ (l:List Int) (a:Nat),a<256→l.foldl (fun a i=>a ||| sets.getD i.toNat 0) a<256:=fun l=>by
   induction l with
   | nil=>exact fun a h=>h
   | cons i l ih=>
     intro a ha
     rw [List.foldl_cons]
     refine ih _ (Nat.or_lt_two_pow (n:=8) ha ?_)
     rw [List.getD_eq_getElem?_getD]
     cases h:sets[i.toNat]? with
     | none=>simp
     | some x=>exact hs x (List.mem_of_getElem? h)
 exact key l 0 (by omega)
theorem zef {w W0:World} {v0:Value} {sets:List Nat} {m:Nat} (h0:Is W0 v0 (zaZ sets)) (e0:Ext W0 w) (hs:∀ x∈sets,x<256) (hl:sets.length≤8) (hm:m<2^sets.length) :
   CALL Tryz.prog 116 [v0,.int .i64 (m:Int)] w fun r w'=>Ext w w'∧r=.int .i64 (orL sets (zbo m):Nat):=by
 refine F116_call ?_
 unfold F116
 have h256:2^sets.length≤2^8:=Nat.pow_le_pow_right (by omega) hl
 refine (zcc (m:=m) (by omega)).mono ?_
 rintro v9 w1 ⟨hx1,ho1⟩
 have hbl:(zbo m).length≤64:=zfw m 64
 refine zaf u33 ho1.is ?_
 refine zaE (zbo m).length (fun k us w'=>us=[.int .i64 ((orL sets ((zbo m).take k):Nat):Int),.int .i64 (k:Int)]∧k≤(zbo m).length∧Ext w1 w') 0 (Nat.zero_le _) ⟨rfl,Nat.zero_le _,Ext.refl _⟩ ?_
 rintro k mk u w2 hkm ⟨hu,hkl,hx2⟩
 obtain ⟨hu1,hu2⟩:=zey hu
 rw [hu1,hu2]
 refine zal ?_
 refine br (fun hlt=>?_) (fun hge=>?_)
 case refine_2=>
   have:k=(zbo m).length:=by omega
   rw [this,List.take_length]
   exact ⟨hx1.trans hx2,rfl⟩
 have hk:k<(zbo m).length:=by omega
 have hmem:(zbo m)[k]∈zbo m:=List.getElem_mem hk
 obtain ⟨i,hi1,hi2,hi3⟩:=zcy.1 hmem
 have hil:i<sets.length:=Decidable.byContradiction fun hc=>by
   have:=Nat.testBit_lt_two_pow (Nat.lt_of_lt_of_le hm (Nat.pow_le_pow_right (by omega) (by omega:sets.length≤i)))
   rw [this] at hi3;cases hi3
 refine zad u33 ty3 (i:=k) ho1.is hk fun b1 o1 hA1=>?_
 refine zac ty3 hA1 hx2 fun _=>?_
 rw [hi2]
 refine zad u33 ty3 (i:=i) h0 (by rw [zae];exact hil) fun b2 o2 hA2=>?_
 rw [zaR] at hA2
 refine zac ty3 hA2 ((e0.trans hx1).trans hx2) fun _=>?_
 have h1:=zk8 hs ((zbo m).take k)
 have h2:=hs sets[i] (List.getElem_mem hil)
 refine zhR (by omega) (by omega) ?_
 refine zag (by omega) ?_
 refine ⟨mk-1,by omega,k+1,by omega,?_,by omega,hx2⟩
 rw [List.take_succ_eq_append_getElem hk,zoO,hi2,Int.toNat_natCast,List.getD_eq_getElem?_getD,List.getElem?_eq_getElem hil]
 rfl
noncomputable def zqp (c:DCode) (p:Nat):List Nat:=zbh c.procs.length (zk6 c p 4)
noncomputable def m6 (p:Nat→Prop):Nat:=zfn p 6
theorem zi3 {p:Nat→Prop} {l:Nat}:(m6 p).testBit l=true↔l<6∧p l:=zbq
theorem zj6 {p:Nat→Prop}:m6 p<64:=zgz (n:=6)
theorem zh8 {m l:Nat} (h:m<64) (hb:m.testBit l=true):l<6:=Decidable.byContradiction fun hc=>by
 have:=Nat.testBit_lt_two_pow (Nat.lt_of_lt_of_le (show m<2^6 from h) (Nat.pow_le_pow_right (by omega) (by omega:6≤l)))
 rw [this] at hb;cases hb
theorem zoP {m:Nat} {p:Nat→Prop} (h:m<64) (hb:∀ l,l<6→(m.testBit l=true↔p l)):m=m6 p:=
 zdx fun l=>⟨fun e=>⟨zh8 h e,(hb l (zh8 h e)).1 e⟩,fun e=>(hb l e.1).2 e.2⟩
theorem zoQ {p q:Nat→Prop} (h:∀ l,l<6→(p l↔q l)):m6 p=m6 q:=zbY h
theorem zcz {m l:Nat} (h:¬m.testBit l=false):m.testBit l=true:=by simpa using h
def zaC (l:List Nat) (i:Nat):Nat:=l.getD i 0
theorem zaJ {l:List Nat} {i:Nat} (h:i<l.length):l[i]=zaC l i:=by unfold zaC;rw [List.getD_eq_getElem?_getD,List.getElem?_eq_getElem h];rfl
theorem zbr {l:List Nat} {i j v:Nat} (hi:i<l.length):zaC (l.set i v) j=if i=j then v else zaC l j:=by
 unfold zaC
 rw [List.getD_eq_getElem?_getD,List.getD_eq_getElem?_getD,List.getElem?_set]
 by_cases h:i=j
 · subst h;simp [hi]
 simp [h]
theorem zh9:∀ {l:List Nat} {i v:Nat},i<l.length→(l.set i v).sum+zaC l i=l.sum+v
 | x :: l,0,v,_=>by simp [zaC];omega
 | x :: l,i+1,v,h=>by
   have:=zh9 (l:=l) (i:=i) (v:=v) (by simpa using h)
   simp only [zaC,List.set_cons_succ,List.sum_cons,List.getD_cons_succ] at this ⊢
   omega
theorem ze7 (l:List Nat) (i v:Nat):zaZ (l.set i v)=(zaZ l).set i (v:Int):=by simp [zaZ,List.map_set]
theorem zia {l:List Nat} {i:Nat} (h:i<l.length):zaC l i∈l:=by rw [←zaJ h];exact List.getElem_mem h
theorem zbf {l:List Nat} {i:Nat} (h:i<(zaZ l).length):(zaZ l)[i]=(zaC l i:Int):=by rw [zaR,zaJ]
def eN (c:DCode) (p:Nat):Nat:=(en c p).toNat
def zN (c:DCode) (p:Nat):Nat:=(zb4 c p-1).toNat
def agN (c:DCode) (i:Nat):Nat:=(zah c i).arg.toNat
theorem zfR {c:DCode} (hc:CodeR c) {p:Nat} (hp:p<c.entry.length):en c p=(eN c p:Int)∧eN c p<c.ins.length∧zap c (eN c p)=p:=by
 have h:=zqk hc hp
 unfold eN
 rw [Int.toNat_of_nonneg h.1]
 exact ⟨rfl,by omega,h.2.2⟩
theorem zj7 {c:DCode} (hc:CodeR c) {p:Nat} (hp:p<c.entry.length):zb4 c p=(zN c p:Int)+1∧eN c p≤zN c p∧zN c p<c.ins.length:=by
 have h1:=hc.f.lt p hp
 have h2:=hc.f.nonneg hp
 have h4:=hc.f.lt p hp
 have h5:zb4 c p≤c.ins.length:=h4.2
 unfold zN eN
 omega
theorem za2 {c:DCode} (hc:CodeR c) {p i:Nat} (hp:p<c.entry.length) (h:zay c p i):i<c.ins.length∧zap c i=p:=by
 have he:=zfR hc hp
 rcases h with rfl | h
 · exact ⟨he.2.1,he.2.2⟩
 refine h.keeps (p:=fun i=>i<c.ins.length∧zap c i=p) ⟨he.2.1,he.2.2⟩ fun i j hi hj=>?_
 have:=zb5 hc hi.1 hj
 exact ⟨this.1,this.2.trans hi.2⟩
theorem zna {c:DCode} {p i j:Nat} (h:zay c p i) (hj:j∈zax c i):zay c p j:=by
 rcases h with rfl | h
 · exact .inr (.one hj)
 exact .inr (.more h hj)
theorem znb {c:DCode} (hc:CodeR c) {p i:Nat} (hi:i<c.ins.length) (hp:p<c.entry.length) (h:zap c i=p):eN c p≤i∧i≤zN c p:=by
 obtain ⟨q,hq,h1,h2,h3⟩:=hc.f.find hc.1.procs8.2 (a:=(i:Int)) (by omega) (by omega)
 have:q=p:=by omega
 subst this
 have h4:=zj7 hc hp
 have h5:=zfR hc hp
 omega
theorem znc {c:DCode} (hc:CodeR c) {p i:Nat} (hp:p<c.entry.length) (h1:eN c p≤i) (h2:i≤zN c p):zap c i=p:=by
 have h4:=zj7 hc hp
 have h5:=zfR hc hp
 exact hc.f.proc hp (by omega) (by omega)
theorem zbv {c:DCode} (hc:CodeR c) {i:Nat} (hi:i<c.ins.length) (ho:(zah c i).op=4∨(zah c i).op=5):(zah c i).arg=(agN c i:Int)∧agN c i<c.procs.length:=by
 have harg:=(zgx hc hi).2.1
 unfold zbX at harg
 rw [if_neg (by omega),if_pos (by omega)] at harg
 unfold agN
 omega
theorem zj8 {c:DCode} (hc:CodeR c) {i:Nat} (hi:i<c.ins.length) (ho:(zah c i).op=6∨(zah c i).op=7):(zah c i).arg=(agN c i:Int)∧agN c i<c.locks.length∧agN c i<6:=by
 have h:=zoJ hc hi ho
 have h6:=hc.1.locks6
 unfold agN
 omega
def zrO (c:DCode) (K G:Nat→Nat→Prop) (i l:Nat):Prop:=((zah c i).op=7∧agN c i=l)∨((zah c i).op=4∧¬K (agN c i) l∧¬G (agN c i) l)
def zoR (c:DCode) (G:Nat→Nat→Prop) (i l:Nat):Prop:=¬((zah c i).op=6∧agN c i=l)∧¬((zah c i).op=4∧G (agN c i) l)
inductive LostP (c:DCode) (K G:Nat→Nat→Prop) (p:Nat) (h:Nat→Prop):Nat→Nat→Prop
 | ent {l:Nat} (h0:¬h l):LostP c K G p h (eN c p) l
 | gen {i j l:Nat} (h0:zay c p i) (hj:j∈zax c i) (h1:zrO c K G i l):LostP c K G p h j l
 | pass {i j l:Nat} (h0:zay c p i) (hj:j∈zax c i) (h1:LostP c K G p h i l) (h2:zoR c G i l):LostP c K G p h j l
theorem LostP.mono {c:DCode} {K K' G G':Nat→Nat→Prop} {p:Nat} {h h':Nat→Prop} (hK:∀ q l,K' q l→K q l) (hG:∀ q l,G' q l→G q l) (hh:∀ l,h' l→h l) {i l:Nat} (hl:LostP c K G p h i l):LostP c K' G' p h' i l:=by
 induction hl with
 | ent h0=>exact .ent fun e=>h0 (hh _ e)
 | gen h0 hj h1=>exact .gen h0 hj (h1.imp id fun ⟨a,b,d⟩=>⟨a,fun e=>b (hK _ _ e),fun e=>d (hG _ _ e)⟩)
 | pass h0 hj _ h2 ih=>exact .pass h0 hj ih ⟨h2.1,fun ⟨a,b⟩=>h2.2 ⟨a,hG _ _ b⟩⟩
abbrev Tab:=List (Nat×Nat)
def tbl (T:Tab) (q:Nat):Nat×Nat:=T.getD q (0,0)
def tK (T:Tab) (q l:Nat):Prop:=(tbl T q).1.testBit l=true
def tG (T:Tab) (q l:Nat):Prop:=(tbl T q).2.testBit l=true
theorem zfx {T:Tab} {q:Nat} (h:q<T.length):T[q]=tbl T q:=by unfold tbl;rw [List.getD_eq_getElem?_getD,List.getElem?_eq_getElem h];rfl
theorem zqq {T:Tab} {q r:Nat} {v:Nat×Nat} (h:q<T.length):tbl (T.set q v) r=if q=r then v else tbl T r:=by
 unfold tbl
 rw [List.getD_eq_getElem?_getD,List.getD_eq_getElem?_getD,List.getElem?_set]
 by_cases e:q=r
 · subst e;simp [h]
 simp [e]
def zpF (c:DCode) (T:Tab):Prop:=T.length=c.procs.length∧∀ q,(tbl T q).1<64∧(tbl T q).2<64
def aft (c:DCode) (T:Tab) (i m:Nat):Nat:=
 if (zah c i).op=6 then m ||| 2^agN c i else if (zah c i).op=7 then zmp m (2^agN c i) else if (zah c i).op=4 then (m &&& (tbl T (agN c i)).1) ||| (tbl T (agN c i)).2 else m
theorem zrv {c:DCode} {T:Tab} (hc:CodeR c) (hT:zpF c T) {i m:Nat} (hi:i<c.ins.length) (hm:m<64):aft c T i m<64:=by
 unfold aft
 split
 · rename_i h
   exact zru hm (zj8 hc hi (.inl h)).2.2
 split
 · exact Nat.lt_of_le_of_lt (zj4 _ _) hm
 split
 · exact Nat.or_lt_two_pow (n:=6) (Nat.lt_of_le_of_lt Nat.and_le_left hm) (hT.2 _).2
 exact hm
theorem zib {c:DCode} {T:Tab} {i m l:Nat}:(aft c T i m).testBit l=false↔zrO c (tK T) (tG T) i l∨(zoR c (tG T) i l∧m.testBit l=false):=by
 unfold aft zrO zoR tK tG
 split
 · rename_i h
   rw [Nat.testBit_or,Nat.testBit_two_pow]
   have e6:((zah c i).op=6)=True:=eq_true h
   have e4:((zah c i).op=4)=False:=eq_false (by omega)
   have e7:((zah c i).op=7)=False:=eq_false (by omega)
   simp only [e6,e4,e7,true_and,false_and,false_or,or_false,not_false_eq_true,and_true,Bool.or_eq_false_iff,decide_eq_false_iff_not]
   exact ⟨fun ⟨a,b⟩=>⟨b,a⟩,fun ⟨a,b⟩=>⟨b,a⟩⟩
 rename_i h6
 have e6:((zah c i).op=6)=False:=eq_false h6
 split
 · rename_i h
   have e7:((zah c i).op=7)=True:=eq_true h
   have e4:((zah c i).op=4)=False:=eq_false (by omega)
   rw [zee,Nat.testBit_two_pow]
   simp only [e6,e4,e7,true_and,false_and,false_or,or_false,not_false_eq_true,and_true,Bool.and_eq_false_iff,Bool.not_eq_false',decide_eq_true_eq]
   exact ⟨fun h=>h.elim .inr .inl,fun h=>h.elim .inr .inl⟩
 rename_i h7
 have e7:((zah c i).op=7)=False:=eq_false h7
 split
 · rename_i h
   have e4:((zah c i).op=4)=True:=eq_true h
   rw [Nat.testBit_or,Nat.testBit_and]
   simp only [e6,e4,e7,true_and,false_and,false_or,not_false_eq_true]
   cases (tbl T (agN c i)).1.testBit l<;>cases (tbl T (agN c i)).2.testBit l<;>cases m.testBit l<;>simp
 rename_i h4
 simp [h6,h7,h4]
noncomputable def zbM (c:DCode) (T:Tab) (p h:Nat):List Nat:=(List.range c.ins.length).map fun i=>m6 fun l=>¬LostP c (tK T) (tG T) p (fun l=>h.testBit l=true) i l
theorem zdU (c:DCode) (T:Tab) (p h:Nat):(zbM c T p h).length=c.ins.length:=by simp [zbM]
theorem zfZ {c:DCode} {T:Tab} {p h i:Nat} (hi:i<c.ins.length):zaC (zbM c T p h) i=m6 fun l=>¬LostP c (tK T) (tG T) p (fun l=>h.testBit l=true) i l:=by
 rw [←zaJ (by rw [zdU];exact hi)];simp [zbM]
theorem zic {c:DCode} {T:Tab} {p h:Nat}:∀ x∈zbM c T p h,x<64:=fun x hx=>by
 unfold zbM at hx
 obtain ⟨i,_,rfl⟩:=List.mem_map.1 hx
 exact zj6
structure FL (c:DCode) (T:Tab) (p h:Nat) (out:List Nat):Prop where
 len:out.length=c.ins.length
 lt:∀ x∈out,x<64
 snd:∀ i l,i<c.ins.length→l<6→(zaC out i).testBit l=false→LostP c (tK T) (tG T) p (fun l=>h.testBit l=true) i l
 ent:∀ l,l<6→h.testBit l=false→(zaC out (eN c p)).testBit l=false
theorem FL.lt0 {c:DCode} {T:Tab} {p h:Nat} {out:List Nat} (h:FL c T p h out) (i:Nat):zaC out i<64:=by
 rcases Nat.lt_or_ge i out.length with hi | hi
 · exact h.lt _ (zia hi)
 unfold zaC;rw [List.getD_eq_getElem?_getD,List.getElem?_eq_none hi];simp
theorem ze8 {l:Nat} (h:l<6):(63:Nat).testBit l=true:=by
 have:l=0∨l=1∨l=2∨l=3∨l=4∨l=5:=by omega
 rcases this with rfl | rfl | rfl | rfl | rfl | rfl<;>rfl
theorem FL.start {c:DCode} {T:Tab} {p h:Nat} (hc:CodeR c) (hp:p<c.entry.length) (hh:h<64):FL c T p h ((List.replicate c.ins.length 63).set (eN c p) h):=by
 have he:=(zfR hc hp).2.1
 have hr:(List.replicate c.ins.length 63).length=c.ins.length:=by simp
 have hg:∀ i,i<c.ins.length→zaC (List.replicate c.ins.length 63) i=63:=fun i hi=>by rw [←zaJ (by rw [hr];exact hi)];simp
 refine ⟨by simp,fun x hx=>?_,fun i l hi hl hb=>?_,fun l hl hb=>?_⟩
 · rcases zgy hx with rfl | hx
   · exact hh
   rw [(List.mem_replicate.1 hx).2];omega
 · rw [zbr (by rw [hr];exact he)] at hb
   split at hb
   · rename_i e
     subst e
     exact .ent (by rw [hb];simp)
   rw [hg i hi,ze8 hl] at hb;cases hb
 rw [zbr (by rw [hr];exact he),if_pos rfl];exact hb
theorem FL.upd {c:DCode} {T:Tab} {p h:Nat} {out:List Nat} (hF:FL c T p h out) (hc:CodeR c) (hp:p<c.entry.length) (hT:zpF c T) {i j:Nat} (hi:zay c p i) (hj:j∈zax c i) :
   FL c T p h (out.set j (zaC out j &&& aft c T i (zaC out i))):=by
 have hil:=(za2 hc hp hi).1
 have hjl:=(zb5 hc hil hj).1
 refine ⟨by simp [hF.len],fun x hx=>?_,fun k l hk hl hb=>?_,fun l hl hb=>?_⟩
 · rcases zgy hx with rfl | hx
   · exact Nat.lt_of_le_of_lt Nat.and_le_left (hF.lt0 j)
   exact hF.lt x hx
 · rw [zbr (by rw [hF.len];exact hjl)] at hb
   split at hb
   · rename_i e
     subst e
     rw [Nat.testBit_and,Bool.and_eq_false_iff] at hb
     rcases hb with hb | hb
     · exact hF.snd j l hk hl hb
     rcases zib.1 hb with h1 | ⟨h1,h2⟩
     · exact .gen hi hj h1
     exact .pass hi hj (hF.snd i l hil hl h2) h1
   exact hF.snd k l hk hl hb
 rw [zbr (by rw [hF.len];exact hjl)]
 split
 · rename_i e
   rw [Nat.testBit_and,e,hF.ent l hl hb];rfl
 exact hF.ent l hl hb
theorem zpG {a b:Nat} (h:a &&& b≠a):a &&& b<a:=by
 have:a &&& b≤a:=Nat.and_le_left
 omega
def zrP (c:DCode) (T:Tab) (out:List Nat) (i:Nat):Prop:=∀ j∈zax c i,zaC out j &&& aft c T i (zaC out i)=zaC out j
theorem FL.fin {c:DCode} {T:Tab} {p h:Nat} {out:List Nat} (hF:FL c T p h out) (hc:CodeR c) (hp:p<c.entry.length) (hs:∀ i,zay c p i→zrP c T out i):out=zbM c T p h:=by
 refine List.ext_getElem (by rw [hF.len,zdU]) fun i h1 h2=>?_
 rw [zaJ h1,zaJ h2,zfZ (by rw [←hF.len];exact h1)]
 refine zoP (hF.lt0 i) fun l hl=>⟨fun hb hn=>?_,fun hn=>zcz fun hb=>hn (hF.snd i l (by rw [←hF.len];exact h1) hl hb)⟩
 have key:∀ {i l:Nat},LostP c (tK T) (tG T) p (fun l=>h.testBit l=true) i l→l<6→(zaC out i).testBit l=false:=fun {i l} hn=>by
   induction hn with
   | ent h0=>exact fun hl=>hF.ent _ hl (by simpa using h0)
   | gen h0 hj h1=>
     intro hl
     rw [←hs _ h0 _ hj,Nat.testBit_and,zib.2 (.inl h1),Bool.and_false]
   | pass h0 hj _ h2 ih=>
     intro hl
     rw [←hs _ h0 _ hj,Nat.testBit_and,zib.2 (.inr ⟨h2,ih hl⟩),Bool.and_false]
 rw [key hn hl] at hb;cases hb
def FromP (c:DCode) (p q:Nat):Prop:=q=p∨RP (zqp c) p q
theorem FromP.lt {c:DCode} {p q:Nat} (hp:p<c.procs.length) (h:FromP c p q):q<c.procs.length:=by
 rcases h with rfl | h
 · exact hp
 exact h.keeps (p:=fun i=>i<c.procs.length) hp fun i j _ hj=>(zaI.1 hj).1
theorem FromP.trans {c:DCode} {p q r:Nat} (h:FromP c p q) (k:FromP c q r):FromP c p r:=by
 rcases h with rfl | h
 · exact k
 rcases k with rfl | k
 · exact .inr h
 exact .inr (h.trans k)
theorem FromP.call {c:DCode} {p q r:Nat} (h:FromP c p q) (hr:r<c.procs.length) (k:zk6 c q 4 r):FromP c p r:=h.trans (.inr (.one (zaI.2 ⟨hr,k⟩)))
noncomputable def zeE (c:DCode) (p:Nat):Nat:=m6 fun l=>¬ ∃ q i,q<c.procs.length∧FromP c p q∧zay c q i∧(zah c i).op=7∧agN c i=l
inductive LostE (c:DCode):Nat→Nat→Nat→Prop
 | ent {p l:Nat}:LostE c p (eN c p) l
 | unl {p i j l:Nat} (h0:zay c p i) (hj:j∈zax c i) (ho:(zah c i).op=7) (ha:agN c i=l):LostE c p j l
 | cal {p i j l:Nat} (h0:zay c p i) (hj:j∈zax c i) (ho:(zah c i).op=4) (hk:(zeE c (agN c i)).testBit l=false) (h1:LostE c (agN c i) (zN c (agN c i)) l):LostE c p j l
 | bck {p i j l:Nat} (h0:zay c p i) (hj:j∈zax c i) (ho:(zah c i).op=4) (h2:LostE c p i l) (h1:LostE c (agN c i) (zN c (agN c i)) l):LostE c p j l
 | pass {p i j l:Nat} (h0:zay c p i) (hj:j∈zax c i) (h6:¬((zah c i).op=6∧agN c i=l)) (h4:¬(zah c i).op=4) (h1:LostE c p i l):LostE c p j l
noncomputable def zbR (c:DCode):Tab:=(List.range c.procs.length).map fun p=>(zeE c p,m6 fun l=>¬LostE c p (zN c p) l)
theorem zid (c:DCode):(zbR c).length=c.procs.length:=by simp [zbR]
theorem znd {c:DCode} {p:Nat} (hp:p<c.procs.length):tbl (zbR c) p=(zeE c p,m6 fun l=>¬LostE c p (zN c p) l):=by
 rw [←zfx (by rw [zid];exact hp)];simp [zbR]
theorem zne {c:DCode} {T:Tab} (hl:T.length=c.procs.length) (h:∀ q,q<c.procs.length→(tbl T q).1<64∧(tbl T q).2<64):zpF c T:=⟨hl,fun q=>by
 rcases Nat.lt_or_ge q c.procs.length with hq | hq
 · exact h q hq
 unfold tbl;rw [List.getD_eq_getElem?_getD,List.getElem?_eq_none (by omega)];simp⟩
theorem zhq (c:DCode):zpF c (zbR c):=zne (zid c) fun q hq=>by rw [znd hq];exact ⟨zj6,zj6⟩
noncomputable def zcr (c:DCode) (T:Tab) (p:Nat):Nat:=zaC (zbM c T p 0) (zN c p)
theorem ze9 {c:DCode} (hc:CodeR c) {T:Tab} {p l:Nat} (hp:p<c.procs.length) (hl:l<6):(zcr c T p).testBit l=false↔LostP c (tK T) (tG T) p (fun l=>(0:Nat).testBit l=true) (zN c p) l:=by
 have hz:=(zj7 hc (p:=p) (by rw [hc.2.1.1];exact hp)).2.2
 unfold zcr
 rw [zfZ hz]
 constructor
 · intro h
   refine Classical.byContradiction fun hn=>?_
   rw [zi3.2 ⟨hl,hn⟩] at h;cases h
 intro h
 cases e:(m6 fun l=>¬LostP c (tK T) (tG T) p (fun l=>(0:Nat).testBit l=true) (zN c p) l).testBit l
 · rfl
 exact absurd h (zi3.1 e).2
theorem zie {c:DCode} (hc:CodeR c) {T:Tab} {p:Nat} (hp:p<c.procs.length):zcr c T p<64:=by
 have hz:=(zj7 hc (p:=p) (by rw [hc.2.1.1];exact hp)).2.2
 unfold zcr
 rw [zfZ hz];exact zj6
structure EI (c:DCode) (T:Tab):Prop where
 tab:zpF c T
 keep:∀ p,p<c.procs.length→(tbl T p).1=zeE c p
 snd:∀ p l,p<c.procs.length→l<6→(tbl T p).2.testBit l=false→LostE c p (zN c p) l
 desc:∀ p l,p<c.procs.length→l<6→(tbl T p).2.testBit l=false→(zcr c T p).testBit l=false
theorem EI.lost {c:DCode} (hc:CodeR c) {T:Tab} (h:EI c T) {p i l:Nat} (hp:p<c.procs.length) (hl:l<6) (k:LostP c (tK T) (tG T) p (fun l=>(0:Nat).testBit l=true) i l):LostE c p i l:=by
 have he:=hc.2.1.1
 induction k with
 | ent _=>exact .ent
 | gen h0 hj h1=>
   have hi:=(za2 hc (by rw [he];exact hp) h0).1
   rcases h1 with ⟨h1,h2⟩ | ⟨h1,h2,h3⟩
   · exact .unl h0 hj h1 h2
   have hq:=(zbv hc hi (.inl h1)).2
   refine .cal h0 hj h1 ?_ (h.snd _ _ hq hl (by unfold tG at h3;simpa using h3))
   unfold tK at h2
   rw [h.keep _ hq] at h2
   simpa using h2
 | @pass i j l h0 hj _ h2 ih=>
   have hi:=(za2 hc (by rw [he];exact hp) h0).1
   by_cases h4:(zah c i).op=4
   · have hq:=(zbv hc hi (.inl h4)).2
     refine .bck h0 hj h4 (ih hl) (h.snd _ _ hq hl ?_)
     have:=h2.2
     unfold tG at this
     simpa [h4] using this
   exact .pass h0 hj h2.1 h4 (ih hl)
theorem EI.start (c:DCode) (hc:CodeR c):EI c ((List.range c.procs.length).map fun p=>(zeE c p,63)):=by
 have hl:((List.range c.procs.length).map fun p=>(zeE c p,63)).length=c.procs.length:=by simp
 have hat:∀ p,p<c.procs.length→tbl ((List.range c.procs.length).map fun p=>(zeE c p,63)) p=(zeE c p,63):=fun p hp=>by
   rw [←zfx (by rw [hl];exact hp)];simp
 refine ⟨zne hl fun q hq=>by rw [hat q hq];exact ⟨zj6,by omega⟩,fun p hp=>by rw [hat p hp],fun p l hp h6 hb=>?_,fun p l hp h6 hb=>?_⟩
 · rw [hat p hp,ze8 h6] at hb;cases hb
 rw [hat p hp,ze8 h6] at hb;cases hb
theorem EI.upd {c:DCode} (hc:CodeR c) {T:Tab} (h:EI c T) {p:Nat} (hp:p<c.procs.length):EI c (T.set p ((tbl T p).1,zcr c T p)):=by
 have hpl:p<T.length:=by rw [h.tab.1];exact hp
 have hat:=fun r=>zqq (T:=T) (q:=p) (r:=r) (v:=((tbl T p).1,zcr c T p)) hpl
 have hle:∀ q l,l<6→(tbl T q).2.testBit l=false→(tbl (T.set p ((tbl T p).1,zcr c T p)) q).2.testBit l=false:=fun q l hl hb=>by
   rw [hat]
   split
   · rename_i e;subst e;exact h.desc p l hp hl hb
   exact hb
 have hmono:∀ {q l:Nat},q<c.procs.length→l<6→(zcr c T q).testBit l=false→(zcr c (T.set p ((tbl T p).1,zcr c T p)) q).testBit l=false:=fun {q l} hq hl hb=>by
   rw [ze9 hc hq hl] at hb ⊢
   have key:∀ {i l:Nat},l<6→LostP c (tK T) (tG T) q (fun l=>(0:Nat).testBit l=true) i l→LostP c (tK (T.set p ((tbl T p).1,zcr c T p))) (tG (T.set p ((tbl T p).1,zcr c T p))) q (fun l=>(0:Nat).testBit l=true) i l:=fun {i l} hl k=>by
     have hK:∀ r l,tK (T.set p ((tbl T p).1,zcr c T p)) r l↔tK T r l:=fun r l=>by
       unfold tK
       rw [hat]
       split
       · rename_i e;rw [←e]
       exact Iff.rfl
     have hG:∀ r,tG (T.set p ((tbl T p).1,zcr c T p)) r l→tG T r l:=fun r e=>by
       unfold tG at e ⊢
       refine zcz fun hf=>?_
       rw [hle r l hl hf] at e;cases e
     clear hb
     induction k with
     | ent h0=>exact .ent h0
     | gen h0 hj h1=>exact .gen h0 hj (h1.imp id fun ⟨a,b,d⟩=>⟨a,fun e=>b ((hK _ _).1 e),fun e=>d (hG _ e)⟩)
     | pass h0 hj _ h2 ih=>exact .pass h0 hj (ih hl hG) ⟨h2.1,fun ⟨a,b⟩=>h2.2 ⟨a,hG _ b⟩⟩
   exact key hl hb
 refine ⟨⟨by simp [h.tab.1],fun q=>?_⟩,fun q hq=>?_,fun q l hq hl hb=>?_,fun q l hq hl hb=>?_⟩
 · rw [hat]
   split
   · exact ⟨(h.tab.2 p).1,zie hc hp⟩
   exact h.tab.2 q
 · rw [hat]
   split
   · rename_i e;subst e;exact h.keep p hp
   exact h.keep q hq
 · rw [hat] at hb
   split at hb
   · rename_i e;subst e
     exact h.lost hc hp hl ((ze9 hc hp hl).1 hb)
   exact h.snd q l hq hl hb
 rw [hat] at hb
 split at hb
 · rename_i e;subst e
   exact hmono hp hl hb
 exact hmono hq hl (h.desc q l hq hl hb)
theorem EI.le {c:DCode} (hc:CodeR c) {T:Tab} (h:EI c T) {p:Nat} (hp:p<c.procs.length):zcr c T p≤(tbl T p).2:=by
 refine Nat.le_of_testBit fun l hb=>?_
 have hl:=zh8 (zie hc hp) hb
 refine zcz fun hf=>?_
 rw [h.desc p l hp hl hf] at hb;cases hb
theorem EI.fin {c:DCode} (hc:CodeR c) {T:Tab} (h:EI c T) (hs:∀ p,p<c.procs.length→zcr c T p=(tbl T p).2):T=zbR c:=by
 refine List.ext_getElem (by rw [h.tab.1,zid]) fun p h1 h2=>?_
 have hp:p<c.procs.length:=by rw [←h.tab.1];exact h1
 rw [zfx h1,zfx h2,znd hp]
 have key:∀ {p i l:Nat},LostE c p i l→p<c.procs.length→l<6→LostP c (tK T) (tG T) p (fun l=>(0:Nat).testBit l=true) i l:=fun {p i l} k=>by
   have hz:∀ {i l:Nat},(zah c i).op=4→i<c.ins.length→l<6→(agN c i<c.procs.length→l<6→LostP c (tK T) (tG T) (agN c i) (fun l=>(0:Nat).testBit l=true) (zN c (agN c i)) l)→¬tG T (agN c i) l:=fun {i l} ho hi hl k1=>by
     have hq:=(zbv hc hi (.inl ho)).2
     have:=(ze9 hc hq hl).2 (k1 hq hl)
     rw [hs _ hq] at this
     unfold tG
     rw [this];simp
   induction k with
   | ent=>exact fun _ _=>.ent (by simp)
   | unl h0 hj ho ha=>exact fun _ _=>.gen h0 hj (.inl ⟨ho,ha⟩)
   | cal h0 hj ho hk _ ih=>
     intro hp hl
     have hi:=(za2 hc (by rw [hc.2.1.1];exact hp) h0).1
     have hq:=(zbv hc hi (.inl ho)).2
     refine .gen h0 hj (.inr ⟨ho,?_,hz ho hi hl ih⟩)
     unfold tK
     rw [h.keep _ hq,hk];simp
   | bck h0 hj ho _ _ ih2 ih1=>
     intro hp hl
     have hi:=(za2 hc (by rw [hc.2.1.1];exact hp) h0).1
     exact .pass h0 hj (ih2 hp hl) ⟨fun h=>by omega,fun h=>hz ho hi hl ih1 h.2⟩
   | pass h0 hj h6 h4 _ ih=>exact fun hp hl=>.pass h0 hj (ih hp hl) ⟨h6,fun h=>h4 h.1⟩
 refine Prod.ext (h.keep p hp) (zoP (h.tab.2 p).2 fun l hl=>⟨fun hb hn=>?_,fun hn=>zcz fun hb=>hn (h.snd p l hp hl hb)⟩)
 have:=(ze9 hc hp hl).2 (key hn hp hl)
 rw [hs p hp] at this
 rw [this] at hb;cases hb
def zpH (T:Tab):Nat:=(T.map (·.2)).sum
theorem zoS {T:Tab} {p:Nat} {v:Nat×Nat} (hp:p<T.length):zpH (T.set p v)+(tbl T p).2=zpH T+v.2:=by
 unfold zpH
 rw [List.map_set]
 have:=zh9 (l:=T.map (·.2)) (i:=p) (v:=v.2) (by simpa using hp)
 rw [←zaJ (by simpa using hp)] at this
 rw [←zfx hp]
 simpa using this
def zcd (c:DCode):Nat:=(plc zbz c.procs).toNat
inductive RootP (c:DCode):Nat→Prop
 | main:RootP c (zcd c)
 | spawn {r p q:Nat} (h0:RootP c r) (h1:FromP c r p) (h2:zk6 c p 5 q) (hq:q<c.procs.length):RootP c q
def UsedP (c:DCode) (p:Nat):Prop:=∃ r,RootP c r∧FromP c r p
theorem zeg {c:DCode} (hc:CodeR c):plc zbz c.procs=(zcd c:Int)∧zcd c<c.procs.length:=by
 have h:=zqj hc
 have h2:=hc.2.1.1
 unfold zcd
 omega
theorem RootP.lt {c:DCode} (hc:CodeR c) {r:Nat} (h:RootP c r):r<c.procs.length:=by
 cases h with
 | main=>exact (zeg hc).2
 | spawn _ _ _ hq=>exact hq
theorem UsedP.lt {c:DCode} (hc:CodeR c) {p:Nat} (h:UsedP c p):p<c.procs.length:=by
 obtain ⟨r,h1,h2⟩:=h
 exact h2.lt (h1.lt hc)
theorem RootP.used {c:DCode} {r:Nat} (h:RootP c r):UsedP c r:=⟨r,h,.inl rfl⟩
theorem UsedP.call {c:DCode} {p q:Nat} (h:UsedP c p) (hq:q<c.procs.length) (k:zk6 c p 4 q):UsedP c q:=by
 obtain ⟨r,h1,h2⟩:=h
 exact ⟨r,h1,h2.call hq k⟩
inductive LostM (c:DCode) (K G:Nat→Nat→Prop):Nat→Option Nat→Nat→Prop
 | root {p l:Nat} (h:RootP c p):LostM c K G p none l
 | call {p i l:Nat} (hu:UsedP c p) (h0:zay c p i) (ho:(zah c i).op=4) (h:LostM c K G p (some i) l):LostM c K G (agN c i) none l
 | ent {p l:Nat} (h:LostM c K G p none l):LostM c K G p (some (eN c p)) l
 | gen {p i j l:Nat} (h0:zay c p i) (hj:j∈zax c i) (h1:zrO c K G i l):LostM c K G p (some j) l
 | pass {p i j l:Nat} (h0:zay c p i) (hj:j∈zax c i) (h1:LostM c K G p (some i) l) (h2:zoR c G i l):LostM c K G p (some j) l
noncomputable def zmq (c:DCode) (p:Nat):Nat:=m6 fun l=>¬LostM c (tK (zbR c)) (tG (zbR c)) p none l
noncomputable def zq7 (c:DCode):List Nat:=(List.range c.procs.length).map (zmq c)
theorem zif (c:DCode):(zq7 c).length=c.procs.length:=by simp [zq7]
theorem znf {c:DCode} {p:Nat} (hp:p<c.procs.length):zaC (zq7 c) p=zmq c p:=by rw [←zaJ (by rw [zif];exact hp)];simp [zq7]
structure BI (c:DCode) (out:List Nat):Prop where
 len:out.length=c.procs.length
 lt:∀ x∈out,x<64
 snd:∀ p l,p<c.procs.length→l<6→(zaC out p).testBit l=false→LostM c (tK (zbR c)) (tG (zbR c)) p none l
 root:∀ p l,RootP c p→l<6→(zaC out p).testBit l=false
theorem BI.lt0 {c:DCode} {out:List Nat} (h:BI c out) (i:Nat):zaC out i<64:=by
 rcases Nat.lt_or_ge i out.length with hi | hi
 · exact h.lt _ (zia hi)
 unfold zaC;rw [List.getD_eq_getElem?_getD,List.getElem?_eq_none hi];simp
theorem zf0 {c:DCode} {T:Tab} {p h i l:Nat} (hi:i<c.ins.length) (hl:l<6):(zaC (zbM c T p h) i).testBit l=false↔LostP c (tK T) (tG T) p (fun l=>h.testBit l=true) i l:=by
 rw [zfZ hi]
 constructor
 · intro h
   refine Classical.byContradiction fun hn=>?_
   rw [zi3.2 ⟨hl,hn⟩] at h;cases h
 intro k
 cases e:(m6 fun l=>¬LostP c (tK T) (tG T) p (fun l=>h.testBit l=true) i l).testBit l
 · rfl
 exact absurd k (zi3.1 e).2
theorem BI.start {c:DCode} (hc:CodeR c) (out:List Nat) (hl:out.length=c.procs.length) (h:∀ p,p<c.procs.length→(RootP c p→zaC out p=0)∧(¬RootP c p→zaC out p=63)):BI c out:=by
 refine ⟨hl,fun x hx=>?_,fun p l hp h6 hb=>?_,fun p l hr h6=>?_⟩
 · obtain ⟨i,hi,rfl⟩:=List.getElem_of_mem hx
   rw [zaJ hi]
   have:=h i (by omega)
   by_cases hr:RootP c i
   · rw [this.1 hr];omega
   rw [this.2 hr];omega
 · by_cases hr:RootP c p
   · exact .root hr
   rw [(h p hp).2 hr,ze8 h6] at hb;cases hb
 rw [(h p (hr.lt hc)).1 hr];simp
theorem BI.lost {c:DCode} {out:List Nat} (h:BI c out) {p i l:Nat} (hp:p<c.procs.length) (hl:l<6) (k:LostP c (tK (zbR c)) (tG (zbR c)) p (fun l=>(zaC out p).testBit l=true) i l):LostM c (tK (zbR c)) (tG (zbR c)) p (some i) l:=by
 induction k with
 | ent h0=>exact .ent (h.snd p _ hp hl (by simpa using h0))
 | gen h0 hj h1=>exact .gen h0 hj h1
 | pass h0 hj _ h2 ih=>exact .pass h0 hj (ih hl) h2
theorem BI.upd {c:DCode} (hc:CodeR c) {out:List Nat} (h:BI c out) {p i:Nat} (hu:UsedP c p) (hi:zay c p i) (ho:(zah c i).op=4) :
   BI c (out.set (agN c i) (zaC out (agN c i) &&& zaC (zbM c (zbR c) p (zaC out p)) i)):=by
 have hp:=hu.lt hc
 have hil:=(za2 hc (by rw [hc.2.1.1];exact hp) hi).1
 have hq:=(zbv hc hil (.inl ho)).2
 refine ⟨by simp [h.len],fun x hx=>?_,fun r l hr hl hb=>?_,fun r l hr hl=>?_⟩
 · rcases zgy hx with rfl | hx
   · exact Nat.lt_of_le_of_lt Nat.and_le_left (h.lt0 _)
   exact h.lt x hx
 · rw [zbr (by rw [h.len];exact hq)] at hb
   split at hb
   · rename_i e
     subst e
     rw [Nat.testBit_and,Bool.and_eq_false_iff] at hb
     rcases hb with hb | hb
     · exact h.snd _ l hr hl hb
     refine .call hu hi ho ?_
     exact h.lost hp hl ((zf0 hil hl).1 hb)
   exact h.snd r l hr hl hb
 rw [zbr (by rw [h.len];exact hq)]
 split
 · rename_i e
   rw [Nat.testBit_and,e,h.root r l hr hl];rfl
 exact h.root r l hr hl
theorem BI.fin {c:DCode} (hc:CodeR c) {out:List Nat} (h:BI c out) (hs:∀ p i,UsedP c p→zay c p i→(zah c i).op=4→zaC out (agN c i) &&& zaC (zbM c (zbR c) p (zaC out p)) i=zaC out (agN c i)):out=zq7 c:=by
 refine List.ext_getElem (by rw [h.len,zif]) fun p h1 h2=>?_
 have hp:p<c.procs.length:=by rw [←h.len];exact h1
 rw [zaJ h1,zaJ h2,znf hp]
 have key:∀ {p:Nat} {o:Option Nat} {l:Nat},LostM c (tK (zbR c)) (tG (zbR c)) p o l→l<6→match o with
     | none=>(zaC out p).testBit l=false
     | some i=>LostP c (tK (zbR c)) (tG (zbR c)) p (fun l=>(zaC out p).testBit l=true) i l:=fun {p o l} k=>by
   induction k with
   | root hr=>exact fun hl=>h.root _ _ hr hl
   | @call p i l hu h0 ho _ ih=>
     intro hl
     have hil:=(za2 hc (by rw [hc.2.1.1];exact hu.lt hc) h0).1
     simp only
     rw [←hs p i hu h0 ho,Nat.testBit_and,(zf0 hil hl).2 (ih hl),Bool.and_false]
   | ent _ ih=>exact fun hl=>.ent (by have:=ih hl;simp only at this;rw [this];simp)
   | gen h0 hj h1=>exact fun hl=>.gen h0 hj h1
   | pass h0 hj _ h2 ih=>exact fun hl=>.pass h0 hj (ih hl) h2
 refine zoP (h.lt0 p) fun l hl=>⟨fun hb hn=>?_,fun hn=>zcz fun hb=>hn (h.snd p l hp hl hb)⟩
 have:=key hn hl
 simp only at this
 rw [this] at hb;cases hb
noncomputable def zdV (c:DCode) (i:Nat):Nat:=@ite _ (UsedP c (zap c i).toNat) (Classical.propDecidable _) (zaC (zbM c (zbR c) (zap c i).toNat (zmq c (zap c i).toNat)) i) 63
noncomputable def zdK (c:DCode):List Nat:=(List.range c.ins.length).map (zdV c)
theorem zgF (c:DCode):(zdK c).length=c.ins.length:=by simp [zdK]
theorem zk9 {c:DCode} {i:Nat} (hi:i<c.ins.length):zaC (zdK c) i=zdV c i:=by rw [←zaJ (by rw [zgF];exact hi)];simp [zdK]
theorem zeF {l:List Nat} (h:∀ x∈l,x<64) (i:Nat):zaC l i<64:=by
 rcases Nat.lt_or_ge i l.length with hi | hi
 · exact h _ (zia hi)
 unfold zaC;rw [List.getD_eq_getElem?_getD,List.getElem?_eq_none hi];simp
theorem zng (c:DCode) (i:Nat):zdV c i<64:=by
 unfold zdV
 split
 · exact zeF zic i
 omega
theorem zf1 (c:DCode):∀ x∈zdK c,x<64:=fun x hx=>by
 obtain ⟨i,_,rfl⟩:=List.mem_map.1 hx
 exact zng c i
theorem zgG {c:DCode} {i p:Nat} (hp:zap c i=p) (hu:UsedP c p):zdV c i=zaC (zbM c (zbR c) p (zmq c p)) i:=by
 unfold zdV
 rw [hp,Int.toNat_natCast,if_pos hu]
theorem zlU {c:DCode} {i p:Nat} (hp:zap c i=p) (hu:¬UsedP c p):zdV c i=63:=by
 unfold zdV
 rw [hp,Int.toNat_natCast,if_neg hu]
inductive MetP (c:DCode):Nat→Prop
 | root {p:Nat} (h:RootP c p):MetP c (eN c p)
 | call {i:Nat} (h:MetP c i) (ho:(zah c i).op=4):MetP c (eN c (agN c i))
 | next {i j:Nat} (h:MetP c i) (ho:¬(zah c i).op=4) (hj:j∈zax c i):MetP c j
 | back {i j:Nat} (h:MetP c i) (ho:(zah c i).op=4) (hz:MetP c (zN c (agN c i))) (hj:j∈zax c i):MetP c j
theorem MetP.lt {c:DCode} (hc:CodeR c) {i:Nat} (h:MetP c i):i<c.ins.length:=by
 induction h with
 | root h=>exact (zfR hc (by rw [hc.2.1.1];exact h.lt hc)).2.1
 | call _ ho ih=>exact (zfR hc (by rw [hc.2.1.1];exact (zbv hc ih (.inl ho)).2)).2.1
 | next _ _ hj ih=>exact (zb5 hc ih hj).1
 | back _ _ _ hj ih _=>exact (zb5 hc ih hj).1
noncomputable def zq8 (c:DCode):List Bool:=ze3 c.ins.length (MetP c)
structure MetC (c:DCode) (M:Nat→Prop):Prop where
 root:∀ p,RootP c p→M (eN c p)
 call:∀ i,M i→(zah c i).op=4→M (eN c (agN c i))
 next:∀ i j,M i→¬(zah c i).op=4→j∈zax c i→M j
 back:∀ i j,M i→(zah c i).op=4→M (zN c (agN c i))→j∈zax c i→M j
theorem MetC.all {c:DCode} {M:Nat→Prop} (h:MetC c M) {i:Nat} (k:MetP c i):M i:=by
 induction k with
 | root h1=>exact h.root _ h1
 | call _ ho ih=>exact h.call _ ih ho
 | next _ ho hj ih=>exact h.next _ _ ih ho hj
 | back _ ho _ hj ih1 ih2=>exact h.back _ _ ih1 ho ih2 hj
def F230 (a0 a1 a2:Value) (w:World) (R:VW):Prop:=
 oP (Instr.box 84 a0) w fun x3 w=>
 rF 84 x3 0 w fun x7=>
 rL 3 x7 w fun x8=>
 rB .eql 3 T0 U0 x8 (iV 6) w fun x10=>
 BR x10
 (rF 84 x3 1 w fun x12=>
 rL 3 x12 w fun x13=>
 rD (convert 3 105 x13) w fun x14=>
 rB .shl 3 U0 T0 (iV 1) x14 w fun x15=>
 rB .or 3 T0 T0 a2 x15 w fun x16=>
 R x16 w)
 (rB .eql 3 T0 U0 x8 (iV 7) w fun x18=>
 BR x18
 (rF 84 x3 1 w fun x20=>
 rL 3 x20 w fun x21=>
 rD (convert 3 105 x21) w fun x22=>
 rB .shl 3 U0 T0 (iV 1) x22 w fun x23=>
 rB .andNot 3 T0 T0 a2 x23 w fun x24=>
 R x24 w)
 (rB .eql 3 T0 U0 x8 (iV 4) w fun x26=>
 BR x26
 ((fun w=>rF 84 x3 1 w fun x29=>
 rL 3 x29 w fun x30=>
 rX 172 a1 x30 w fun x31=>
 rF 244 x31 0 w fun x32=>
 rL 3 x32 w fun x33=>
 rB .and 3 T0 T0 a2 x33 w fun x34=>
 rF 84 x3 1 w fun x36=>
 rL 3 x36 w fun x37=>
 rX 172 a1 x37 w fun x38=>
 rF 244 x38 1 w fun x39=>
 rL 3 x39 w fun x40=>
 rB .or 3 T0 T0 x34 x40 w fun x41=>
 R x41 w) (World.drew1 w))
 (R a2 w)))
def cfg230:Cfg:=⟨extL,[],[],[(7,[0,1,2,3,4,5,6,7,8,9,10,11,12,13,14,15],0)],[],[],[]⟩
theorem F230_call {a0 a1 a2:Value} {w:World} {R:VW} (h:F230 a0 a1 a2 w R):cL 230 [a0,a1,a2] w R:=co (g:=cfg230) Tryz.func230 (by kernel_rfl) (by kernel_rfl) (by kernel_rfl) h
open Rep (rep)
structure DEffect where
 keep:Int
 gen:Int
theorem DEffect.ext_iff {x y:DEffect}:x=y↔(x.keep=y.keep∧x.gen=y.gen):=⟨fun h=>by rw [h];exact ⟨rfl,rfl⟩,fun h=>by obtain ⟨h0,h1⟩:=h;cases x;cases y;simp only at h0 h1;simp only [h0,h1]⟩
instance:DecidableEq DEffect:=fun x y=>decidable_of_iff (x.keep=y.keep∧x.gen=y.gen) DEffect.ext_iff.symm
instance:Rep DEffect:=Rep.via fun x=>(x.keep,x.gen)
theorem zi4 {w:World} {b o:Nat} {x:DEffect} (h:At w b o x):At w b (o+0) x.keep:=zbE (α:=Int) (β:=Int) (p:=(x.keep,x.gen)) h
theorem zfN {w:World} {b o:Nat} {x:DEffect} (h:At w b o x):At w b (o+1) x.gen:=zaL (α:=Int) (β:=Int) (p:=(x.keep,x.gen)) h
instance:RepZ DEffect:=⟨⟨(RepZ.zv:Int),(RepZ.zv:Int)⟩,RepZ.zc (Int×Int),fun w=>RepZ.zr (α:=Int×Int) w⟩
theorem zha {γ:Type} {H:List Nat→World→γ→Prop} {F:List Nat} {w:World} {b o:Nat} {G:List Nat} {x:DEffect} {upd:DEffect→γ} (h:Lens H F w b o G x upd) :
   ∃ G1,Lens H F w b (o+1) G1 x.gen (fun y=>upd ⟨x.keep,y⟩):=by
 have h':Lens H F w b o G (x.keep,x.gen) (fun p:Int×Int=>upd ⟨p.1,p.2⟩):=⟨h.here,h.sub,fun w' G' y' hc hO hs=>h.back w' G' _ hc hO hs⟩
 obtain ⟨G0,h'⟩:=h'.snd
 exact ⟨_,h'⟩
theorem zlV {w:World} {x:DEffect} (h_keep:I64 x.keep) (h_gen:I64 x.gen):Mine [] w (.agg #[.int .i64 x.keep,.int .i64 x.gen]) x:=⟨⟨[.int .i64 x.keep,.int .i64 x.gen],⟨[],[],[.int .i64 x.keep],[.int .i64 x.gen],rfl,rfl,⟨rfl,rfl,h_keep⟩,⟨rfl,rfl,h_gen⟩⟩,rfl⟩,List.nodup_nil,Wr.nil w⟩
instance:Flat DEffect:=⟨fun h=>Flat.flat (α:=Int×Int) h⟩
def zoT (x:Nat×Nat):DEffect:=⟨(x.1:Int),(x.2:Int)⟩
def zf2 (T:Tab):List DEffect:=T.map zoT
theorem zeh (T:Tab):(zf2 T).length=T.length:=by simp [zf2]
theorem zf3 {T:Tab} {q:Nat} (h:q<(zf2 T).length):(zf2 T)[q]=zoT (tbl T q):=by
 have h':q<T.length:=by rw [←zeh];exact h
 rw [←zfx h'];simp [zf2]
theorem zoU (T:Tab) (q:Nat) (v:Nat×Nat):zf2 (T.set q v)=(zf2 T).set q (zoT v):=by simp [zf2,List.map_set]
theorem zj9 {n:Nat} (h:n<6):2^n<64:=Nat.pow_lt_pow_right (n:=6) (by omega) h
theorem FL.updM {c:DCode} {T:Tab} {p h m:Nat} {out:List Nat} (hF:FL c T p h out) (hc:CodeR c) (hp:p<c.entry.length) {i j:Nat} (hi:zay c p i) (hj:j∈zax c i)
   (hm:∀ l,l<6→m.testBit l=false→LostP c (tK T) (tG T) p (fun l=>h.testBit l=true) i l):FL c T p h (out.set j (zaC out j &&& aft c T i m)):=by
 have hil:=(za2 hc hp hi).1
 have hjl:=(zb5 hc hil hj).1
 refine ⟨by simp [hF.len],fun x hx=>?_,fun k l hk hl hb=>?_,fun l hl hb=>?_⟩
 · rcases zgy hx with rfl | hx
   · exact Nat.lt_of_le_of_lt Nat.and_le_left (hF.lt0 j)
   exact hF.lt x hx
 · rw [zbr (by rw [hF.len];exact hjl)] at hb
   split at hb
   · rename_i e
     subst e
     rw [Nat.testBit_and,Bool.and_eq_false_iff] at hb
     rcases hb with hb | hb
     · exact hF.snd j l hk hl hb
     rcases zib.1 hb with h1 | ⟨h1,h2⟩
     · exact .gen hi hj h1
     exact .pass hi hj (hm l hl h2) h1
   exact hF.snd k l hk hl hb
 rw [zbr (by rw [hF.len];exact hjl)]
 split
 · rename_i e
   rw [Nat.testBit_and,e,hF.ent l hl hb];rfl
 exact hF.ent l hl hb
theorem znh {w W0 W1:World} {v0 v1:Value} {c:DCode} {T:Tab} {i m:Nat} (h0:Is W0 v0 (zah c i)) (e0:Ext W0 w) (h1:Is W1 v1 (zf2 T)) (e1:Ext W1 w) (hc:CodeR c) (hT:zpF c T) (hi:i<c.ins.length) (hm:m<64) :
   CALL Tryz.prog 230 [v0,v1,.int .i64 (m:Int)] w fun r w'=>Ext w w'∧r=.int .i64 (aft c T i m:Nat):=by
 refine F230_call ?_
 unfold F230
 refine zdE h0 e0 fun w1 hx1 hA=>?_
 have hag4:=fun h=>zbv hc hi (.inl h)
 have hag6:=fun h=>zj8 hc hi h
 have h8:=hc.1.procs8
 have haft:aft c T i m=if (zah c i).op=6 then m ||| 2^agN c i else if (zah c i).op=7 then zmp m (2^agN c i) else if (zah c i).op=4 then (m &&& (tbl T (agN c i)).1) ||| (tbl T (agN c i)).2 else m:=rfl
 rw [haft]
 clear haft
 generalize agN c i=q at *
 generalize zah c i=I at *
 refine zaa zbK ?_
 refine zac ty3 (zaG hA) (Ext.refl _) fun _=>?_
 refine zai ?_
 refine br (fun c6=>?_) (fun c6=>?_)
 · obtain ⟨ha,_,hq⟩:=hag6 (.inl c6)
   have hp:=zj9 hq
   rw [if_pos c6]
   refine zaa zcl ?_
   refine zac ty3 (zaQ hA) (Ext.refl _) fun _=>?_
   rw [ha]
   refine zcD (by kernel_rfl) zmI (by omega) ?_
   refine zdp (by omega) ?_
   refine zhR (by omega) (by omega) ?_
   exact ⟨hx1,rfl⟩
 rw [if_neg c6]
 refine zai ?_
 refine br (fun c7=>?_) (fun c7=>?_)
 · obtain ⟨ha,_,hq⟩:=hag6 (.inr c7)
   have hp:=zj9 hq
   rw [if_pos c7]
   refine zaa zcl ?_
   refine zac ty3 (zaQ hA) (Ext.refl _) fun _=>?_
   rw [ha]
   refine zcD (by kernel_rfl) zmI (by omega) ?_
   refine zdp (by omega) ?_
   refine zgD (by omega) (by omega) ?_
   exact ⟨hx1,rfl⟩
 rw [if_neg c7]
 refine zai ?_
 refine br (fun c4=>?_) (fun c4=>?_)
 · obtain ⟨ha,hq⟩:=hag4 c4
   rw [if_pos c4]
   have hx2:=zao w1
   generalize World.drew1 w1=w2 at *
   have hql:q<(zf2 T).length:=by rw [zeh,hT.1];exact hq
   have hr:=hT.2 q
   have hx12:=hx1.trans hx2
   refine zaa zcl ?_
   refine zac ty3 (zaQ hA) hx2 fun _=>?_
   rw [ha]
   refine zad zq6 zmL h1 hql fun b1 o1 hE=>?_
   rw [zf3] at hE
   refine zaa zqe ?_
   refine zac ty3 (zi4 hE) (e1.trans hx12) fun _=>?_
   refine ze6 (n:=(tbl T q).1) (by omega) (by omega) ?_
   refine zaa zcl ?_
   refine zac ty3 (zaQ hA) hx2 fun _=>?_
   rw [ha]
   refine zad zq6 zmL h1 hql fun b2 o2 hE2=>?_
   rw [zf3] at hE2
   refine zaa zjS ?_
   refine zac ty3 (zfN hE2) (e1.trans hx12) fun _=>?_
   have:=Nat.and_le_left (n:=m) (m:=(tbl T q).1)
   refine zhR (n:=(tbl T q).2) (by omega) (by omega) ?_
   exact ⟨hx12,rfl⟩
 rw [if_neg c4]
 exact ⟨hx1,rfl⟩
def F183 (a0 a1:Value) (w:World) (R:VW):Prop:=
 NIL a0 <|
 rF 92 a0 0 w fun x9=>
 rF 36 x9 3 w fun x10=>
 rL 33 x10 w fun x11=>
 rX 33 x11 a1 w fun x13=>
 rL 3 x13 w fun x14=>
 LOOPI [5,6] [(Value.slice none 0 0),x14] w fun u3 w next3=>
 NIL a0 <|
 rF 92 a0 0 w fun x18=>
 rL 36 x18 w fun x19=>
 cL 119 [x19,a1] w fun x21 w=>
 rC (u3 6) x21 w fun x22=>
 BR x22
 (NIL a0 <|
 rF 92 a0 1 w fun x27=>
 rL 90 x27 w fun x28=>
 rX 90 x28 (u3 6) w fun x30=>
 rL 4 x30 w fun x31=>
 BR x31
 (oP (Instr.buildSlice 33 1 #[(0,(u3 6))]) w fun x34 w=>
 oP (Builtin.append_ #[33,33] 33 [(u3 5),x34].toArray) w fun x35 w=>
 rA (u3 6) (iV 1) w fun x24=>
 next3 [x35,x24] w)
 (rA (u3 6) (iV 1) w fun x24=>
 next3 [(u3 5),x24] w))
 (R (u3 5) w)
def cfg183:Cfg:=⟨extL,[],[(3,68719444064,[5,6])],[],[],[],[]⟩
theorem F183_call {a0 a1:Value} {w:World} {R:VW} (h:F183 a0 a1 w R):cL 183 [a0,a1] w R:=co (g:=cfg183) Tryz.func183 (by kernel_rfl) (by kernel_rfl) (by kernel_rfl) h
def F151 (a0 a1 a2 a3:Value) (w:World) (R:VW):Prop:=
 NIL a0 <|
 rF 92 a0 0 w fun x20=>
 rF 36 x20 4 w fun x21=>
 rL 34 x21 w fun x22=>
 rN 34 3 x22 w fun x23=>
 oP (Instr.makeSlice 33 x23 x23) w fun x24 w=>
 rN 33 3 x24 w fun x26=>
 LOOPI [27] [(iV 0)] w fun u3 w next3=>
 rC (u3 27) x26 w fun x28=>
 BR x28
 (rX 33 x24 (u3 27) w fun x32=>
 oS 3 x32 (iV 63) w fun w=>
 rA (u3 27) (iV 1) w fun x33=>
 next3 [x33] w)
 (NIL a0 <|
 rF 92 a0 0 w fun x37=>
 rF 36 x37 3 w fun x38=>
 rL 33 x38 w fun x39=>
 rX 33 x39 a2 w fun x41=>
 rL 3 x41 w fun x42=>
 rX 33 x24 x42 w fun x44=>
 oS 3 x44 a3 w fun w=>
 cL 183 [a0,a2] w fun x47 w=>
 LOOPI [12] [(Value.bool true)] w fun u10 w next10=>
 BR (u10 12)
 (rN 33 3 x47 w fun x50=>
 LOOPI [12,51] [(Value.bool false),(iV 0)] w fun u13 w next13=>
 rC (u13 51) x50 w fun x52=>
 BR x52
 (rX 33 x47 (u13 51) w fun x53=>
 rL 3 x53 w fun x54=>
 (fun w=>NIL a0 <|
 rF 92 a0 0 w fun x57=>
 rF 36 x57 4 w fun x58=>
 rL 34 x58 w fun x59=>
 rX 34 x59 x54 w fun x61=>
 rL 84 x61 w fun x62=>
 rX 33 x24 x54 w fun x66=>
 rL 3 x66 w fun x67=>
 cL 230 [x62,a1,x67] w fun x68 w=>
 cL 153 [a0,x54] w fun x71 w=>
 rN 33 3 x71 w fun x72=>
 LOOPI [12,73] [(u13 12),(iV 0)] w fun u17 w next17=>
 rC (u17 73) x72 w fun x74=>
 BR x74
 (rX 33 x71 (u17 73) w fun x75=>
 rL 3 x75 w fun x76=>
 (fun w=>rX 33 x24 x76 w fun x79=>
 rL 3 x79 w fun x80=>
 rB .and 3 T0 T0 x80 x68 w fun x82=>
 rX 33 x24 x76 w fun x85=>
 rL 3 x85 w fun x86=>
 rB .neq 3 T0 T0 x82 x86 w fun x87=>
 BR x87
 (rX 33 x24 x76 w fun x90=>
 rL 3 x90 w fun x91=>
 rB .and 3 T0 T0 x91 x68 w fun x93=>
 rX 33 x24 x76 w fun x94=>
 oS 3 x94 x93 w fun w=>
 rA (u17 73) (iV 1) w fun x95=>
 next17 [(Value.bool true),x95] w)
 (rA (u17 73) (iV 1) w fun x95=>
 next17 [(u17 12),x95] w)) (World.drew1 w))
 (rA (u13 51) (iV 1) w fun x96=>
 next13 [(u17 12),x96] w)) (World.drew1 w))
 (next10 [(u13 12)] w))
 (R x24 w))
def cfg151:Cfg:=⟨extL,[],[(3,17045652480,[27]),(10,158456325028528393712111374336,[12]),(13,158456325028526423387274399744,[12,51]),(17,79228153069531371854253658112,[12,73])],[(15,[0,1,2,3,4,5,6,7,8,9,10,11,12,13,14],0),(19,[0,1,2,3,4,5,6,7,8,9,10],0)],[],[],[]⟩
theorem F151_call {a0 a1 a2 a3:Value} {w:World} {R:VW} (h:F151 a0 a1 a2 a3 w R):cL 151 [a0,a1,a2,a3] w R:=co (g:=cfg151) Tryz.func151 (by kernel_rfl) (by kernel_rfl) (by kernel_rfl) h
open Rep (rep)
def zc1 (c:DCode) (i:Nat):Prop:=∃ p,p<c.procs.length∧zay c p i
structure WL (W0:World) (b:Nat) (c:DCode):Prop where
 code:At W0 b 0 c
 live:At W0 b (0+5) (ze3 c.ins.length (zc1 c))
theorem zi5 {n m:Nat} {p:Nat→Prop} (h:n≤m) (hp:∀ i,n≤i→i<m→¬p i):zbh m p=zbh n p:=by
 induction m with
 | zero=>(have:n=0:=by omega);subst this;rfl
 | succ m ih=>
   by_cases e:n=m+1
   · rw [e]
   rw [zfv (hp m (by omega) (by omega)),ih (by omega) fun i h1 h2=>hp i h1 (by omega)]
theorem zdW {w W0:World} {b p:Nat} {c:DCode} (hW:WL W0 b c) (e0:Ext W0 w) (hc:CodeR c) (hp:p<c.procs.length) :
   CALL Tryz.prog 183 [.pointer (some ⟨b,0,none⟩),.int .i64 (p:Int)] w fun r w'=>Ext w w'∧Own w.heap.size w' r (zaZ (zbh c.ins.length (zay c p))):=by
 refine F183_call ?_
 unfold F183
 have hpe:p<c.entry.length:=by rw [hc.2.1.1];exact hp
 have hil:=hc.f.ins
 have h8:=hc.1.procs8
 obtain ⟨he1,he2,he3⟩:=zfR hc hpe
 obtain ⟨hz1,hz2,hz3⟩:=zj7 hc hpe
 have hlv:∀ i,zay c p i→eN c p≤i∧i≤zN c p:=fun i h=>by
   have:=za2 hc hpe h
   exact znb hc this.1 hpe this.2
 refine NIL.mk rfl ?_
 refine zaa zaU ?_
 refine zaa zbJ ?_
 refine zab zeL (zaD hW.code) e0 fun v11 h11=>?_
 refine zad u33 ty3 h11 hpe fun b1 o1 hA1=>?_
 rw [zcH hpe,he1] at hA1
 refine zac ty3 hA1 e0 fun _=>?_
 generalize hE:eN c p=E at *
 generalize hZ:zN c p=Z at *
 have h0:zbh E (zay c p)=[]:=by
   rw [zi5 (n:=0) (Nat.zero_le _) fun i _ h2 h3=>by have:=hlv i h3;omega];rfl
 refine zaE (Z+1-E) (fun k us w'=>∃ (v:Value),us=[v,.int .i64 ((E+k:Nat):Int)]∧E+k≤Z+1∧Ext w w'∧RowI w.heap.size w'.heap.size 3 w' v (zaZ (zbh (E+k) (zay c p)))) 0 (Nat.zero_le _) ⟨_,rfl,by omega,Ext.refl _,by rw [Nat.add_zero,h0];exact zb2 _ _ _ _⟩ ?_
 rintro k mk u w2 hkm ⟨v,hu,hkl,hx2,hr2⟩
 obtain ⟨hu1,hu2⟩:=zey hu
 rw [hu1,hu2]
 have hx02:=e0.trans hx2
 have hs2:=hx2.size
 refine NIL.mk rfl ?_
 refine zaa zaU ?_
 refine zab zfm hW.code hx02 fun v19 h19=>?_
 refine (zca h19 hx02 (by omega)).mono ?_
 rintro _ w3 ⟨hx3,rfl⟩
 rw [hz1]
 have hx03:=hx02.trans hx3
 refine zal ?_
 refine br (fun hlt=>?_) (fun hge=>?_)
 case refine_2=>
   have hk:E+k=Z+1:=by omega
   refine ⟨hx2.trans hx3,?_⟩
   rw [zi5 (n:=Z+1) (by omega) fun i h1 _ h3=>by have:=hlv i h3;omega,←hk]
   exact (hr2.ext hx3).own.own
 have hk:E+k<c.ins.length:=by omega
 refine NIL.mk rfl ?_
 refine zaa zkS ?_
 refine zab zmG hW.live hx03 fun v28 h28=>?_
 refine zad u90 ty4 (i:=E+k) h28 (by rw [zbp];exact hk) fun b2 o2 hA2=>?_
 refine zb1 ty4 hA2 hx03 ?_
 have hmk:=zdw (n:=c.ins.length) (p:=zc1 c) (i:=E+k)
 rw [zcg (by rw [zbp];exact hk)] at hmk
 have hiff:zc1 c (E+k)↔zay c p (E+k):=by
   constructor
   · rintro ⟨q,hq,hl⟩
     have h1:=za2 hc (by rw [hc.2.1.1];exact hq) hl
     have h2:=znc hc (p:=p) (i:=E+k) hpe (by omega) (by omega)
     have:q=p:=by omega
     rwa [this] at hl
   exact fun h=>⟨p,hp,h⟩
 have hsl:=zbb (n:=E+k) (p:=zay c p)
 refine zbQ (fun hf=>?_) (fun hf=>?_)
 · refine zdt (lo2:=w3.heap.size) (hi2:=w3.heap.size) (x:=((E+k:Nat):Int)) u33 ty3 z3 zc3 (by decide) (hr2.ext hx3) (by have:=hx3.size;omega) (ze5 _ _ (by unfold I64;omega)) (by have:=hx3.size;omega) (by have:=hx3.size;omega) (by rw [zak,zae];omega) (by rw [zae];omega) fun v54 w9 hc9 hr9=>?_
   refine zag (by omega) ?_
   refine ⟨mk-1,by omega,k+1,by omega,v54,rfl,by omega,(hx2.trans hx3).chgI hc9 (by omega),?_⟩
   rw [←Nat.add_assoc,zfY (hiff.1 (hmk.1 hf).2),zcI]
   exact hr9
 refine zag (by omega) ?_
 refine ⟨mk-1,by omega,k+1,by omega,v,rfl,by omega,hx2.trans hx3,?_⟩
 rw [←Nat.add_assoc,zfv fun h=>by rw [hmk.2 ⟨hk,hiff.2 h⟩] at hf;cases hf]
 exact (hr2.ext hx3).mono (Nat.le_refl _) hx3.size
theorem zdy {w:World} {n:Nat} {K:Value→World→Prop} (h0:0<n) (hn:n≤1000000)
   (k:∀ w',Ext w w'→Mine [w.heap.size] w' (.slice (some ⟨w.heap.size,0,none⟩) n n) (zaZ (List.replicate n 0))→K (.slice (some ⟨w.heap.size,0,none⟩) n n) w'):OP Tryz.prog (Instr.makeSlice 33 (.int .i64 (n:Int)) (.int .i64 (n:Int))) w K:=
 zk3 (α:=Int) u33 ty3 rfl rfl zsi (by omega) (by omega) fun w2 hx2 hr2=>by
   refine k w2 hx2 ?_
   obtain ⟨F,hM,hF⟩:=hr2.own
   obtain ⟨b,o,cap,hv,hF2⟩:=ze4 hM (by intro e;have:=congrArg List.length e;simp at this;omega)
   simp only [Value.slice.injEq,Option.some.injEq,Addr.mk.injEq,List.cons.injEq,and_true] at hv
   obtain ⟨⟨hb,ho⟩,_⟩:=hv
   rw [←hb] at hF2
   rw [hF2] at hM
   have e:zaZ (List.replicate n 0)=List.replicate n (RepZ.zv:Int):=by simp only [zaZ,List.map_replicate];rfl
   rw [e];exact hM
theorem zig {P:Program} {w:World} {K:Value→Prop} {t ty e:TypeId} {a:Option Addr} {n c:Nat} (ht:P.underlying t=some (.slice e)) (k:K (.int .i64 (n:Int))) :
   RD P (Builtin.len_ #[t] ty [Value.slice a n c].toArray) w K:=zaF (fun w' _=>by simp [Builtin.len_,run_underlying ht];rfl) k
structure FW (w1 w:World) (g n:Nat) (out:List Nat):Prop where
 ext:Ext w1 w
 mine:Mine [g] w (.slice (some ⟨g,0,none⟩) n n) (zaZ out)
 g0:w1.heap.size≤g
section
variable {w1 w w':World} {g n:Nat} {out:List Nat}
theorem FW.step (h:FW w1 w g n out) (hx:Ext w w'):FW w1 w' g n out:=⟨h.ext.trans hx,h.mine.ext hx,h.g0⟩
theorem zfy (hc:Chg [g] w w'):ChgI g (g+1) w w':=hc.toI fun b hb=>by simp only [List.mem_cons,List.not_mem_nil,or_false] at hb;omega
theorem FW.set {i v:Nat} (h:FW w1 w g n out) (hc:Chg [g] w w') (hm:Mine [g] w' (.slice (some ⟨g,0,none⟩) n n) ((zaZ out).set i (v:Int))):FW w1 w' g n (out.set i v):=
 ⟨h.ext.chgI (zfy hc) h.g0,by rw [ze7];exact hm,h.g0⟩
theorem FW.lt (h:FW w1 w g n out):g<w.heap.size:=h.mine.lt g (by simp)
theorem FW.own (h:FW w1 w g n out):Own w1.heap.size w (.slice (some ⟨g,0,none⟩) n n) (zaZ out):=⟨[g],h.mine,fun b hb=>by simp only [List.mem_cons,List.not_mem_nil,or_false] at hb;have:=h.g0;omega⟩
end
theorem zbF {w:World} {v:Nat} (h:v<9223372036854775808):Mine [] w (.int .i64 (v:Int)) (v:Int):=zcR (by unfold I64;omega)
def fil (n k:Nat):List Nat:=List.replicate k 63++List.replicate (n-k) 0
theorem zni {n k:Nat} (h:k≤n):(fil n k).length=n:=by simp [fil];omega
theorem znj {n k:Nat} (h:k<n):(fil n k).set k 63=fil n (k+1):=by
 obtain ⟨m,hm⟩:∃ m,n-k=m+1:=⟨n-k-1,by omega⟩
 unfold fil
 rw [List.set_append_right _ _ (by simp),hm,List.length_replicate,Nat.sub_self,List.replicate_succ,List.set_cons_zero,List.replicate_succ',show n-(k+1)=m by omega]
 simp
theorem zla (n:Nat):fil n n=List.replicate n 63:=by simp [fil]
structure FP (c:DCode) (T:Tab) (p h:Nat) (out0 L:List Nat) (k:Nat) (ag:Bool) (out:List Nat):Prop where
 fl:FL c T p h out
 yes:ag=true→out.sum<out0.sum
 no:ag=false→out=out0∧∀ i∈L.take k,zrP c T out0 i
structure FQ (c:DCode) (T:Tab) (p h:Nat) (out0 L:List Nat) (k i q:Nat) (ag:Bool) (out:List Nat):Prop where
 fl:FL c T p h out
 yes:ag=true→out.sum<out0.sum
 no:ag=false→out=out0∧(∀ i∈L.take k,zrP c T out0 i)∧∀ j∈(zax c i).take q,zaC out0 j &&& aft c T i (zaC out0 i)=zaC out0 j
section
variable {c:DCode} {T:Tab} {p h k i q m:Nat} {out0 L out:List Nat} {ag:Bool}
theorem FP.enter (H:FP c T p h out0 L k ag out) (i:Nat):FQ c T p h out0 L k i 0 ag out:=⟨H.fl,H.yes,fun e=>⟨(H.no e).1,(H.no e).2,by simp⟩⟩
theorem FQ.set (H:FQ c T p h out0 L k i q ag out) (hc:CodeR c) (hp:p<c.entry.length) (hi:zay c p i) (hq:q<(zax c i).length) (hm:∀ l,l<6→m.testBit l=false→LostP c (tK T) (tG T) p (fun l=>h.testBit l=true) i l)
   (hne:zaC out (zax c i)[q] &&& aft c T i m≠zaC out (zax c i)[q]):FQ c T p h out0 L k i (q+1) true (out.set (zax c i)[q] (zaC out (zax c i)[q] &&& aft c T i m)):=by
 have hj:=List.getElem_mem hq
 have hjl:=(zb5 hc (za2 hc hp hi).1 hj).1
 refine ⟨H.fl.updM hc hp hi hj hm,fun _=>?_,fun e=>by cases e⟩
 have h1:=zh9 (l:=out) (i:=(zax c i)[q]) (v:=zaC out (zax c i)[q] &&& aft c T i m) (by rw [H.fl.len];exact hjl)
 have h2:=zpG hne
 cases ag with
 | true=>have:=H.yes rfl;omega
 | false=>rw [(H.no rfl).1] at h1 h2 ⊢;omega
theorem FQ.skip (H:FQ c T p h out0 L k i q ag out) (hq:q<(zax c i).length) (hz:ag=false→m=zaC out0 i) (he:zaC out (zax c i)[q] &&& aft c T i m=zaC out (zax c i)[q]):FQ c T p h out0 L k i (q+1) ag out:=by
 refine ⟨H.fl,H.yes,fun e=>⟨(H.no e).1,(H.no e).2.1,fun j hj=>?_⟩⟩
 rw [List.take_succ_eq_append_getElem hq] at hj
 rcases List.mem_append.1 hj with hj | hj
 · exact (H.no e).2.2 j hj
 simp only [List.mem_cons,List.not_mem_nil,or_false] at hj
 rw [(H.no e).1,hz e] at he
 rw [hj];exact he
theorem FQ.done (H:FQ c T p h out0 L k i q ag out) (hk:k<L.length) (hi:L[k]=i) (hq:(zax c i).length≤q):FP c T p h out0 L (k+1) ag out:=by
 refine ⟨H.fl,H.yes,fun e=>⟨(H.no e).1,fun i' hi'=>?_⟩⟩
 rw [List.take_succ_eq_append_getElem hk] at hi'
 rcases List.mem_append.1 hi' with h1 | h1
 · exact (H.no e).2.1 i' h1
 simp only [List.mem_cons,List.not_mem_nil,or_false] at h1
 rw [h1,hi]
 have:=(H.no e).2.2
 rw [List.take_of_length_le hq] at this
 exact this
end
theorem zka {w W0 W1:World} {b p h:Nat} {v1:Value} {c:DCode} {T:Tab} (hW:WL W0 b c) (e0:Ext W0 w) (h1:Is W1 v1 (zf2 T)) (e1:Ext W1 w) (hc:CodeR c) (hT:zpF c T) (hp:p<c.procs.length) (hh:h<64) :
   CALL Tryz.prog 151 [.pointer (some ⟨b,0,none⟩),v1,.int .i64 (p:Int),.int .i64 (h:Int)] w fun r w'=>Ext w w'∧Own w.heap.size w' r (zaZ (zbM c T p h)):=by
 refine F151_call ?_
 unfold F151
 have hpe:p<c.entry.length:=by rw [hc.2.1.1];exact hp
 have hil:=hc.f.ins
 obtain ⟨he1,he2,he3⟩:=zfR hc hpe
 have hst:=FL.start (T:=T) hc hpe hh
 have hfin:=fun {out}=>FL.fin (c:=c) (T:=T) (p:=p) (h:=h) (out:=out)
 refine NIL.mk rfl ?_
 refine zaa zaU ?_
 refine zaa zaK ?_
 refine zab zdG (zat hW.code) e0 fun v22 h22=>?_
 refine zaf u34 h22 ?_
 have hn:c.ins.length=c.ins.length:=rfl
 generalize hnn:c.ins.length=n at hn
 rw [hnn] at he2 hst hil
 refine zdy (by omega) (by omega) fun w2 hx2 hM2=>?_
 have hs2:=hx2.size
 generalize hg:w.heap.size=g at *
 have hF2:FW w w2 g n (fil n 0):=⟨hx2,by simpa [fil] using hM2,by omega⟩
 refine zig u33 ?_
 refine zaE n (fun k us w'=>us=[.int .i64 (k:Int)]∧k≤n∧FW w w' g n (fil n k)) 0 (Nat.zero_le _) ⟨rfl,Nat.zero_le _,hF2⟩ ?_
 rintro k mk u w3 hkm ⟨hu,hkl,hF3⟩
 simp only [List.map_cons,List.map_nil,List.cons.injEq,and_true] at hu
 rw [hu]
 refine zal ?_
 refine br (fun hlt=>?_) (fun hge=>?_)
 · have hk:k<n:=by omega
   refine zcJ (α:=Int) rfl u33 ty3 hk ?_
   refine zbI (α:=Int) rfl ty3 hF3.mine (by rw [zae,zni hkl]) hk (zbF (v:=63) (by omega)) fun w4 hc4 hm4=>?_
   have hF4:=hF3.set (v:=63) hc4 hm4
   rw [znj hk] at hF4
   refine zag (by omega) ?_
   exact ⟨mk-1,by omega,k+1,by omega,rfl,by omega,hF4⟩
 have hk:k=n:=by omega
 rw [hk,zla] at hF3
 clear hF2 hM2 hu hkm
 refine NIL.mk rfl ?_
 refine zaa zaU ?_
 refine zaa zbJ ?_
 refine zab zeL (zaD hW.code) (e0.trans hF3.ext) fun v39 h39=>?_
 refine zad u33 ty3 h39 hpe fun b1 o1 hA1=>?_
 rw [zcH hpe,he1] at hA1
 refine zac ty3 hA1 (e0.trans hF3.ext) fun _=>?_
 refine zcJ (α:=Int) rfl u33 ty3 he2 ?_
 refine zbI (α:=Int) rfl ty3 hF3.mine (by rw [zae];simp) he2 (zbF (v:=h) (by omega)) fun w4 hc4 hm4=>?_
 have hF4:=hF3.set (v:=h) hc4 hm4
 refine (zdW hW (e0.trans hF4.ext) hc hp).mono ?_
 rintro v47 w5 ⟨hx5,ho5⟩
 have hF5:=hF4.step hx5
 have hg4:=hF4.lt
 have hL:∀ i∈zbh c.ins.length (zay c p),zay c p i:=fun i hi=>(zaI.1 hi).2
 have hL2:∀ i,zay c p i→i∈zbh c.ins.length (zay c p):=fun i hi=>zaI.2 ⟨(za2 hc hpe hi).1,hi⟩
 have hLl:(zbh c.ins.length (zay c p)).length≤1500:=Nat.le_trans zbb (by rw [hnn];omega)
 generalize zbh c.ins.length (zay c p)=L at *
 generalize (List.replicate n 63).set (eN c p) h=out at hst hF5
 have hO5:=ho5.toI
 generalize hlo:w4.heap.size=lo at *
 generalize hhi:w5.heap.size=hi at *
 refine LOOPI.mk (fun m us w'=>∃ (ag:Bool) (out:List Nat),us=[.bool ag]∧m=out.sum+(if ag then 1 else 0)∧FW w w' g n out∧OwnI lo hi w' v47 (zaZ L)∧FL c T p h out∧(ag=false→∀ i,zay c p i→zrP c T out i)) (out.sum+1) ⟨true,out,rfl,rfl,hF5,hO5,hst,fun e=>by cases e⟩ ?_
 rintro m u w6 ⟨ag,out,hu,hm,hF6,hO6,hfl,hsh⟩
 simp only [List.map_cons,List.map_nil,List.cons.injEq,and_true] at hu
 rw [hu]
 refine zbQ (fun hag=>?_) (fun hag=>?_)
 case refine_2=>
   have:=hfin hfl hc hpe (hsh hag)
   rw [←this]
   have hoo:=hF6.own
   rw [hg] at hoo
   exact ⟨hF6.ext,hoo⟩
 rw [hag,if_pos rfl] at hm
 refine zaf u33 hO6.is ?_
 rw [zae]
 refine zaE L.length (fun k us w'=>∃ (ag:Bool) (out':List Nat),us=[.bool ag,.int .i64 (k:Int)]∧k≤L.length∧FW w w' g n out'∧OwnI lo hi w' v47 (zaZ L)∧FP c T p h out L k ag out') 0 (Nat.zero_le _) ⟨false,out,rfl,Nat.zero_le _,hF6,hO6,hfl,fun e=>(by cases e),fun _=>⟨rfl,by simp⟩⟩ ?_
 rintro k mk u w7 hkm ⟨ag7,out7,hu,hkl,hF7,hO7,hP7⟩
 obtain ⟨hu1,hu2⟩:=zey hu;clear hu
 rw [hu1,hu2]
 refine zal ?_
 refine br (fun hlt=>?_) (fun hge=>?_)
 case refine_2=>
   refine ⟨out7.sum+(if ag7 then 1 else 0),?_,ag7,out7,rfl,rfl,hF7,hO7,hP7.fl,fun e i hi=>?_⟩
   · cases ag7 with
     | true=>have:=hP7.yes rfl;simp;omega
     | false=>rw [(hP7.no rfl).1];simp;omega
   have:=hP7.no e
   rw [this.1]
   exact this.2 i (by rw [List.take_of_length_le (by omega)];exact hL2 i hi)
 have hk:k<L.length:=by omega
 refine zad u33 ty3 (i:=k) hO7.is (by rw [zae];exact hk) fun b2 o2 hA2=>?_
 rw [zaR] at hA2
 refine zac ty3 hA2 (Ext.refl _) fun _=>?_
 generalize hix:L[k]=i at *
 have hiv:zay c p i:=hL i (by rw [←hix];exact List.getElem_mem hk)
 have hin:=(za2 hc hpe hiv).1
 have hx8:=zao w7
 have hF8:=hF7.step hx8
 have hO8:=hO7.ext hx8
 generalize World.drew1 w7=w8 at *
 refine NIL.mk rfl ?_
 refine zaa zaU ?_
 refine zaa zaK ?_
 refine zab zdG (zat hW.code) (e0.trans hF8.ext) fun v59 h59=>?_
 refine zad u34 zem h59 hin fun b3 o3 hA3=>?_
 rw [zaY] at hA3
 refine zab zem hA3 (e0.trans hF8.ext) fun v62 h62=>?_
 have hl7:=hP7.fl.len
 refine zad u33 ty3 (i:=i) hF8.mine.is (by rw [zae,hl7];exact hin) fun b4 o4 hA4=>?_
 rw [zbf] at hA4
 refine zac ty3 hA4 (Ext.refl _) fun _=>?_
 have hm64:=hP7.fl.lt0 i
 have hmb:∀ l,l<6→(zaC out7 i).testBit l=false→LostP c (tK T) (tG T) p (fun l=>h.testBit l=true) i l:=fun l hl hb=>hP7.fl.snd i l hin hl hb
 have hmz:ag7=false→zaC out7 i=zaC out i:=fun e=>by rw [(hP7.no e).1]
 generalize zaC out7 i=mm at *
 refine (znh h62 (e0.trans hF8.ext) h1 (e1.trans hF8.ext) hc hT hin hm64).mono ?_
 rintro _ w9 ⟨hx9,rfl⟩
 have hF9:=hF8.step hx9
 have hO9:=hO8.ext hx9
 have haf:=zrv hc hT hin hm64
 refine (zgB hW.code (e0.trans hF9.ext) hc hin).mono ?_
 rintro v71 w10 ⟨hx10,ho10⟩
 have hF10:=hF9.step hx10
 have hO10:=hO9.ext hx10
 have hg9:=hF9.lt
 have hN10:=ho10.toI
 have hl2:=zgA c i
 refine zaf u33 ho10.is ?_
 rw [zae]
 have hQ10:=hP7.enter i
 refine zaE (zax c i).length (fun q us w'=>∃ (ag:Bool) (out':List Nat),us=[.bool ag,.int .i64 (q:Int)]∧q≤(zax c i).length∧FW w w' g n out'∧OwnI lo hi w' v47 (zaZ L)∧OwnI w9.heap.size w10.heap.size w' v71 (zaZ (zax c i))∧FQ c T p h out L k i q ag out'∧(ag=false→mm=zaC out i)) 0 (Nat.zero_le _) ⟨ag7,out7,rfl,Nat.zero_le _,hF10,hO10,hN10,hQ10,hmz⟩ ?_
 rintro q mq u w11 hqm ⟨ag11,out11,hu,hql,hF11,hO11,hN11,hQ11,hz11⟩
 obtain ⟨hu1,hu2⟩:=zey hu
 rw [hu1,hu2]
 refine zal ?_
 refine br (fun hlt=>?_) (fun hge=>?_)
 case refine_2=>
   refine zag (by omega) ?_
   exact ⟨mk-1,by omega,k+1,by omega,ag11,out11,rfl,by omega,hF11,hO11,hQ11.done hk hix (by omega)⟩
 have hq:q<(zax c i).length:=by omega
 refine zad u33 ty3 (i:=q) hN11.is (by rw [zae];exact hq) fun b5 o5 hA5=>?_
 rw [zaR] at hA5
 refine zac ty3 hA5 (Ext.refl _) fun _=>?_
 have hx12:=zao w11
 have hF12:=hF11.step hx12
 have hO12:=hO11.ext hx12
 have hN12:=hN11.ext hx12
 generalize World.drew1 w11=w12 at *
 have hj:=zb5 hc hin (List.getElem_mem hq)
 have hl11:=hQ11.fl.len
 have hset:=hQ11.set (m:=mm) hc hpe hiv hq hmb
 have hskip:=hQ11.skip (m:=mm) hq hz11
 have hj64:=hQ11.fl.lt0 (zax c i)[q]
 have hjn:=hj.1
 rw [hnn] at hjn
 generalize (zax c i)[q]=j at *
 have hrd:∀ {w':World} {K:Value→Prop} (hF:FW w w' g n out11) (k:K (.int .i64 (zaC out11 j:Int))),RD Tryz.prog (Instr.indexAt 33 (.slice (some ⟨g,0,none⟩) n n) (.int .i64 (j:Int))) w' fun x37=>RD Tryz.prog (Instr.loadAt 3 x37) w' K:=fun hF k=>by
   refine zad u33 ty3 (i:=j) hF.mine.is (by rw [zae,hl11];exact hj.1) fun b1 o1 hA1=>?_
   rw [zbf] at hA1
   exact zac ty3 hA1 (Ext.refl _) fun _=>k
 refine hrd hF12 ?_
 refine ze6 (by omega) (by omega) ?_
 refine hrd hF12 ?_
 refine zaT ?_
 refine br (fun hne=>?_) (fun heq=>?_)
 · have hne':zaC out11 j &&& aft c T i mm≠zaC out11 j:=fun e=>hne (by rw [e])
   refine hrd hF12 ?_
   refine ze6 (by omega) (by omega) ?_
   refine zcJ (α:=Int) rfl u33 ty3 hjn ?_
   have hvl:=Nat.and_le_left (n:=zaC out11 j) (m:=aft c T i mm)
   refine zbI (α:=Int) rfl ty3 hF12.mine (by rw [zae,hl11,hnn]) hjn (zbF (v:=zaC out11 j &&& aft c T i mm) (by omega)) fun w13 hc13 hm13=>?_
   have hF13:=hF12.set (v:=zaC out11 j &&& aft c T i mm) hc13 hm13
   have hc13':=zfy hc13
   refine zag (by omega) ?_
   exact ⟨mq-1,by omega,q+1,by omega,true,_,rfl,by omega,hF13,hO12.chg hc13' (by omega),hN12.chg hc13' (by omega),hset hne',fun e=>by cases e⟩
 refine zag (by omega) ?_
 exact ⟨mq-1,by omega,q+1,by omega,ag11,out11,rfl,by omega,hF12,hO12,hN12,hskip (Int.ofNat_inj.1 (Decidable.not_not.1 heq)),hz11⟩
def F284 (a0 a1:Value) (w:World) (R:VW):Prop:=
 NIL a0 <|
 rF 92 a0 4 w fun x12=>
 rL 33 x12 w fun x13=>
 rX 33 x13 a1 w fun x15=>
 rL 3 x15 w fun x16=>
 cL 48 [x16] w fun x17 w=>
 rN 33 3 x17 w fun x18=>
 LOOPI [5,19] [(iV 63),(iV 0)] w fun u3 w next3=>
 rC (u3 19) x18 w fun x20=>
 BR x20
 (rX 33 x17 (u3 19) w fun x21=>
 rL 3 x21 w fun x22=>
 cL 183 [a0,x22] w fun x25 w=>
 rN 33 3 x25 w fun x26=>
 LOOPI [5,27] [(u3 5),(iV 0)] w fun u6 w next6=>
 rC (u6 27) x26 w fun x28=>
 BR x28
 (rX 33 x25 (u6 27) w fun x29=>
 rL 3 x29 w fun x30=>
 NIL a0 <|
 rF 92 a0 0 w fun x33=>
 rF 36 x33 4 w fun x34=>
 rL 34 x34 w fun x35=>
 rX 34 x35 x30 w fun x37=>
 rF 84 x37 0 w fun x38=>
 rL 3 x38 w fun x39=>
 rB .eql 3 T0 U0 x39 (iV 7) w fun x40=>
 BR x40
 (NIL a0 <|
 rF 92 a0 0 w fun x44=>
 rF 36 x44 4 w fun x45=>
 rL 34 x45 w fun x46=>
 rX 34 x46 x30 w fun x48=>
 rF 84 x48 1 w fun x49=>
 rL 3 x49 w fun x50=>
 rD (convert 3 105 x50) w fun x51=>
 rB .shl 3 U0 T0 (iV 1) x51 w fun x52=>
 rB .andNot 3 T0 T0 (u6 5) x52 w fun x53=>
 rA (u6 27) (iV 1) w fun x54=>
 next6 [x53,x54] w)
 (rA (u6 27) (iV 1) w fun x54=>
 next6 [(u6 5),x54] w))
 (rA (u3 19) (iV 1) w fun x55=>
 next3 [(u6 5),x55] w))
 (R (u3 5) w)
def cfg284:Cfg:=⟨extL,[],[(3,72057594037404320,[5,19]),(6,36028796884746784,[5,27])],[],[],[],[]⟩
theorem F284_call {a0 a1:Value} {w:World} {R:VW} (h:F284 a0 a1 w R):cL 284 [a0,a1] w R:=co (g:=cfg284) Tryz.func284 (by kernel_rfl) (by kernel_rfl) (by kernel_rfl) h
open Rep (rep)
theorem zgH {p:Nat→Prop} {n:Nat}:∀ {k:Nat},k≤n→zcb (zfn p n) k=zaZ (zbh k p)
 | 0,_=>rfl
 | k+1,h=>by
   rw [zcb,zgH (k:=k) (by omega)]
   by_cases hp:p k
   · rw [if_pos (zbq.2 ⟨by omega,hp⟩),zfY hp,zcI];rfl
   rw [if_neg fun e=>hp (zbq.1 e).2,zfv hp]
theorem zbZ {p:Nat→Prop} {n:Nat} (h:n≤62):zbo (zfn p n)=zaZ (zbh n p):=by
 rw [zh7 (k:=n) zgz (by omega),zgH (Nat.le_refl _)]
theorem zaB {p:Nat→Prop} {n:Nat} (h:n≤8):zfn p n<256:=Nat.lt_of_lt_of_le zgz (Nat.pow_le_pow_right (n:=2) (by omega) h)
noncomputable def cls (c:DCode) (op:Int):List Nat:=(List.range c.procs.length).map fun p=>zfn (zk6 c p op) c.procs.length
noncomputable def frs (c:DCode):List Nat:=(List.range c.procs.length).map fun p=>zfn (FromP c p) c.procs.length
theorem zdX (c:DCode) (op:Int):(cls c op).length=c.procs.length:=by simp [cls]
theorem zfz (c:DCode):(frs c).length=c.procs.length:=by simp [frs]
theorem zpI {c:DCode} {op:Int} {p:Nat} (hp:p<c.procs.length):zaC (cls c op) p=zfn (zk6 c p op) c.procs.length:=by rw [←zaJ (by rw [zdX];exact hp)];simp [cls]
theorem zlb {c:DCode} {p:Nat} (hp:p<c.procs.length):zaC (frs c) p=zfn (FromP c p) c.procs.length:=by rw [←zaJ (by rw [zfz];exact hp)];simp [frs]
noncomputable def zbs (c:DCode):Nat:=zfn (RootP c) c.procs.length
noncomputable def zch (c:DCode):Nat:=zfn (UsedP c) c.procs.length
structure WAt (W0:World) (b:Nat) (c:DCode):Prop where
 wl:WL W0 b c
 calls:At W0 b (0+6) (zaZ (cls c 4))
 spawns:At W0 b (0+7) (zaZ (cls c 5))
 frm:At W0 b (0+8) (zaZ (frs c))
 roots:At W0 b (0+9) (zbs c:Int)
 used:At W0 b (0+10) (zch c:Int)
def KI (m:Nat) (P:Nat→Prop):Prop:=m<64∧∀ l,l<6→(m.testBit l=false↔P l)
theorem KI.start {P:Nat→Prop} (h:∀ l,¬P l):KI 63 P:=⟨by omega,fun l hl=>by rw [ze8 hl];exact ⟨fun e=>(by cases e),fun e=>absurd e (h l)⟩⟩
theorem KI.drop {m a:Nat} {P P':Nat→Prop} (h:KI m P) (hP:∀ l,P' l↔P l∨a=l):KI (zmp m (2^a)) P':=by
 refine ⟨Nat.lt_of_le_of_lt (zj4 _ _) h.1,fun l hl=>?_⟩
 rw [zee,Nat.testBit_two_pow,hP,←h.2 l hl]
 simp only [Bool.and_eq_false_iff,Bool.not_eq_false',decide_eq_true_eq]
theorem KI.congr {m:Nat} {P P':Nat→Prop} (h:KI m P) (hP:∀ l,P' l↔P l):KI m P':=⟨h.1,fun l hl=>by rw [h.2 l hl,hP]⟩
theorem KI.eq {m:Nat} {P:Nat→Prop} (h:KI m P):m=m6 fun l=>¬P l:=zoP h.1 fun l hl=>by rw [←h.2 l hl];simp
theorem zaW {α:Type} {l:List α} {k:Nat} (hk:k<l.length) {x:α}:x∈l.take (k+1)↔x∈l.take k∨x=l[k]:=by
 rw [List.take_succ_eq_append_getElem hk,List.mem_append];simp
def zpJ (c:DCode) (q l:Nat):Prop:=∃ i,zay c q i∧(zah c i).op=7∧agN c i=l
theorem znk {w W0:World} {b p:Nat} {c:DCode} (hW:WAt W0 b c) (e0:Ext W0 w) (hc:CodeR c) (hp:p<c.procs.length) :
   CALL Tryz.prog 284 [.pointer (some ⟨b,0,none⟩),.int .i64 (p:Int)] w fun r w'=>Ext w w'∧r=.int .i64 (zeE c p:Nat):=by
 refine F284_call ?_
 unfold F284
 have h8:=hc.1.procs8
 have hil:=hc.f.ins
 refine NIL.mk rfl ?_
 refine zaa ziK ?_
 refine zab zeL hW.frm e0 fun v13 h13=>?_
 refine zad u33 ty3 h13 (by rw [zae,zfz];exact hp) fun b1 o1 hA1=>?_
 rw [zbf,zlb hp] at hA1
 refine zac ty3 hA1 e0 fun _=>?_
 have hsm:=zaB (p:=FromP c p) h8.1
 refine (zcc (m:=zfn (FromP c p) c.procs.length) (by omega)).mono ?_
 rintro v17 w1 ⟨hx1,ho1⟩
 rw [zbZ (by omega)] at ho1
 have hL:∀ q,q∈zbh c.procs.length (FromP c p)↔q<c.procs.length∧FromP c p q:=fun q=>zaI
 have hLl:=zbb (n:=c.procs.length) (p:=FromP c p)
 generalize zbh c.procs.length (FromP c p)=L at *
 refine zaf u33 ho1.is ?_
 rw [zae]
 refine zaE L.length (fun k us w'=>∃ m:Nat,us=[.int .i64 (m:Int),.int .i64 (k:Int)]∧k≤L.length∧Ext w1 w'∧KI m (fun l=>∃ q∈L.take k,zpJ c q l)) 0 (Nat.zero_le _) ⟨63,rfl,Nat.zero_le _,Ext.refl _,KI.start (by simp)⟩ ?_
 rintro k mk u w2 hkm ⟨m,hu,hkl,hx2,hK⟩
 obtain ⟨hu1,hu2⟩:=zey hu;clear hu
 rw [hu1,hu2]
 refine zal ?_
 refine br (fun hlt=>?_) (fun hge=>?_)
 case refine_2=>
   rw [show L.take k=L from List.take_of_length_le (by omega)] at hK
   refine ⟨hx1.trans hx2,?_⟩
   have:m=zeE c p:=by
     rw [hK.eq]
     refine zoQ fun l hl=>not_congr ?_
     constructor
     · rintro ⟨q,hq,i,h1,h2,h3⟩
       exact ⟨q,i,((hL q).1 hq).1,((hL q).1 hq).2,h1,h2,h3⟩
     rintro ⟨q,i,h0,hf,h1,h2,h3⟩
     exact ⟨q,(hL q).2 ⟨h0,hf⟩,i,h1,h2,h3⟩
   rw [this]
 have hk:k<L.length:=by omega
 refine zad u33 ty3 (i:=k) (ho1.is) (by rw [zae];exact hk) fun b2 o2 hA2=>?_
 rw [zaR] at hA2
 refine zac ty3 hA2 hx2 fun _=>?_
 have hq:=(hL L[k]).1 (List.getElem_mem hk)
 have htk:=fun x=>zaW hk (x:=x)
 generalize L[k]=q at *
 have hx02:=(e0.trans hx1).trans hx2
 refine (zdW hW.wl hx02 hc hq.1).mono ?_
 rintro v25 w3 ⟨hx3,ho3⟩
 have hM:∀ i,i∈zbh c.ins.length (zay c q)↔i<c.ins.length∧zay c q i:=fun i=>zaI
 have hMl:=zbb (n:=c.ins.length) (p:=zay c q)
 generalize zbh c.ins.length (zay c q)=M at *
 refine zaf u33 ho3.is ?_
 rw [zae]
 refine zaE M.length (fun j us w'=>∃ m:Nat,us=[.int .i64 (m:Int),.int .i64 (j:Int)]∧j≤M.length∧Ext w3 w'∧KI m (fun l=>(∃ q∈L.take k,zpJ c q l)∨∃ i∈M.take j,(zah c i).op=7∧agN c i=l)) 0 (Nat.zero_le _) ⟨m,rfl,Nat.zero_le _,Ext.refl _,hK.congr fun l=>by simp⟩ ?_
 rintro j mj u w4 hjm ⟨m4,hu,hjl,hx4,hK4⟩
 obtain ⟨hu1,hu2⟩:=zey hu
 rw [hu1,hu2]
 refine zal ?_
 refine br (fun hlt=>?_) (fun hge=>?_)
 case refine_2=>
   rw [show M.take j=M from List.take_of_length_le (by omega)] at hK4
   refine zag (by omega) ?_
   refine ⟨mk-1,by omega,k+1,by omega,m4,rfl,by omega,hx2.trans (hx3.trans hx4),hK4.congr fun l=>?_⟩
   constructor
   · rintro ⟨r,hr,h1⟩
     rcases (htk r).1 hr with hr | rfl
     · exact .inl ⟨r,hr,h1⟩
     obtain ⟨i,h1,h2,h3⟩:=h1
     exact .inr ⟨i,(hM i).2 ⟨(za2 hc (by rw [hc.2.1.1];exact hq.1) h1).1,h1⟩,h2,h3⟩
   rintro (⟨r,hr,h1⟩ | ⟨i,hi,h2,h3⟩)
   · exact ⟨r,(htk r).2 (.inl hr),h1⟩
   exact ⟨q,(htk q).2 (.inr rfl),i,((hM i).1 hi).2,h2,h3⟩
 have hj:j<M.length:=by omega
 refine zad u33 ty3 (i:=j) (ho3.is) (by rw [zae];exact hj) fun b3 o3 hA3=>?_
 rw [zaR] at hA3
 refine zac ty3 hA3 hx4 fun _=>?_
 have hi:=(hM M[j]).1 (List.getElem_mem hj)
 have htj:=fun x=>zaW hj (x:=x)
 generalize M[j]=i at *
 have hx04:=hx02.trans (hx3.trans hx4)
 refine NIL.mk rfl ?_
 refine zaa zaU ?_
 refine zaa zaK ?_
 refine zab zdG (zat hW.wl.code) hx04 fun v35 h35=>?_
 refine zad u34 zem h35 hi.1 fun b4 o4 hA4=>?_
 rw [zaY] at hA4
 refine zaa zbK ?_
 refine zac ty3 (zaG hA4) hx04 fun _=>?_
 refine zai ?_
 refine br (fun c7=>?_) (fun c7=>?_)
 · obtain ⟨ha,_,hq6⟩:=zj8 hc hi.1 (.inr c7)
   have hpw:=zj9 hq6
   refine NIL.mk rfl ?_
   refine zaa zaU ?_
   refine zaa zaK ?_
   refine zab zdG (zat hW.wl.code) hx04 fun v46 h46=>?_
   refine zad u34 zem h46 hi.1 fun b5 o5 hA5=>?_
   rw [zaY] at hA5
   refine zaa zcl ?_
   refine zac ty3 (zaQ hA5) hx04 fun _=>?_
   rw [ha]
   refine zcD (by kernel_rfl) zmI (by omega) ?_
   refine zdp (by omega) ?_
   have h64:=hK4.1
   refine zgD (m:=m4) (n:=2^agN c i) (by omega) (by omega) ?_
   refine zag (by omega) ?_
   refine ⟨mj-1,by omega,j+1,by omega,_,rfl,by omega,hx4,hK4.drop fun l=>?_⟩
   constructor
   · rintro (h | ⟨r,hr,h1,h2⟩)
     · exact .inl (.inl h)
     rcases (htj r).1 hr with hr | rfl
     · exact .inl (.inr ⟨r,hr,h1,h2⟩)
     exact .inr h2
   rintro ((h | ⟨r,hr,h1⟩) | h)
   · exact .inl h
   · exact .inr ⟨r,(htj r).2 (.inl hr),h1⟩
   exact .inr ⟨i,(htj i).2 (.inr rfl),c7,h⟩
 refine zag (by omega) ?_
 refine ⟨mj-1,by omega,j+1,by omega,_,rfl,by omega,hx4,hK4.congr fun l=>?_⟩
 constructor
 · rintro (h | ⟨r,hr,h1,h2⟩)
   · exact .inl h
   rcases (htj r).1 hr with hr | rfl
   · exact .inr ⟨r,hr,h1,h2⟩
   exact absurd h1 c7
 rintro (h | ⟨r,hr,h1⟩)
 · exact .inl h
 exact .inr ⟨r,(htj r).2 (.inl hr),h1⟩
def F229 (a0 a1 a2:Value) (w:World) (R:VW):Prop:=
 (fun w=>NIL a0 <|
 rF 92 a0 0 w fun x13=>
 rL 36 x13 w fun x14=>
 (fun w_=>cL 151 [a0,a1,a2,(iV 0)] w_ fun x10 w=>
 Ext w_ w ∧
 cL 119 [x14,a2] w fun x16 w=>
 rB .sub 3 T0 U0 x16 (iV 1) w fun x17=>
 rX 33 x10 x17 w fun x18=>
 rL 3 x18 w fun x19=>
 R x19 w) w) (World.drew1 w)
def cfg229:Cfg:=⟨extL,[],[],[(1,[0,1,2,4,5,6,7,8,3,9,10,11,12,13],8)],[],[],[]⟩
theorem F229_call {a0 a1 a2:Value} {w:World} {R:VW} (h:F229 a0 a1 a2 w R):cL 229 [a0,a1,a2] w R:=co (g:=cfg229) Tryz.func229 (by kernel_rfl) (by kernel_rfl) (by kernel_rfl) h
def F228 (a0:Value) (w:World) (R:VW):Prop:=
 NIL a0 <|
 rF 92 a0 0 w fun x7=>
 rF 36 x7 2 w fun x8=>
 rL 24 x8 w fun x9=>
 rN 24 3 x9 w fun x10=>
 LOOPI [3,11] [(Value.slice none 0 0),(iV 0)] w fun u3 w next3=>
 rC (u3 11) x10 w fun x12=>
 BR x12
 (cL 284 [a0,(u3 11)] w fun x17 w=>
 rD (Instr.build 244 #[(0,x17),(1,(iV 63))]) w fun x18=>
 oP (Instr.buildSlice 172 1 #[(0,x18)]) w fun x19 w=>
 oP (Builtin.append_ #[172,172] 172 [(u3 3),x19].toArray) w fun x20 w=>
 rA (u3 11) (iV 1) w fun x21=>
 next3 [x20,x21] w)
 (R (u3 3) w)
def cfg228:Cfg:=⟨extL,[],[(3,4192280,[3,11])],[],[],[],[]⟩
theorem F228_call {a0:Value} {w:World} {R:VW} (h:F228 a0 w R):cL 228 [a0] w R:=co (g:=cfg228) Tryz.func228 (by kernel_rfl) (by kernel_rfl) (by kernel_rfl) h
def F149 (a0:Value) (w:World) (R:VW):Prop:=
 cL 228 [a0] w fun x8 w=>
 LOOPI [4] [(Value.bool true)] w fun u3 w next3=>
 BR (u3 4)
 (rN 172 3 x8 w fun x11=>
 LOOPI [4,12] [(Value.bool false),(iV 0)] w fun u6 w next6=>
 rC (u6 12) x11 w fun x13=>
 BR x13
 (cL 229 [a0,x8,(u6 12)] w fun x18 w=>
 rX 172 x8 (u6 12) w fun x22=>
 rF 244 x22 1 w fun x23=>
 rL 3 x23 w fun x24=>
 rB .neq 3 T0 T0 x18 x24 w fun x25=>
 BR x25
 (rX 172 x8 (u6 12) w fun x29=>
 rF 244 x29 1 w fun x30=>
 oS 3 x30 x18 w fun w=>
 rA (u6 12) (iV 1) w fun x31=>
 next6 [(Value.bool true),x31] w)
 (rA (u6 12) (iV 1) w fun x31=>
 next6 [(u6 4),x31] w))
 (next3 [(u6 4)] w))
 (R x8 w)
def cfg149:Cfg:=⟨extL,[],[(3,4294966896,[4]),(6,4294963312,[4,12])],[],[],[],[]⟩
theorem F149_call {a0:Value} {w:World} {R:VW} (h:F149 a0 w R):cL 149 [a0] w R:=co (g:=cfg149) Tryz.func149 (by kernel_rfl) (by kernel_rfl) (by kernel_rfl) h
open Rep (rep)
theorem zgI {c:DCode} (hc:CodeR c) {p:Nat} (hp:p<c.procs.length):zb4 c p=((zN c p+1:Nat):Int)∧zj1 c p=(zN c p:Int)∧zN c p<c.ins.length:=by
 have h:=zj7 hc (p:=p) (by rw [hc.2.1.1];exact hp)
 refine ⟨by omega,?_,h.2.2⟩
 rw [zco];omega
theorem zoV {w W0 W1:World} {b p:Nat} {v1:Value} {c:DCode} {T:Tab} (hW:WL W0 b c) (e0:Ext W0 w) (h1:Is W1 v1 (zf2 T)) (e1:Ext W1 w) (hc:CodeR c) (hT:zpF c T) (hp:p<c.procs.length) :
   CALL Tryz.prog 229 [.pointer (some ⟨b,0,none⟩),v1,.int .i64 (p:Int)] w fun r w'=>Ext w w'∧r=.int .i64 (zcr c T p:Nat):=by
 refine F229_call ?_
 unfold F229
 obtain ⟨hz1,hz2,hz3⟩:=zgI hc hp
 have hil:=hc.f.ins
 have h8:=hc.1.procs8
 have hxd:=zao w
 generalize World.drew1 w=w1 at *
 refine NIL.mk rfl ?_
 refine zaa zaU ?_
 refine zab zfm hW.code (e0.trans hxd) fun v14 h14=>?_
 refine (zka hW (e0.trans hxd) h1 (e1.trans hxd) hc hT hp (h:=0) (by omega)).mono ?_
 rintro v10 w2 ⟨hx2,ho2⟩
 refine ⟨hx2,?_⟩
 refine (zca h14 ((e0.trans hxd).trans hx2) (by omega)).mono ?_
 rintro _ w3 ⟨hx3,rfl⟩
 rw [hz1]
 refine zck (by unfold I64;omega) ?_
 rw [show ((zN c p+1:Nat):Int)-1=(zN c p:Int) by omega]
 refine zad u33 ty3 ho2.is (by rw [zae,zdU];exact hz3) fun b1 o1 hA1=>?_
 rw [zbf] at hA1
 refine zac ty3 hA1 hx3 fun _=>?_
 exact ⟨hxd.trans (hx2.trans hx3),rfl⟩
noncomputable def zoW (c:DCode) (k:Nat):Tab:=(List.range k).map fun p=>(zeE c p,63)
theorem znl (c:DCode) (k:Nat):zf2 (zoW c (k+1))=zf2 (zoW c k)++[zoT (zeE c k,63)]:=by simp [zoW,zf2,List.range_succ]
theorem zlc (c:DCode) (k:Nat):(zf2 (zoW c k)).length=k:=by simp [zoW,zf2]
theorem zoX {w:World} (lo hi:Nat) {x:Nat×Nat} (h1:x.1<64) (h2:x.2<64):OwnI lo hi w (.agg #[.int .i64 (x.1:Int),.int .i64 (x.2:Int)]) (zoT x):=
 ⟨[],zlV (x:=zoT x) (by unfold zoT I64;simp only;omega) (by unfold zoT I64;simp only;omega),by simp⟩
theorem zgJ {w W0:World} {b:Nat} {c:DCode} (hW:WAt W0 b c) (e0:Ext W0 w) (hc:CodeR c) :
   CALL Tryz.prog 228 [.pointer (some ⟨b,0,none⟩)] w fun r w'=>Ext w w'∧Own w.heap.size w' r (zf2 (zoW c c.procs.length)):=by
 refine F228_call ?_
 unfold F228
 have h8:=hc.1.procs8
 refine NIL.mk rfl ?_
 refine zaa zaU ?_
 refine zaa zc5 ?_
 refine zab zdQ (zbe hW.wl.code) e0 fun v9 h9=>?_
 refine zaf u24 h9 ?_
 refine zaE c.procs.length (fun k us w'=>∃ v:Value,us=[v,.int .i64 (k:Int)]∧k≤c.procs.length∧Ext w w'∧RowI w.heap.size w'.heap.size 244 w' v (zf2 (zoW c k))) 0 (Nat.zero_le _) ⟨_,rfl,Nat.zero_le _,Ext.refl _,zb2 _ _ _ _⟩ ?_
 rintro k mk u w2 hkm ⟨v,hu,hkl,hx2,hr2⟩
 obtain ⟨hu1,hu2⟩:=zey hu
 rw [hu1,hu2]
 refine zal ?_
 refine br (fun hlt=>?_) (fun hge=>?_)
 case refine_2=>
   have:k=c.procs.length:=by omega
   rw [this] at hr2
   exact ⟨hx2,hr2.own.own⟩
 have hk:k<c.procs.length:=by omega
 have hs2:=hx2.size
 refine (znk hW (e0.trans hx2) hc hk).mono ?_
 rintro _ w3 ⟨hx3,rfl⟩
 have hs3:=hx3.size
 refine zaz (cells:=#[.int .i64 (zeE c k:Nat),.int .i64 63]) (by kernel_rfl) ?_
 refine zdt (lo2:=w3.heap.size) (hi2:=w3.heap.size) (x:=zoT (zeE c k,63)) zq6 zmL zss zrW (by decide) (hr2.ext hx3) (by omega) (zoX _ _ (x:=(zeE c k,63)) zj6 (by omega)) (by omega) (by omega) (by rw [zak,zlc];omega) (by rw [zlc];omega) fun v54 w9 hc9 hr9=>?_
 refine zag (by omega) ?_
 refine ⟨mk-1,by omega,k+1,by omega,v54,rfl,by omega,(hx2.trans hx3).chgI hc9 (Nat.le_refl _),?_⟩
 rw [znl]
 exact hr9
structure FE (w1 w:World) (g:Nat) (v:Value) (T:Tab):Prop where
 ext:Ext w1 w
 mine:Mine [g] w v (zf2 T)
 g0:w1.heap.size≤g
section
variable {w1 w w':World} {g:Nat} {v:Value} {T:Tab}
theorem FE.step (h:FE w1 w g v T) (hx:Ext w w'):FE w1 w' g v T:=⟨h.ext.trans hx,h.mine.ext hx,h.g0⟩
theorem FE.own (h:FE w1 w g v T):Own w1.heap.size w v (zf2 T):=⟨[g],h.mine,fun b hb=>by simp only [List.mem_cons,List.not_mem_nil,or_false] at hb;have:=h.g0;omega⟩
theorem FE.make (ho:Own w1.heap.size w v (zf2 T)) (hx:Ext w1 w) (hT:T≠[]):∃ g,FE w1 w g v T:=by
 obtain ⟨F,hm,hF⟩:=ho
 obtain ⟨b,o,cap,hv,rfl⟩:=ze4 hm (by intro e;exact hT (List.map_eq_nil_iff.1 e))
 exact ⟨b,hx,hm,hF b (by simp)⟩
theorem zqr {q m:Nat} {K:World→Prop} (h:FE w1 w g v T) (hT:T≠[]) (hq:q<T.length) (hm:m<64) (k:∀ w',FE w1 w' g v (T.set q ((tbl T q).1,m))→ChgI g (g+1) w w'→K w') :
   RD Tryz.prog (Instr.indexAt 172 v (.int .i64 (q:Int))) w fun a=>RD Tryz.prog (Instr.fieldAt 244 a 1) w fun f=>OPU Tryz.prog (Instr.storeAt 3 f (.int .i64 (m:Int))) w K:=by
 refine zrp (α:=DEffect) (β:=Int) (sel:=DEffect.gen) (g:=fun a y=>⟨a.keep,y⟩) zq6 zmL zjS ty3 (fun h=>zha h) h.mine (by rw [zeh];exact hq) (zbF (v:=m) (by omega)) fun w2 F2 hc2 hm2 hF2=>?_
 have hF:F2=[g]:=by
   obtain ⟨b,o,cap,hv,rfl⟩:=ze4 hm2 (by intro e;have:=congrArg List.length e;rw [List.length_set,zeh] at this;simp only [List.length_nil] at this;omega)
   have:=hF2 b (by simp)
   simpa using this
 subst hF
 have hcc:=zfy hc2
 refine k w2 ⟨h.ext.chgI hcc h.g0,?_,h.g0⟩ hcc
 rw [zoU]
 rw [zf3] at hm2
 exact hm2
end
theorem zqs {c:DCode} (hc:CodeR c):EI c (zoW c c.procs.length):=EI.start c hc
theorem EI.len {c:DCode} {T:Tab} (h:EI c T):T.length=c.procs.length:=h.tab.1
theorem EI.ne {c:DCode} (hc:CodeR c) {T:Tab} (h:EI c T):T≠[]:=fun e=>by
 have h1:=h.len
 have h2:=hc.1.procs8
 rw [e] at h1;simp at h1;omega
structure EP (c:DCode) (T0:Tab) (k:Nat) (ag:Bool) (T:Tab):Prop where
 ei:EI c T
 yes:ag=true→zpH T<zpH T0
 no:ag=false→T=T0∧∀ p,p<k→zcr c T0 p=(tbl T0 p).2
theorem EP.set {c:DCode} (hc:CodeR c) {T0 T:Tab} {k:Nat} {ag:Bool} (H:EP c T0 k ag T) (hk:k<c.procs.length) (hne:zcr c T k≠(tbl T k).2):EP c T0 (k+1) true (T.set k ((tbl T k).1,zcr c T k)):=by
 refine ⟨H.ei.upd hc hk,fun _=>?_,fun e=>by cases e⟩
 have h1:=zoS (T:=T) (p:=k) (v:=((tbl T k).1,zcr c T k)) (by rw [H.ei.len];exact hk)
 have h2:=H.ei.le hc hk
 simp only at h1
 cases ag with
 | true=>have:=H.yes rfl;omega
 | false=>rw [(H.no rfl).1] at h1 h2 hne ⊢;omega
theorem EP.skip {c:DCode} {T0 T:Tab} {k:Nat} {ag:Bool} (H:EP c T0 k ag T) (he:zcr c T k=(tbl T k).2):EP c T0 (k+1) ag T:=
 ⟨H.ei,H.yes,fun e=>⟨(H.no e).1,fun p hp=>by
   by_cases h:p=k
   · subst h;rw [(H.no e).1] at he;exact he
   exact (H.no e).2 p (by omega)⟩⟩
theorem zlW {w W0:World} {b:Nat} {c:DCode} (hW:WAt W0 b c) (e0:Ext W0 w) (hc:CodeR c) :
   CALL Tryz.prog 149 [.pointer (some ⟨b,0,none⟩)] w fun r w'=>Ext w w'∧Own w.heap.size w' r (zf2 (zbR c)):=by
 refine F149_call ?_
 unfold F149
 have h8:=hc.1.procs8
 refine (zgJ hW e0 hc).mono ?_
 rintro v8 w1 ⟨hx1,ho1⟩
 have hE1:=zqs hc
 obtain ⟨g,hF1⟩:=FE.make ho1 hx1 (hE1.ne hc)
 generalize zoW c c.procs.length=T at *
 refine LOOPI.mk (fun m us w'=>∃ (ag:Bool) (T:Tab),us=[.bool ag]∧m=zpH T+(if ag then 1 else 0)∧FE w w' g v8 T∧EI c T∧(ag=false→∀ p,p<c.procs.length→zcr c T p=(tbl T p).2)) (zpH T+1) ⟨true,T,rfl,rfl,hF1,hE1,fun e=>by cases e⟩ ?_
 rintro m u w2 ⟨ag,T,hu,hm,hF2,hE2,hsh⟩
 simp only [List.map_cons,List.map_nil,List.cons.injEq,and_true] at hu
 rw [hu]
 refine zbQ (fun hag=>?_) (fun hag=>?_)
 case refine_2=>
   rw [hE2.fin hc (hsh hag)] at hF2
   exact ⟨hF2.ext,hF2.own⟩
 rw [hag,if_pos rfl] at hm
 refine zaf zq6 hF2.mine.is ?_
 rw [zeh,hE2.len]
 refine zaE c.procs.length (fun k us w'=>∃ (ag:Bool) (T':Tab),us=[.bool ag,.int .i64 (k:Int)]∧k≤c.procs.length∧FE w w' g v8 T'∧EP c T k ag T') 0 (Nat.zero_le _) ⟨false,T,rfl,Nat.zero_le _,hF2,hE2,fun e=>(by cases e),fun _=>⟨rfl,fun p hp=>by omega⟩⟩ ?_
 rintro k mk u w3 hkm ⟨ag3,T3,hu,hkl,hF3,hP3⟩
 obtain ⟨hu1,hu2⟩:=zey hu
 rw [hu1,hu2]
 refine zal ?_
 refine br (fun hlt=>?_) (fun hge=>?_)
 case refine_2=>
   refine ⟨zpH T3+(if ag3 then 1 else 0),?_,ag3,T3,rfl,rfl,hF3,hP3.ei,fun e p hp=>?_⟩
   · cases ag3 with
     | true=>have:=hP3.yes rfl;simp;omega
     | false=>rw [(hP3.no rfl).1];simp;omega
   have:=hP3.no e
   rw [this.1]
   exact this.2 p (by omega)
 have hk:k<c.procs.length:=by omega
 refine (zoV hW.wl (e0.trans hF3.ext) hF3.mine.is (Ext.refl _) hc hP3.ei.tab hk).mono ?_
 rintro _ w4 ⟨hx4,rfl⟩
 have hF4:=hF3.step hx4
 have hal:=zie (T:=T3) hc hk
 have hgl:=hP3.ei.tab.2 k
 have hkT:k<T3.length:=by rw [hP3.ei.len];exact hk
 refine zad zq6 zmL hF4.mine.is (by rw [zeh];exact hkT) fun b1 o1 hA1=>?_
 rw [zf3] at hA1
 refine zaa zjS ?_
 refine zac ty3 (zfN hA1) (Ext.refl _) fun _=>?_
 refine zaT ?_
 refine br (fun hne=>?_) (fun heq=>?_)
 · refine zqr hF4 (hP3.ei.ne hc) hkT hal fun w5 hF5 hc5=>?_
   refine zag (by omega) ?_
   exact ⟨mk-1,by omega,k+1,by omega,true,_,rfl,by omega,hF5,hP3.set hc hk fun e=>hne (by rw [e];rfl)⟩
 refine zag (by omega) ?_
 exact ⟨mk-1,by omega,k+1,by omega,ag3,T3,rfl,by omega,hF4,hP3.skip (Int.ofNat_inj.1 (Decidable.not_not.1 heq))⟩
def F150 (a0 a1:Value) (w:World) (R:VW):Prop:=
 NIL a0 <|
 rF 92 a0 0 w fun x16=>
 rF 36 x16 2 w fun x17=>
 rL 24 x17 w fun x18=>
 rN 24 3 x18 w fun x19=>
 oP (Instr.makeSlice 33 x19 x19) w fun x20 w=>
 rN 33 3 x20 w fun x22=>
 LOOPI [23] [(iV 0)] w fun u3 w next3=>
 rC (u3 23) x22 w fun x24=>
 BR x24
 (NIL a0 <|
 rF 92 a0 5 w fun x28=>
 rL 3 x28 w fun x29=>
 cL 110 [x29,(u3 23)] w fun x31 w=>
 rD (Op.unary .not x31) w fun x32=>
 BR x32
 (rX 33 x20 (u3 23) w fun x35=>
 oS 3 x35 (iV 63) w fun w=>
 rA (u3 23) (iV 1) w fun x36=>
 next3 [x36] w)
 (rA (u3 23) (iV 1) w fun x36=>
 next3 [x36] w))
 (LOOPI [7] [(Value.bool true)] w fun u9 w next9=>
 BR (u9 7)
 (NIL a0 <|
 rF 92 a0 6 w fun x40=>
 rL 3 x40 w fun x41=>
 cL 48 [x41] w fun x42 w=>
 rN 33 3 x42 w fun x43=>
 LOOPI [7,44] [(Value.bool false),(iV 0)] w fun u12 w next12=>
 rC (u12 44) x43 w fun x45=>
 BR x45
 (rX 33 x42 (u12 44) w fun x46=>
 rL 3 x46 w fun x47=>
 rX 33 x20 x47 w fun x53=>
 rL 3 x53 w fun x54=>
 cL 151 [a0,a1,x47,x54] w fun x55 w=>
 cL 183 [a0,x47] w fun x58 w=>
 rN 33 3 x58 w fun x59=>
 LOOPI [7,60] [(u12 7),(iV 0)] w fun u16 w next16=>
 rC (u16 60) x59 w fun x61=>
 BR x61
 (rX 33 x58 (u16 60) w fun x62=>
 rL 3 x62 w fun x63=>
 NIL a0 <|
 rF 92 a0 0 w fun x66=>
 rF 36 x66 4 w fun x67=>
 rL 34 x67 w fun x68=>
 rX 34 x68 x63 w fun x70=>
 rL 84 x70 w fun x71=>
 oP (Instr.alloc 84 true (.tuple #[])) w fun x13 w=>
 oS 84 x13 x71 w fun w=>
 (fun w=>rF 84 x13 0 w fun x72=>
 rL 3 x72 w fun x73=>
 rB .eql 3 T0 U0 x73 (iV 4) w fun x74=>
 BR x74
 (rF 84 x13 1 w fun x77=>
 rL 3 x77 w fun x78=>
 rX 33 x20 x78 w fun x79=>
 rL 3 x79 w fun x80=>
 rX 33 x55 x63 w fun x83=>
 rL 3 x83 w fun x84=>
 rB .and 3 T0 T0 x80 x84 w fun x85=>
 rF 84 x13 1 w fun x87=>
 rL 3 x87 w fun x88=>
 rX 33 x20 x88 w fun x89=>
 rL 3 x89 w fun x90=>
 rB .neq 3 T0 T0 x85 x90 w fun x91=>
 BR x91
 ((fun w=>rF 84 x13 1 w fun x94=>
 rL 3 x94 w fun x95=>
 rX 33 x20 x95 w fun x96=>
 rL 3 x96 w fun x97=>
 rX 33 x55 x63 w fun x100=>
 rL 3 x100 w fun x101=>
 rB .and 3 T0 T0 x97 x101 w fun x102=>
 rX 33 x20 x95 w fun x103=>
 oS 3 x103 x102 w fun w=>
 rA (u16 60) (iV 1) w fun x104=>
 next16 [(Value.bool true),x104] w) (World.drew1 w))
 (rA (u16 60) (iV 1) w fun x104=>
 next16 [(u16 7),x104] w))
 (rA (u16 60) (iV 1) w fun x104=>
 next16 [(u16 7),x104] w)) (World.drew1 w))
 (rA (u12 44) (iV 1) w fun x105=>
 next12 [(u16 7),x105] w))
 (next9 [(u12 7)] w))
 (R x20 w))
def cfg150:Cfg:=⟨extL,[],[(3,137430564928,[23]),(9,81129638414606681695651566204544,[7]),(12,81129638414606681678196819113600,[7,44]),(16,40564819207302187926389895737472,[7,60])],[(19,[0,1,2,3,4,5,6,7,8,9,10,11,12,13,14,15,16,17,18,19,20],0),(20,[0,1,2,3,4,5,6,7,8,9,10,11],0)],[],[],[]⟩
theorem F150_call {a0 a1:Value} {w:World} {R:VW} (h:F150 a0 a1 w R):cL 150 [a0,a1] w R:=co (g:=cfg150) Tryz.func150 (by kernel_rfl) (by kernel_rfl) (by kernel_rfl) h
open Rep (rep)
theorem BI.updM {c:DCode} (hc:CodeR c) {out:List Nat} (h:BI c out) {p i hh:Nat} (hu:UsedP c p) (hi:zay c p i) (ho:(zah c i).op=4) (hgz:∀ l,l<6→hh.testBit l=false→LostM c (tK (zbR c)) (tG (zbR c)) p none l) :
   BI c (out.set (agN c i) (zaC out (agN c i) &&& zaC (zbM c (zbR c) p hh) i)):=by
 have hp:=hu.lt hc
 have hil:=(za2 hc (by rw [hc.2.1.1];exact hp) hi).1
 have hq:=(zbv hc hil (.inl ho)).2
 refine ⟨by simp [h.len],fun x hx=>?_,fun r l hr hl hb=>?_,fun r l hr hl=>?_⟩
 · rcases zgy hx with rfl | hx
   · exact Nat.lt_of_le_of_lt Nat.and_le_left (h.lt0 _)
   exact h.lt x hx
 · rw [zbr (by rw [h.len];exact hq)] at hb
   split at hb
   · rename_i e
     subst e
     rw [Nat.testBit_and,Bool.and_eq_false_iff] at hb
     rcases hb with hb | hb
     · exact h.snd _ l hr hl hb
     refine .call hu hi ho ?_
     have k:=(zf0 hil hl).1 hb
     have key:∀ {i l:Nat},l<6→LostP c (tK (zbR c)) (tG (zbR c)) p (fun l=>hh.testBit l=true) i l→LostM c (tK (zbR c)) (tG (zbR c)) p (some i) l:=fun {i l} hl k=>by
       induction k with
       | ent h0=>exact .ent (hgz _ hl (by simpa using h0))
       | gen h0 hj h1=>exact .gen h0 hj h1
       | pass h0 hj _ h2 ih=>exact .pass h0 hj (ih hl) h2
     exact key hl k
   exact h.snd r l hr hl hb
 rw [zbr (by rw [h.len];exact hq)]
 split
 · rename_i e
   rw [Nat.testBit_and,e,h.root r l hr hl];rfl
 exact h.root r l hr hl
def CL (c:DCode) (out:List Nat) (p i:Nat):Prop:=zaC out (agN c i) &&& zaC (zbM c (zbR c) p (zaC out p)) i=zaC out (agN c i)
structure BQ (c:DCode) (out0:List Nat) (ag:Bool) (out:List Nat) (D:Nat→Nat→Prop):Prop where
 bi:BI c out
 yes:ag=true→out.sum<out0.sum
 no:ag=false→out=out0∧∀ p i,D p i→UsedP c p→zay c p i→(zah c i).op=4→CL c out0 p i
theorem BQ.mono {c:DCode} {out0 out:List Nat} {ag:Bool} {D D':Nat→Nat→Prop} (H:BQ c out0 ag out D) (h:∀ p i,UsedP c p→zay c p i→(zah c i).op=4→D' p i→D p i):BQ c out0 ag out D':=
 ⟨H.bi,H.yes,fun e=>⟨(H.no e).1,fun p i hd hu hl ho=>(H.no e).2 p i (h p i hu hl ho hd) hu hl ho⟩⟩
theorem BQ.set {c:DCode} (hc:CodeR c) {out0 out:List Nat} {ag:Bool} {D D':Nat→Nat→Prop} (H:BQ c out0 ag out D) {p i hh:Nat} (hu:UsedP c p) (hi:zay c p i) (ho:(zah c i).op=4) (hb:∀ l,l<6→hh.testBit l=false→LostM c (tK (zbR c)) (tG (zbR c)) p none l)
   (hne:zaC out (agN c i) &&& zaC (zbM c (zbR c) p hh) i≠zaC out (agN c i)):BQ c out0 true (out.set (agN c i) (zaC out (agN c i) &&& zaC (zbM c (zbR c) p hh) i)) D':=by
 have hil:=(za2 hc (by rw [hc.2.1.1];exact hu.lt hc) hi).1
 have hq:=(zbv hc hil (.inl ho)).2
 refine ⟨H.bi.updM hc hu hi ho hb,fun _=>?_,fun e=>by cases e⟩
 have h1:=zh9 (l:=out) (i:=agN c i) (v:=zaC out (agN c i) &&& zaC (zbM c (zbR c) p hh) i) (by rw [H.bi.len];exact hq)
 have h2:=zpG hne
 cases ag with
 | true=>have:=H.yes rfl;omega
 | false=>rw [(H.no rfl).1] at h1 h2 ⊢;omega
theorem BQ.skip {c:DCode} {out0 out:List Nat} {ag:Bool} {D D':Nat→Nat→Prop} (H:BQ c out0 ag out D) {p i hh:Nat} (hz:ag=false→hh=zaC out0 p) (hD:∀ q j,D' q j→D q j∨(q=p∧j=i)) (he:zaC out (agN c i) &&& zaC (zbM c (zbR c) p hh) i=zaC out (agN c i)):BQ c out0 ag out D':=
 ⟨H.bi,H.yes,fun e=>⟨(H.no e).1,fun q j hd hu hl ho=>by
   rcases hD q j hd with h | ⟨rfl,rfl⟩
   · exact (H.no e).2 q j h hu hl ho
   unfold CL;rw [←hz e,←(H.no e).1];exact he⟩⟩
def BS (c:DCode) (k:Nat) (out:List Nat):Prop:=out.length=c.procs.length∧∀ p,p<c.procs.length→(¬(p<k∧¬RootP c p)→zaC out p=0)∧(p<k→¬RootP c p→zaC out p=63)
theorem BS.fin {c:DCode} (hc:CodeR c) {out:List Nat} (h:BS c c.procs.length out):BI c out:=BI.start hc out h.1 fun p hp=>⟨fun hr=>(h.2 p hp).1 fun hn=>hn.2 hr,fun hr=>(h.2 p hp).2 hp hr⟩
theorem zlX {w W0 W1:World} {b:Nat} {v1:Value} {c:DCode} (hW:WAt W0 b c) (e0:Ext W0 w) (h1:Is W1 v1 (zf2 (zbR c))) (e1:Ext W1 w) (hc:CodeR c) :
   CALL Tryz.prog 150 [.pointer (some ⟨b,0,none⟩),v1] w fun r w'=>Ext w w'∧Own w.heap.size w' r (zaZ (zq7 c)):=by
 refine F150_call ?_
 unfold F150
 have h8:=hc.1.procs8
 have hil:=hc.f.ins
 have hTR:=zhq c
 refine NIL.mk rfl ?_
 refine zaa zaU ?_
 refine zaa zc5 ?_
 refine zab zdQ (zbe hW.wl.code) e0 fun v18 h18=>?_
 refine zaf u24 h18 ?_
 have hn:c.procs.length=c.procs.length:=rfl
 generalize hnn:c.procs.length=n at hn
 rw [hnn] at h8
 refine zdy (by omega) (by omega) fun w2 hx2 hM2=>?_
 have hs2:=hx2.size
 generalize hg:w.heap.size=g at *
 have hF2:FW w w2 g n (List.replicate n 0):=⟨hx2,hM2,by omega⟩
 have hB2:BS c 0 (List.replicate n 0):=⟨by simp [hnn],fun p hp=>⟨fun _=>by rw [←zaJ (by simp;omega)];simp,fun h=>by omega⟩⟩
 refine zig u33 ?_
 have hrs:zbs c<256:=zaB (by rw [hnn];omega)
 refine zaE n (fun k us w'=>∃ out,us=[.int .i64 (k:Int)]∧k≤n∧FW w w' g n out∧BS c k out) 0 (Nat.zero_le _) ⟨_,rfl,Nat.zero_le _,hF2,hB2⟩ ?_
 rintro k mk u w3 hkm ⟨out,hu,hkl,hF3,hB3⟩
 simp only [List.map_cons,List.map_nil,List.cons.injEq,and_true] at hu
 rw [hu]
 have hol:=hB3.1
 refine zal ?_
 refine br (fun hlt=>?_) (fun hge=>?_)
 · have hk:k<n:=by omega
   refine NIL.mk rfl ?_
   refine zaa zgj ?_
   refine zac ty3 hW.roots (e0.trans hF3.ext) fun _=>?_
   refine (zdd (m:=zbs c) (i:=k) (by omega) (by omega)).mono ?_
   rintro _ w4 ⟨hx4,rfl⟩
   have hF4:=hF3.step hx4
   have hbit:(zbs c).testBit k=true↔RootP c k:=by
     unfold zbs;rw [zbq]
     exact ⟨fun h=>h.2,fun h=>⟨by omega,h⟩⟩
   refine zaO ?_
   refine zbQ (fun hf=>?_) (fun hf=>?_)
   · have hnr:¬RootP c k:=fun h=>by rw [hbit.2 h] at hf;cases hf
     refine zcJ (α:=Int) rfl u33 ty3 hk ?_
     refine zbI (α:=Int) rfl ty3 hF4.mine (by rw [zae];omega) hk (zbF (v:=63) (by omega)) fun w5 hc5 hm5=>?_
     have hF5:=hF4.set (v:=63) hc5 hm5
     refine zag (by omega) ?_
     refine ⟨mk-1,by omega,k+1,by omega,_,rfl,by omega,hF5,by simp [hol],fun p hp=>?_⟩
     rw [zbr (by rw [hol,hnn];exact hk)]
     have:=hB3.2 p hp
     by_cases e:k=p
     · subst e
       exact ⟨fun h=>absurd ⟨by omega,hnr⟩ h,fun _ _=>by rw [if_pos rfl]⟩
     rw [if_neg e]
     exact ⟨fun h=>this.1 fun h2=>h ⟨by omega,h2.2⟩,fun h=>this.2 (by omega)⟩
   have hr:RootP c k:=hbit.1 (by simpa using hf)
   refine zag (by omega) ?_
   refine ⟨mk-1,by omega,k+1,by omega,_,rfl,by omega,hF4,hol,fun p hp=>?_⟩
   have:=hB3.2 p hp
   by_cases e:k=p
   · subst e
     exact ⟨fun _=>this.1 fun h=>h.2 hr,fun _ h=>absurd hr h⟩
   exact ⟨fun h=>this.1 fun h2=>h ⟨by omega,h2.2⟩,fun h=>this.2 (by omega)⟩
 have hk:k=n:=by omega
 rw [hk,←hnn] at hB3
 have hBI:=hB3.fin hc
 clear hF2 hM2 hB2 hu hkm hB3
 have hus:zch c<256:=zaB (by rw [hnn];omega)
 refine LOOPI.mk (fun m us w'=>∃ (ag:Bool) (out:List Nat),us=[.bool ag]∧m=out.sum+(if ag then 1 else 0)∧FW w w' g n out∧BI c out∧(ag=false→∀ p i,UsedP c p→zay c p i→(zah c i).op=4→CL c out p i)) (out.sum+1) ⟨true,out,rfl,rfl,hF3,hBI,fun e=>by cases e⟩ ?_
 rintro m u w6 ⟨ag,out,hu,hm,hF6,hB6,hsh⟩
 simp only [List.map_cons,List.map_nil,List.cons.injEq,and_true] at hu
 rw [hu]
 refine zbQ (fun hag=>?_) (fun hag=>?_)
 case refine_2=>
   rw [hB6.fin hc (hsh hag)] at hF6
   have hoo:=hF6.own
   rw [hg] at hoo
   exact ⟨hF6.ext,hoo⟩
 rw [hag,if_pos rfl] at hm
 refine NIL.mk rfl ?_
 refine zaa zgk ?_
 refine zac ty3 hW.used (e0.trans hF6.ext) fun _=>?_
 refine (zcc (m:=zch c) (by omega)).mono ?_
 rintro v42 w7 ⟨hx7,ho7⟩
 unfold zch at ho7
 rw [zbZ (by rw [hnn];omega)] at ho7
 have hF7:=hF6.step hx7
 have hg6:=hF6.lt
 have hL:∀ p,p∈zbh c.procs.length (UsedP c)↔UsedP c p:=fun p=>by rw [zaI];exact ⟨fun h=>h.2,fun h=>⟨h.lt hc,h⟩⟩
 have hLl:(zbh c.procs.length (UsedP c)).length≤8:=Nat.le_trans zbb (by rw [hnn];omega)
 generalize zbh c.procs.length (UsedP c)=L at *
 have hO7:=ho7.toI
 generalize hlo:w6.heap.size=lo at *
 generalize hhi:w7.heap.size=hi at *
 refine zaf u33 ho7.is ?_
 rw [zae]
 refine zaE L.length (fun k us w'=>∃ (ag:Bool) (out':List Nat),us=[.bool ag,.int .i64 (k:Int)]∧k≤L.length∧FW w w' g n out'∧OwnI lo hi w' v42 (zaZ L)∧BQ c out ag out' (fun p i=>p∈L.take k)) 0 (Nat.zero_le _) ⟨false,out,rfl,Nat.zero_le _,hF7,hO7,hB6,fun e=>(by cases e),fun _=>⟨rfl,fun p i h=>by simp at h⟩⟩ ?_
 rintro k mk u w8 hkm ⟨ag8,out8,hu,hkl,hF8,hO8,hQ8⟩
 obtain ⟨hu1,hu2⟩:=zey hu;clear hu
 rw [hu1,hu2]
 refine zal ?_
 refine br (fun hlt=>?_) (fun hge=>?_)
 case refine_2=>
   refine ⟨out8.sum+(if ag8 then 1 else 0),?_,ag8,out8,rfl,rfl,hF8,hQ8.bi,fun e p i hu hl ho=>?_⟩
   · cases ag8 with
     | true=>have:=hQ8.yes rfl;simp;omega
     | false=>rw [(hQ8.no rfl).1];simp;omega
   have:=hQ8.no e
   rw [this.1]
   exact this.2 p i (by rw [List.take_of_length_le (by omega)];exact (hL p).2 hu) hu hl ho
 have hk:k<L.length:=by omega
 refine zad u33 ty3 (i:=k) hO8.is (by rw [zae];exact hk) fun b2 o2 hA2=>?_
 rw [zaR] at hA2
 refine zac ty3 hA2 (Ext.refl _) fun _=>?_
 have htk:=fun x=>zaW hk (x:=x)
 have hup:=(hL L[k]).1 (List.getElem_mem hk)
 generalize L[k]=p at *
 have hpn:=hup.lt hc
 have hpe:p<c.entry.length:=by rw [hc.2.1.1];exact hpn
 have hl8:=hQ8.bi.len
 refine zad u33 ty3 (i:=p) hF8.mine.is (by rw [zae,hl8];exact hpn) fun b3 o3 hA3=>?_
 rw [zbf] at hA3
 refine zac ty3 hA3 (Ext.refl _) fun _=>?_
 have hh64:=hQ8.bi.lt0 p
 have hhb:∀ l,l<6→(zaC out8 p).testBit l=false→LostM c (tK (zbR c)) (tG (zbR c)) p none l:=fun l hl hb=>hQ8.bi.snd p l hpn hl hb
 have hhz:ag8=false→zaC out8 p=zaC out p:=fun e=>by rw [(hQ8.no e).1]
 generalize zaC out8 p=hh at *
 refine (zka hW.wl (e0.trans hF8.ext) h1 (e1.trans hF8.ext) hc hTR hpn hh64).mono ?_
 rintro v55 w9 ⟨hx9,ho9⟩
 have hF9:=hF8.step hx9
 have hO9:=hO8.ext hx9
 have hg8:=hF8.lt
 refine (zdW hW.wl (e0.trans hF9.ext) hc hpn).mono ?_
 rintro v58 w10 ⟨hx10,ho10⟩
 have hF10:=hF9.step hx10
 have hO10:=hO9.ext hx10
 have hg9:=hF9.lt
 have hA10:=ho9.toI.ext hx10
 have hM:∀ i,i∈zbh c.ins.length (zay c p)↔zay c p i:=fun i=>by rw [zaI];exact ⟨fun h=>h.2,fun h=>⟨(za2 hc hpe h).1,h⟩⟩
 have hMl:(zbh c.ins.length (zay c p)).length≤1500:=Nat.le_trans zbb hil
 generalize zbh c.ins.length (zay c p)=M at *
 have hLv10:=ho10.toI
 generalize hl9:w9.heap.size=lo9 at *
 generalize hl10:w10.heap.size=hi10 at *
 generalize hl8':w8.heap.size=lo8 at *
 refine zaf u33 ho10.is ?_
 rw [zae]
 have hfl:(zbM c (zbR c) p hh).length=c.ins.length:=zdU _ _ _ _
 have hf64:=zic (c:=c) (T:=zbR c) (p:=p) (h:=hh)
 refine zaE M.length (fun j us w'=>∃ (ag:Bool) (out':List Nat),us=[.bool ag,.int .i64 (j:Int)]∧j≤M.length∧FW w w' g n out'∧OwnI lo hi w' v42 (zaZ L)∧OwnI lo8 lo9 w' v55 (zaZ (zbM c (zbR c) p hh))∧OwnI lo9 hi10 w' v58 (zaZ M)∧BQ c out ag out' (fun q i=>q∈L.take k∨(q=p∧i∈M.take j))∧(ag=false→hh=zaC out p)) 0 (Nat.zero_le _) ⟨ag8,out8,rfl,Nat.zero_le _,hF10,hO10,hA10,hLv10,hQ8.mono fun q i _ _ _ h=>h.elim id fun h=>by simp at h,hhz⟩ ?_
 rintro j mj u w11 hjm ⟨ag11,out11,hu,hjl,hF11,hO11,hA11,hLv11,hQ11,hz11⟩
 obtain ⟨hu1,hu2⟩:=zey hu;clear hu
 rw [hu1,hu2]
 refine zal ?_
 refine br (fun hlt=>?_) (fun hge=>?_)
 case refine_2=>
   refine zag (by omega) ?_
   refine ⟨mk-1,by omega,k+1,by omega,ag11,out11,rfl,by omega,hF11,hO11,hQ11.mono fun q i hu hl ho h=>?_⟩
   rcases (htk q).1 h with h | rfl
   · exact .inl h
   exact .inr ⟨rfl,by rw [List.take_of_length_le (by omega)];exact (hM i).2 hl⟩
 have hj:j<M.length:=by omega
 refine zad u33 ty3 (i:=j) hLv11.is (by rw [zae];exact hj) fun b4 o4 hA4=>?_
 rw [zaR] at hA4
 refine zac ty3 hA4 (Ext.refl _) fun _=>?_
 have htj:=fun x=>zaW hj (x:=x)
 have hiv:=(hM M[j]).1 (List.getElem_mem hj)
 generalize M[j]=i at *
 have hin:=(za2 hc hpe hiv).1
 refine NIL.mk rfl ?_
 refine zaa zaU ?_
 refine zaa zaK ?_
 refine zab zdG (zat hW.wl.code) (e0.trans hF11.ext) fun v68 h68=>?_
 refine zad u34 zem h68 hin fun b5 o5 hA5=>?_
 rw [zaY] at hA5
 refine zab zem hA5 (e0.trans hF11.ext) fun v71 h71=>?_
 refine zbB zqc rfl zem rfl h71 (e0.trans hF11.ext) fun w12 hx12 hA12 hV12=>?_
 have hx13:=zao w12
 have hx123:=hx12.trans hx13
 have hF13:=hF11.step hx123
 have hO13:=hO11.ext hx123
 have hA13:=hA11.ext hx123
 have hLv13:=hLv11.ext hx123
 generalize World.drew1 w12=w13 at *
 refine zaa zbK ?_
 refine zac ty3 (zaG hA12) hx13 fun _=>?_
 refine zai ?_
 have hno:¬(zah c i).op=4→BQ c out ag11 out11 (fun q i=>q∈L.take k∨(q=p∧i∈M.take (j+1))):=fun hn=>hQ11.mono fun q i' _ _ ho h=>h.imp id fun ⟨h1,h2⟩=>⟨h1,by
   rcases (htj i').1 h2 with h | rfl
   · exact h
   exact absurd ho hn⟩
 refine br (fun c4=>?_) (fun c4=>?_)
 case refine_2=>
   refine zag (by omega) ?_
   exact ⟨mj-1,by omega,j+1,by omega,ag11,out11,rfl,by omega,hF13,hO13,hA13,hLv13,hno c4,hz11⟩
 obtain ⟨hag4,hagn⟩:=zbv hc hin (.inl c4)
 have hl11:=hQ11.bi.len
 have hset:=fun D'=>hQ11.set (D':=D') hc hup hiv c4 hhb
 have hskip:=hQ11.skip (D':=fun q i=>q∈L.take k∨(q=p∧i∈M.take (j+1))) (p:=p) (i:=i) hz11 fun q j' h=>by
   rcases h with h | ⟨h1,h2⟩
   · exact .inl (.inl h)
   rcases (htj j').1 h2 with h | h
   · exact .inl (.inr ⟨h1,h⟩)
   exact .inr ⟨h1,h⟩
 have hq64:=hQ11.bi.lt0 (agN c i)
 have ha64:=zeF hf64 i
 have hrO:∀ {w':World} {K:Value→Prop} (hF:FW w w' g n out11) (k:K (.int .i64 (zaC out11 (agN c i):Int))),RD Tryz.prog (Instr.indexAt 33 (.slice (some ⟨g,0,none⟩) n n) (.int .i64 (agN c i:Int))) w' fun x37=>RD Tryz.prog (Instr.loadAt 3 x37) w' K:=fun hF k=>by
   refine zad u33 ty3 (i:=agN c i) hF.mine.is (by rw [zae,hl11];exact hagn) fun b1 o1 hA1=>?_
   rw [zbf] at hA1
   exact zac ty3 hA1 (Ext.refl _) fun _=>k
 have hrA:∀ {w':World} {K:Value→Prop} (hA:OwnI lo8 lo9 w' v55 (zaZ (zbM c (zbR c) p hh))) (k:K (.int .i64 (zaC (zbM c (zbR c) p hh) i:Int))),RD Tryz.prog (Instr.indexAt 33 v55 (.int .i64 (i:Int))) w' fun x37=>RD Tryz.prog (Instr.loadAt 3 x37) w' K:=fun hA k=>by
   refine zad u33 ty3 (i:=i) hA.is (by rw [zae,hfl];exact hin) fun b1 o1 hA1=>?_
   rw [zbf] at hA1
   exact zac ty3 hA1 (Ext.refl _) fun _=>k
 refine zaa zcl ?_
 refine zac ty3 (zaQ hA12) hx13 fun _=>?_
 rw [hag4]
 refine hrO hF13 ?_
 refine hrA hA13 ?_
 refine ze6 (by omega) (by omega) ?_
 refine zaa zcl ?_
 refine zac ty3 (zaQ hA12) hx13 fun _=>?_
 rw [hag4]
 refine hrO hF13 ?_
 refine zaT ?_
 refine br (fun hne=>?_) (fun heq=>?_)
 · have hx14:=zao w13
   have hF14:=hF13.step hx14
   have hO14:=hO13.ext hx14
   have hA14:=hA13.ext hx14
   have hLv14:=hLv13.ext hx14
   generalize World.drew1 w13=w14 at *
   refine zaa zcl ?_
   refine zac ty3 (zaQ hA12) (hx13.trans hx14) fun _=>?_
   rw [hag4]
   refine hrO hF14 ?_
   refine hrA hA14 ?_
   refine ze6 (by omega) (by omega) ?_
   have hvl:=Nat.and_le_left (n:=zaC out11 (agN c i)) (m:=zaC (zbM c (zbR c) p hh) i)
   refine zcJ (α:=Int) rfl u33 ty3 (by omega) ?_
   refine zbI (α:=Int) rfl ty3 hF14.mine (by rw [zae,hl11,hnn]) (by omega) (zbF (v:=zaC out11 (agN c i) &&& zaC (zbM c (zbR c) p hh) i) (by omega)) fun w15 hc15 hm15=>?_
   have hF15:=hF14.set (v:=zaC out11 (agN c i) &&& zaC (zbM c (zbR c) p hh) i) hc15 hm15
   have hc15':=zfy hc15
   refine zag (by omega) ?_
   exact ⟨mj-1,by omega,j+1,by omega,true,_,rfl,by omega,hF15,hO14.chg hc15' (by omega),hA14.chg hc15' (by omega),hLv14.chg hc15' (by omega),hset _ fun e=>hne (by rw [e]),fun e=>by cases e⟩
 refine zag (by omega) ?_
 exact ⟨mj-1,by omega,j+1,by omega,ag11,out11,rfl,by omega,hF13,hO13,hA13,hLv13,hskip (Int.ofNat_inj.1 (Decidable.not_not.1 heq)),hz11⟩
def F68 (a0:Value) (w:World) (R:VW):Prop:=
 cL 149 [a0] w fun x12 w=>
 cL 150 [a0,x12] w fun x15 w=>
 NIL a0 <|
 rF 92 a0 0 w fun x18=>
 rF 36 x18 4 w fun x19=>
 rL 34 x19 w fun x20=>
 rN 34 3 x20 w fun x21=>
 oP (Instr.makeSlice 33 x21 x21) w fun x22 w=>
 rN 33 3 x22 w fun x24=>
 LOOPI [25] [(iV 0)] w fun u5 w next5=>
 rC (u5 25) x24 w fun x26=>
 BR x26
 (rX 33 x22 (u5 25) w fun x30=>
 oS 3 x30 (iV 63) w fun w=>
 rA (u5 25) (iV 1) w fun x31=>
 next5 [x31] w)
 (NIL a0 <|
 rF 92 a0 6 w fun x34=>
 rL 3 x34 w fun x35=>
 cL 48 [x35] w fun x36 w=>
 rN 33 3 x36 w fun x37=>
 LOOPI [38] [(iV 0)] w fun u10 w next10=>
 rC (u10 38) x37 w fun x39=>
 BR x39
 (rX 33 x36 (u10 38) w fun x40=>
 rL 3 x40 w fun x41=>
 rX 33 x15 x41 w fun x47=>
 rL 3 x47 w fun x48=>
 cL 151 [a0,x12,x41,x48] w fun x49 w=>
 NIL a0 <|
 rF 92 a0 0 w fun x52=>
 rF 36 x52 3 w fun x53=>
 rL 33 x53 w fun x54=>
 rX 33 x54 x41 w fun x56=>
 rL 3 x56 w fun x57=>
 LOOPI [10] [x57] w fun u14 w next14=>
 NIL a0 <|
 rF 92 a0 0 w fun x61=>
 rL 36 x61 w fun x62=>
 cL 119 [x62,x41] w fun x64 w=>
 rC (u14 10) x64 w fun x65=>
 BR x65
 (rX 33 x49 (u14 10) w fun x72=>
 rL 3 x72 w fun x73=>
 rX 33 x22 (u14 10) w fun x74=>
 oS 3 x74 x73 w fun w=>
 rA (u14 10) (iV 1) w fun x67=>
 next14 [x67] w)
 (rA (u10 38) (iV 1) w fun x75=>
 next10 [x75] w))
 (R x22 w))
def cfg68:Cfg:=⟨extL,[],[(5,4261412928,[25]),(10,75557863725639445513984,[38]),(14,37778643632581009998848,[10])],[],[],[],[]⟩
theorem F68_call {a0:Value} {w:World} {R:VW} (h:F68 a0 w R):cL 68 [a0] w R:=co (g:=cfg68) Tryz.func68 (by kernel_rfl) (by kernel_rfl) (by kernel_rfl) h
open Rep (rep)
def MS (c:DCode) (out:List Nat) (D:Nat→Prop):Prop:=out.length=c.ins.length∧∀ i,i<c.ins.length→D i→zaC out i=zdV c i
theorem MS.set {c:DCode} {out:List Nat} {D D':Nat→Prop} (h:MS c out D) {i v:Nat} (hi:i<c.ins.length) (hv:v=zdV c i) (hD:∀ j,D' j→D j∨j=i):MS c (out.set i v) D':=by
 refine ⟨by simp [h.1],fun j hj hd=>?_⟩
 rw [zbr (by rw [h.1];exact hi)]
 by_cases e:i=j
 · subst e;rw [if_pos rfl];exact hv
 rw [if_neg e]
 exact h.2 j hj ((hD j hd).resolve_right fun e'=>e e'.symm)
theorem MS.mono {c:DCode} {out:List Nat} {D D':Nat→Prop} (h:MS c out D) (hD:∀ j,j<c.ins.length→D' j→D j):MS c out D':=⟨h.1,fun j hj hd=>h.2 j hj (hD j hj hd)⟩
theorem MS.fin {c:DCode} {out:List Nat} {D:Nat→Prop} (h:MS c out D) (hD:∀ j,j<c.ins.length→D j):out=zdK c:=by
 refine List.ext_getElem (by rw [h.1,zgF]) fun i h1 h2=>?_
 have hi:i<c.ins.length:=by rw [←h.1];exact h1
 rw [zaJ h1,zaJ h2,zk9 hi,h.2 i hi (hD i hi)]
theorem zgK {c:DCode} (hc:CodeR c) {i:Nat} (hi:i<c.ins.length):∃ p,p<c.procs.length∧zap c i=p∧eN c p≤i∧i≤zN c p:=by
 obtain ⟨q,hq,h1,h2,h3⟩:=hc.f.find hc.1.procs8.2 (a:=(i:Int)) (by omega) (by omega)
 have hin:=znb hc hi hq h3
 exact ⟨q,by have:=hc.2.1.1;omega,h3,hin⟩
theorem zqt {w W0:World} {b:Nat} {c:DCode} (hW:WAt W0 b c) (e0:Ext W0 w) (hc:CodeR c) :
   CALL Tryz.prog 68 [.pointer (some ⟨b,0,none⟩)] w fun r w'=>Ext w w'∧Own w.heap.size w' r (zaZ (zdK c)):=by
 refine F68_call ?_
 unfold F68
 have h8:=hc.1.procs8
 have hil:=hc.f.ins
 have hTR:=zhq c
 refine (zlW hW e0 hc).mono ?_
 rintro v12 w1 ⟨hx1,ho1⟩
 have hs1:=hx1.size
 refine (zlX hW (e0.trans hx1) ho1.is (Ext.refl _) hc).mono ?_
 rintro v15 w2 ⟨hx2,ho2⟩
 have hs2:=hx2.size
 have hx12:=hx1.trans hx2
 have e2:=e0.trans hx12
 have hE2:=ho1.is.ext hx2
 have hB2:=ho2.is
 refine NIL.mk rfl ?_
 refine zaa zaU ?_
 refine zaa zaK ?_
 refine zab zdG (zat hW.wl.code) e2 fun v20 h20=>?_
 refine zaf u34 h20 ?_
 have hn:c.ins.length=c.ins.length:=rfl
 generalize hnn:c.ins.length=n at hn
 rw [hnn] at hil
 have hz0:=(zgI hc h8.2).2.2
 refine zdy (by omega) (by omega) fun w3 hx3 hM3=>?_
 have hs3:=hx3.size
 generalize hg:w2.heap.size=g at *
 have hF3:FW w2 w3 g n (fil n 0):=⟨hx3,by simpa [fil] using hM3,by omega⟩
 refine zig u33 ?_
 refine zaE n (fun k us w'=>us=[.int .i64 (k:Int)]∧k≤n∧FW w2 w' g n (fil n k)) 0 (Nat.zero_le _) ⟨rfl,Nat.zero_le _,hF3⟩ ?_
 rintro k mk u w4 hkm ⟨hu,hkl,hF4⟩
 simp only [List.map_cons,List.map_nil,List.cons.injEq,and_true] at hu
 rw [hu]
 refine zal ?_
 refine br (fun hlt=>?_) (fun hge=>?_)
 · have hk:k<n:=by omega
   refine zcJ (α:=Int) rfl u33 ty3 hk ?_
   refine zbI (α:=Int) rfl ty3 hF4.mine (by rw [zae,zni hkl]) hk (zbF (v:=63) (by omega)) fun w5 hc5 hm5=>?_
   have hF5:=hF4.set (v:=63) hc5 hm5
   rw [znj hk] at hF5
   refine zag (by omega) ?_
   exact ⟨mk-1,by omega,k+1,by omega,rfl,by omega,hF5⟩
 have hk:k=n:=by omega
 rw [hk,zla] at hF4
 have hMS:MS c (List.replicate n 63) (fun i=>¬UsedP c (zap c i).toNat):=⟨by simp [hnn],fun i hi hd=>by
   rw [←zaJ (by simp;omega)]
   obtain ⟨p,_,h1,_⟩:=zgK hc hi
   have hd':¬UsedP c (zap c i).toNat:=hd
   rw [h1,Int.toNat_natCast] at hd'
   rw [zlU (p:=p) h1 hd']
   simp⟩
 generalize List.replicate n 63=out at *
 clear hu hkm
 have hus:zch c<256:=zaB h8.1
 refine NIL.mk rfl ?_
 refine zaa zgk ?_
 refine zac ty3 hW.used (e2.trans hF4.ext) fun _=>?_
 refine (zcc (m:=zch c) (by omega)).mono ?_
 rintro v36 w5 ⟨hx5,ho5⟩
 unfold zch at ho5
 rw [zbZ (by omega)] at ho5
 have hF5:=hF4.step hx5
 have hg4:=hF4.lt
 have hL:∀ p,p∈zbh c.procs.length (UsedP c)↔UsedP c p:=fun p=>by rw [zaI];exact ⟨fun h=>h.2,fun h=>⟨h.lt hc,h⟩⟩
 have hLl:(zbh c.procs.length (UsedP c)).length≤8:=Nat.le_trans zbb h8.1
 generalize zbh c.procs.length (UsedP c)=L at *
 have hO5:=ho5.toI
 generalize hlo:w4.heap.size=lo at *
 generalize hhi:w5.heap.size=hi at *
 refine zaf u33 ho5.is ?_
 rw [zae]
 refine zaE L.length (fun k us w'=>∃ (out':List Nat),us=[.int .i64 (k:Int)]∧k≤L.length∧FW w2 w' g n out'∧OwnI lo hi w' v36 (zaZ L)∧MS c out' (fun i=>¬UsedP c (zap c i).toNat∨(zap c i).toNat∈L.take k)) 0 (Nat.zero_le _) ⟨out,rfl,Nat.zero_le _,hF5,hO5,hMS.mono fun j _ h=>h.elim id fun h=>by simp at h⟩ ?_
 rintro k mk u w8 hkm ⟨out8,hu,hkl,hF8,hO8,hS8⟩
 simp only [List.map_cons,List.map_nil,List.cons.injEq,and_true] at hu
 rw [hu]
 refine zal ?_
 refine br (fun hlt=>?_) (fun hge=>?_)
 case refine_2=>
   rw [hS8.fin fun j hj=>by
     by_cases hu:UsedP c (zap c j).toNat
     · exact .inr (by rw [List.take_of_length_le (by omega)];exact (hL _).2 hu)
     exact .inl hu] at hF8
   exact ⟨hx12.trans hF8.ext,hF8.own.mono (by omega)⟩
 have hk:k<L.length:=by omega
 refine zad u33 ty3 (i:=k) hO8.is (by rw [zae];exact hk) fun b2 o2 hA2=>?_
 rw [zaR] at hA2
 refine zac ty3 hA2 (Ext.refl _) fun _=>?_
 have htk:=fun x=>zaW hk (x:=x)
 have hup:=(hL L[k]).1 (List.getElem_mem hk)
 generalize L[k]=p at *
 have hpn:=hup.lt hc
 have hpe:p<c.entry.length:=by rw [hc.2.1.1];exact hpn
 have e8:=e2.trans hF8.ext
 refine zad u33 ty3 (i:=p) hB2 (by rw [zae,zif];exact hpn) fun b3 o3 hA3=>?_
 rw [zbf,znf hpn] at hA3
 refine zac ty3 hA3 hF8.ext fun _=>?_
 refine (zka hW.wl e8 hE2 hF8.ext hc hTR hpn (h:=zmq c p) zj6).mono ?_
 rintro v49 w9 ⟨hx9,ho9⟩
 have hF9:=hF8.step hx9
 have hO9:=hO8.ext hx9
 have hg8:=hF8.lt
 have hA9:=ho9.toI
 have e9:=e2.trans hF9.ext
 generalize hl8':w8.heap.size=lo8 at *
 generalize hl9:w9.heap.size=lo9 at *
 obtain ⟨he1,he2,he3⟩:=zfR hc hpe
 obtain ⟨hz1,hz2,hz3⟩:=zgI hc hpn
 obtain ⟨_,hez,_⟩:=zj7 hc hpe
 have hval:∀ i,eN c p≤i→i≤zN c p→zaC (zbM c (zbR c) p (zmq c p)) i=zdV c i:=fun i h1 h2=>(zgG (znc hc hpe h1 h2) hup).symm
 have hin:∀ i,i<c.ins.length→(zap c i).toNat=p→eN c p≤i∧i≤zN c p:=fun i hi h=>by
   obtain ⟨q,hq,h1,h2⟩:=zgK hc hi
   have:q=p:=by rw [h1,Int.toNat_natCast] at h;exact h
   subst this;exact h2
 have hfl:(zbM c (zbR c) p (zmq c p)).length=c.ins.length:=zdU _ _ _ _
 have hf64:=zic (c:=c) (T:=zbR c) (p:=p) (h:=zmq c p)
 generalize zbM c (zbR c) p (zmq c p)=fl at *
 refine NIL.mk rfl ?_
 refine zaa zaU ?_
 refine zaa zbJ ?_
 refine zab zeL (zaD hW.wl.code) e9 fun v54 h54=>?_
 refine zad u33 ty3 h54 hpe fun b5 o5 hA5=>?_
 rw [zcH hpe,he1] at hA5
 refine zac ty3 hA5 e9 fun _=>?_
 generalize hE:eN c p=E at *
 generalize hZ:zN c p=Z at *
 refine zaE (Z+1-E) (fun j us w'=>∃ (out':List Nat),us=[.int .i64 ((E+j:Nat):Int)]∧E+j≤Z+1∧FW w2 w' g n out'∧OwnI lo hi w' v36 (zaZ L)∧OwnI lo8 lo9 w' v49 (zaZ fl)∧MS c out' (fun i=>¬UsedP c (zap c i).toNat∨(zap c i).toNat∈L.take k∨(E≤i∧i<E+j))) 0 (Nat.zero_le _) ⟨out8,rfl,by omega,hF9,hO9,hA9,hS8.mono fun i _ h=>h.imp id fun h=>h.resolve_right fun h=>by omega⟩ ?_
 rintro j mj u w11 hjm ⟨out11,hu,hjl,hF11,hO11,hA11,hS11⟩
 simp only [List.map_cons,List.map_nil,List.cons.injEq,and_true] at hu
 rw [hu]
 have e11:=e2.trans hF11.ext
 refine NIL.mk rfl ?_
 refine zaa zaU ?_
 refine zab zfm hW.wl.code e11 fun v62 h62=>?_
 refine (zca h62 e11 (by omega)).mono ?_
 rintro _ w12 ⟨hx12',rfl⟩
 rw [hz1]
 have hF12:=hF11.step hx12'
 have hO12:=hO11.ext hx12'
 have hA12:=hA11.ext hx12'
 refine zal ?_
 refine br (fun hlt=>?_) (fun hge=>?_)
 case refine_2=>
   refine zag (by omega) ?_
   refine ⟨mk-1,by omega,k+1,by omega,out11,rfl,by omega,hF12,hO12,hS11.mono fun i hi h=>?_⟩
   rcases h with h | h
   · exact .inl h
   rcases (htk _).1 h with h | h
   · exact .inr (.inl h)
   have:=hin i hi h
   exact .inr (.inr (by omega))
 have hij:E+j<n:=by omega
 have hv:=hval (E+j) (by omega) (by omega)
 have hv64:=zeF hf64 (E+j)
 refine zad u33 ty3 (i:=E+j) hA12.is (by rw [zae,hfl,hnn];exact hij) fun b6 o6 hA6=>?_
 rw [zbf] at hA6
 refine zac ty3 hA6 (Ext.refl _) fun _=>?_
 refine zcJ (α:=Int) rfl u33 ty3 hij ?_
 refine zbI (α:=Int) rfl ty3 hF12.mine (by rw [zae,hS11.1,hnn]) hij (zbF (v:=zaC fl (E+j)) (by omega)) fun w13 hc13 hm13=>?_
 have hF13:=hF12.set (v:=zaC fl (E+j)) hc13 hm13
 have hc13':=zfy hc13
 refine zag (by omega) ?_
 refine ⟨mj-1,by omega,j+1,by omega,_,rfl,by omega,hF13,hO12.chg hc13' (by omega),hA12.chg hc13' (by omega),hS11.set (by rw [hnn];exact hij) hv fun i h=>?_⟩
 by_cases e:i=E+j
 · exact .inr e
 exact .inl (h.imp id fun h=>h.imp id fun h=>by omega)
def MC (c:DCode) (ms:List Bool) (i:Nat):Prop:=
 ((zah c i).op=4→mkd ms (eN c (agN c i))∧(mkd ms (zN c (agN c i))→∀ j∈zax c i,mkd ms j))∧(¬(zah c i).op=4→∀ j∈zax c i,mkd ms j)
structure TP (c:DCode) (ms0:List Bool) (ag:Bool) (ms:List Bool) (k:Nat):Prop where
 len:ms.length=c.ins.length
 snd:∀ i,mkd ms i→MetP c i
 root:∀ p,RootP c p→mkd ms (eN c p)
 yes:ag=true→zk5 ms0<zk5 ms
 no:ag=false→ms=ms0∧∀ i,i<k→mkd ms0 i→MC c ms0 i
theorem zf4 {ms:List Bool} {i j:Nat} (h:mkd ms j):mkd (ms.set i true) j:=by
 have hl:=zk4 h
 by_cases hi:i<ms.length
 · exact (zdT hi).2 (.inl h)
 rw [List.set_eq_of_length_le (by omega)];exact h
theorem znm {ms:List Bool} {i:Nat} (h:mkd ms i):ms.set i true=ms:=by
 have hl:=zk4 h
 rw [zcg hl] at h
 rw [←h];exact List.set_getElem_self hl
def zq9 (ms:List Bool) (i:Nat) (ag:Bool):Bool:=ag || !ms.getD i false
theorem zld {ms:List Bool} {i:Nat} {ag:Bool} (h:mkd ms i):zq9 ms i ag=ag:=by
 unfold mkd at h;unfold zq9;rw [h];simp
theorem zle {ms:List Bool} {i:Nat} {ag:Bool} (h:¬mkd ms i):zq9 ms i ag=true:=by
 unfold mkd at h;unfold zq9;rw [Bool.not_eq_true] at h;rw [h];simp
theorem TP.meet {c:DCode} {ms0 ms:List Bool} {ag:Bool} {k i:Nat} (h:TP c ms0 ag ms k) (hi:i<c.ins.length) (hm:MetP c i):TP c ms0 (zq9 ms i ag) (ms.set i true) k:=by
 by_cases hk:mkd ms i
 · rw [zld hk,znm hk];exact h
 rw [zle hk]
 have hc:=zh5 (by rw [h.len];exact hi) hk
 refine ⟨by simp [h.len],fun j hj=>?_,fun p hp=>zf4 (h.root p hp),fun _=>?_,fun e=>by cases e⟩
 · rcases (zdT (by rw [h.len];exact hi)).1 hj with h1 | h1
   · exact h.snd j h1
   rw [h1];exact hm
 cases ag with
 | true=>have:=h.yes rfl;omega
 | false=>rw [←(h.no rfl).1];omega
theorem TP.next {c:DCode} {ms0 ms:List Bool} {ag:Bool} {k:Nat} (h:TP c ms0 ag ms k) (hk:mkd ms k→MC c ms k):TP c ms0 ag ms (k+1):=
 ⟨h.len,h.snd,h.root,h.yes,fun e=>⟨(h.no e).1,fun i hi hm=>by
   by_cases e2:i=k
   · subst e2;rw [(h.no e).1] at hk;exact hk hm
   exact (h.no e).2 i (by omega) hm⟩⟩
theorem TP.fin {c:DCode} (hc:CodeR c) {ms0 ms:List Bool} (h:TP c ms0 false ms c.ins.length):ms=zq8 c:=by
 obtain ⟨h1,h2⟩:=h.no rfl
 refine zec h.len fun i hi=>⟨h.snd i,fun hm=>?_⟩
 have hC:MetC c (mkd ms):=⟨h.root,fun i hi ho=>?_,fun i j hi ho hj=>?_,fun i j hi ho hz hj=>?_⟩
 · exact hC.all hm
 all_goals
   have hil:=zk4 hi
   rw [h.len] at hil
   have:=h2 i hil (by rw [←h1];exact hi)
   rw [←h1] at this
 · exact (this.1 ho).1
 · exact this.2 ho j hj
 exact (this.1 ho).2 hz j hj
theorem TP.again {c:DCode} {ms0 ms:List Bool} {ag:Bool} {k:Nat} (h:TP c ms0 ag ms k):TP c ms false ms 0:=
 ⟨h.len,h.snd,h.root,fun e=>(by cases e),fun _=>⟨rfl,fun i hi=>by omega⟩⟩
theorem zrw {m n:Nat} (h:¬n ||| m=n):n<n ||| m:=by
 have:n≤n ||| m:=Nat.left_le_or
 omega
end Go.Proofs.YtcnglfeoglgebaaGreat
namespace Go.Sh
open Rep (rep)
theorem ChgI.one {w w':World} {g:Nat} (h:ChgI g (g+1) w w'):Chg [g] w w':=⟨h.os,h.tape,h.output,h.size,fun b hb hn=>h.block b hb (by simp at hn;omega)⟩
theorem OwnI.chgF {α:Type} [Rep α] {w w':World} {lo hi:Nat} {v:Value} {x:α} {F:List Nat} (h:OwnI lo hi w v x) (hc:Chg F w w') (hd:∀ b∈F,b<lo∨hi≤b):OwnI lo hi w' v x:=by
 obtain ⟨G,hm,hG⟩:=h
 exact ⟨G,hm.keep fun b hb=>hc.block b (hm.lt b hb) fun hF=>by have:=hG b hb;have:=hd b hF;omega,hG⟩
theorem Blk.chgF {w w':World} {g e:Nat} {cs:List Value} {F:List Nat} (h:Blk g e w cs) (hc:Chg F w w') (hd:g∉F):Blk g e w' cs:=h.keep (hc.block g h.lt hd)
theorem Ext.chgF {w0 w w':World} {F:List Nat} (h:Ext w0 w) (hc:Chg F w w') (hd:∀ b∈F,w0.heap.size≤b):Ext w0 w':=
 ⟨hc.os.trans h.os,hc.tape.trans h.tape,hc.output.trans h.output,Nat.le_trans h.size hc.size,fun b hb=>(hc.block b (Nat.lt_of_lt_of_le hb h.size) fun hF=>by have:=hd b hF;omega).trans (h.block b hb)⟩
end Go.Sh
namespace Go.Proofs.YtcnglfeoglgebaaGreat
open Go Go.Sh Go.Proofs
open Rep (rep)
def F154 (a0 a1 a2:Value) (w:World) (R:VW):Prop:=
 rL 90 a1 w fun x4=>
 rX 90 x4 a0 w fun x6=>
 rL 4 x6 w fun x7=>
 rD (Op.unary .not x7) w fun x8=>
 BR x8
 (rL 90 a1 w fun x9=>
 rX 90 x9 a0 w fun x11=>
 oS 4 x11 (Value.bool true) w fun w=>
 oS 4 a2 (Value.bool true) w fun w=>
 R (Value.tuple #[]) w)
 (R (Value.tuple #[]) w)
def cfg154:Cfg:=⟨extL,[],[],[],[],[],[]⟩
theorem F154_call {a0 a1 a2:Value} {w:World} {R:VW} (h:F154 a0 a1 a2 w R):cL 154 [a0,a1,a2] w R:=co (g:=cfg154) Tryz.func154 (by kernel_rfl) (by kernel_rfl) (by kernel_rfl) h
def F70 (a0:Value) (w:World) (R:VW):Prop:=
 NIL a0 <|
 rF 92 a0 0 w fun x14=>
 rF 36 x14 4 w fun x15=>
 rL 34 x15 w fun x16=>
 rN 34 3 x16 w fun x17=>
 oP (Instr.makeSlice 90 x17 x17) w fun x18 w=>
 oP (Instr.alloc 90 true (.tuple #[])) w fun x3 w=>
 oS 90 x3 x18 w fun w=>
 NIL a0 <|
 rF 92 a0 5 w fun x21=>
 rL 3 x21 w fun x22=>
 cL 48 [x22] w fun x23 w=>
 rN 33 3 x23 w fun x24=>
 LOOPI [25] [(iV 0)] w fun u3 w next3=>
 rC (u3 25) x24 w fun x26=>
 BR x26
 (rX 33 x23 (u3 25) w fun x27=>
 rL 3 x27 w fun x28=>
 (fun w=>rL 90 x3 w fun x29=>
 NIL a0 <|
 rF 92 a0 0 w fun x32=>
 rF 36 x32 3 w fun x33=>
 rL 33 x33 w fun x34=>
 rX 33 x34 x28 w fun x36=>
 rL 3 x36 w fun x37=>
 rX 90 x29 x37 w fun x38=>
 oS 4 x38 (Value.bool true) w fun w=>
 rA (u3 25) (iV 1) w fun x39=>
 next3 [x39] w) (World.drew1 w))
 (oP (Instr.alloc 4 true (.tuple #[])) w fun x6 w=>
 oS 4 x6 (Value.bool true) w fun w=>
 LOOPI [6] [x6] w fun u8 w next8=>
 rL 4 (u8 6) w fun x40=>
 BR x40
 (oS 4 (u8 6) (Value.bool false) w fun w=>
 rD (Instr.makeFunc (Go.Fn.func 154) [].toArray [x3,(u8 6)].toArray) w fun x41=>
 NIL a0 <|
 rF 92 a0 0 w fun x44=>
 rF 36 x44 4 w fun x45=>
 rL 34 x45 w fun x46=>
 rN 34 3 x46 w fun x47=>
 LOOPI [48] [(iV 0)] w fun u12 w next12=>
 rC (u12 48) x47 w fun x49=>
 BR x49
 (rX 34 x46 (u12 48) w fun x51=>
 rL 84 x51 w fun x52=>
 oP (Instr.alloc 84 true (.tuple #[])) w fun x9 w=>
 oS 84 x9 x52 w fun w=>
 rL 90 x3 w fun x53=>
 rX 90 x53 (u12 48) w fun x55=>
 rL 4 x55 w fun x56=>
 rD (Op.unary .not x56) w fun x57=>
 BR x57
 (rA (u12 48) (iV 1) w fun x96=>
 next12 [x96] w)
 (JOIN [] (fun J18=>
 rF 84 x9 0 w fun x58=>
 rL 3 x58 w fun x59=>
 rB .eql 3 T0 U0 x59 (iV 4) w fun x60=>
 BR x60
 ((fun w=>NIL a0 <|
 rF 92 a0 0 w fun x64=>
 rF 36 x64 3 w fun x65=>
 rL 33 x65 w fun x66=>
 rF 84 x9 1 w fun x67=>
 rL 3 x67 w fun x68=>
 rX 33 x66 x68 w fun x69=>
 rL 3 x69 w fun x70=>
 OPN tp (zdJ x41 [x70]) w fun x71 w=>
 (fun w=>rL 90 x3 w fun x72=>
 NIL a0 <|
 rF 92 a0 0 w fun x75=>
 rL 36 x75 w fun x76=>
 rF 84 x9 1 w fun x77=>
 rL 3 x77 w fun x78=>
 (fun w_=>cL 119 [x76,x78] w_ fun x79 w=>
 Ext w_ w ∧
 rB .sub 3 T0 U0 x79 (iV 1) w fun x80=>
 rX 90 x72 x80 w fun x81=>
 rL 4 x81 w fun x82=>
 rD (Op.unary .not x82) w fun x83=>
 BR x83
 (rA (u12 48) (iV 1) w fun x96=>
 next12 [x96] w)
 (J18 [] w)) w) (World.drew1 w)) (World.drew1 w))
 (J18 [] w)) (fun u18 w=>
 cL 153 [a0,(u12 48)] w fun x86 w=>
 rN 33 3 x86 w fun x87=>
 LOOPI [88] [(iV 0)] w fun u19 w next19=>
 rC (u19 88) x87 w fun x89=>
 BR x89
 (rX 33 x86 (u19 88) w fun x90=>
 rL 3 x90 w fun x91=>
 OPN tp (zdJ x41 [x91]) w fun x94 w=>
 rA (u19 88) (iV 1) w fun x95=>
 next19 [x95] w)
 (rA (u12 48) (iV 1) w fun x96=>
 next12 [x96] w))))
 (rL 4 (u8 6) w fun x97=>
 oP (Instr.alloc 4 true (.tuple #[])) w fun x6 w=>
 oS 4 x6 x97 w fun w=>
 next8 [x6] w))
 (rL 90 x3 w fun x98=>
 R x98 w))
def cfg70:Cfg:=⟨extL,[(18,19342812825603690643587072,[])],[(3,1099478073376,[25]),(8,316912650057057349274664176576,[6]),(12,158456325028528393712111192832,[48]),(19,78918677504442992524819171328,[88])],[(5,[0,1,2,3,4,5,6,7,8,9,10],0),(16,[0,1,2,3,4,5,6,7,8,9,10],0),(17,[0,1,2,3,4,5,6,7,8,9,10,11],128)],[],[],[]⟩
theorem F70_call {a0:Value} {w:World} {R:VW} (h:F70 a0 w R):cL 70 [a0] w R:=co (g:=cfg70) Tryz.func70 (by kernel_rfl) (by kernel_rfl) (by kernel_rfl) h
open Rep (rep)
theorem zlf {P:Program} {f:Nat} {args caps:List Value} {w:World} {K:Value→World→Prop} (hE:zcC P f=true) (h:CALL P f (args++caps) w K):OPN P (zdJ (.func (.func f) #[] caps.toArray) args) w K:=by
 obtain ⟨h⟩:=h
 refine .enter f (args++caps).toArray w ?_ h
 simp [zdJ,Deferred.ofValue,invoke,zdN hE]
theorem zpK:zcC Tryz.prog 154=true:=by kernel_rfl
theorem zst:zbt Tryz.prog 90=some [.slice none 0 0]:=by kernel_rfl
theorem zei {w:World} {lo hi:Nat} {u:Value} (h:u.oneCell'=true):OwnI lo hi w u (⟨u⟩:Raw):=⟨[],⟨⟨[u],⟨rfl,rfl,h⟩,rfl⟩,List.nodup_nil,Wr.nil _⟩,by simp⟩
theorem zfA {t by_:Nat} {z u:Value} {w:World} {K:Value→World→Prop} (hz:zbt Tryz.prog t=some [z]) (ht:tyI Tryz.prog t=some (1,by_,false)) (hu:u.oneCell'=true) (k:∀ w',Ext w w'→Blk w.heap.size t w' [u]→K (.pointer (some ⟨w.heap.size,0,none⟩)) w') :
   OP Tryz.prog (Instr.alloc t true (.tuple #[])) w fun p w1=>OPU Tryz.prog (Instr.storeAt t p u) w1 fun w2=>K p w2:=by
 refine zcm hz fun w1 hx1 hB1=>?_
 refine zcp (α:=Raw) (lo:=0) (hi:=0) ht rfl rfl hB1 (by simp) (zei hu) fun w2 hc2 hB2=>?_
 exact k w2 (hx1.chgI hc2 (Nat.le_refl _)) hB2
structure MW (w1 w:World) (gv g ga n:Nat) (ms:List Bool) (ag:Bool):Prop where
 ext:Ext w1 w
 var:Blk gv 90 w [.slice (some ⟨g,0,none⟩) n n]
 mks:Mine [g] w (.slice (some ⟨g,0,none⟩) n n) ms
 agn:Blk ga 4 w [.bool ag]
 n1:gv≠g
 n2:gv≠ga
 n3:g≠ga
 g0:w1.heap.size≤g
 g1:w1.heap.size≤gv
 g2:w1.heap.size≤ga
section
variable {w1 w w':World} {gv g ga n:Nat} {ms:List Bool} {ag:Bool}
theorem MW.step (h:MW w1 w gv g ga n ms ag) (hx:Ext w w'):MW w1 w' gv g ga n ms ag:=⟨h.ext.trans hx,h.var.ext hx,h.mks.ext hx,h.agn.ext hx,h.n1,h.n2,h.n3,h.g0,h.g1,h.g2⟩
theorem MW.mark {ms':List Bool} (h:MW w1 w gv g ga n ms ag) (hc:Chg [g] w w') (hm:Mine [g] w' (.slice (some ⟨g,0,none⟩) n n) ms'):MW w1 w' gv g ga n ms' ag:=
 ⟨h.ext.chgF hc (by simp [h.g0]),h.var.chgF hc (by simp [h.n1]),hm,h.agn.chgF hc (by simp [Ne.symm h.n3]),h.n1,h.n2,h.n3,h.g0,h.g1,h.g2⟩
theorem MW.agains {ag':Bool} (h:MW w1 w gv g ga n ms ag) (hc:Chg [ga] w w') (hB:Blk ga 4 w' [.bool ag']):MW w1 w' gv g ga n ms ag':=
 ⟨h.ext.chgF hc (by simp [h.g2]),h.var.chgF hc (by simp [h.n2]),h.mks.keep fun b hb=>by
   simp only [List.mem_cons,List.not_mem_nil,or_false] at hb;subst hb
   exact hc.block b (h.mks.lt b (by simp)) (by simp [h.n3]),hB,h.n1,h.n2,h.n3,h.g0,h.g1,h.g2⟩
theorem MW.cell {ga':Nat} {ag':Bool} (h:MW w1 w gv g ga n ms ag) (hx:Ext w w') (hB:Blk ga' 4 w' [.bool ag']) (hg:w.heap.size≤ga'):MW w1 w' gv g ga' n ms ag':=
 ⟨h.ext.trans hx,h.var.ext hx,h.mks.ext hx,hB,h.n1,by have:=h.var.lt;omega,by have:=h.mks.lt g (by simp);omega,h.g0,h.g1,by have:=h.ext.size;omega⟩
theorem znn {i:Nat} (h:MW w1 w gv g ga n ms ag) (hi:i<n) (hl:ms.length=n) :
   CALL Tryz.prog 154 [.int .i64 (i:Int),.pointer (some ⟨gv,0,none⟩),.pointer (some ⟨ga,0,none⟩)] w fun r w'=>r=.tuple #[]∧MW w1 w' gv g ga n (ms.set i true) (zq9 ms i ag)∧Chg [g,ga] w w':=by
 refine F154_call ?_
 unfold F154
 refine zas zmG h.var rfl ?_
 refine zad u90 ty4 h.mks.is (by rw [hl];exact hi) fun b1 o1 hA1=>?_
 refine zb1 ty4 hA1 (Ext.refl _) ?_
 have hmk:=zcg (ms:=ms) (i:=i) (by rw [hl];exact hi)
 refine zaO ?_
 refine zbQ (fun hf=>?_) (fun hf=>?_)
 · have hn:¬mkd ms i:=by rw [hmk];simpa using hf
   rw [zle hn]
   refine zas zmG h.var rfl ?_
   refine zcJ (α:=Bool) rfl u90 ty4 hi ?_
   refine zbI (α:=Bool) rfl ty4 h.mks hl hi zed fun w2 hc2 hm2=>?_
   have h2:=h.mark hc2 hm2
   refine zcp (α:=Raw) (lo:=0) (hi:=0) ty4 rfl rfl h2.agn (by simp) (zei rfl) fun w3 hc3 hB3=>?_
   exact ⟨rfl,h2.agains hc3.one hB3,(hc2.mono (by simp)).trans (hc3.one.mono (by simp))⟩
 have hy:mkd ms i:=by rw [hmk];simpa using hf
 rw [zld hy,znm hy]
 exact ⟨rfl,h,Chg.refl _ _⟩
end
theorem zrx {w W0:World} {b:Nat} {c:DCode} (hW:WAt W0 b c) (e0:Ext W0 w) (hc:CodeR c) :
   CALL Tryz.prog 70 [.pointer (some ⟨b,0,none⟩)] w fun r w'=>Ext w w'∧Own w.heap.size w' r (zq8 c):=by
 refine F70_call ?_
 unfold F70
 have h8:=hc.1.procs8
 have hil:=hc.f.ins
 have hcode:=hW.wl.code
 refine NIL.mk rfl ?_
 refine zaa zaU ?_
 refine zaa zaK ?_
 refine zab zdG (zat hcode) e0 fun v16 h16=>?_
 refine zaf u34 h16 ?_
 have hz0:=(zgI hc h8.2).2.2
 have hn:c.ins.length=c.ins.length:=rfl
 generalize hnn:c.ins.length=n at hn
 rw [hnn] at hil
 refine zh6 (by omega) (by omega) fun w1 hx1 hM1=>?_
 have hs1:=hx1.size
 have hg1:=hM1.lt _ (List.mem_singleton.2 rfl)
 generalize hg:w.heap.size=g at *
 refine zfA zst zmG rfl fun w2 hx2 hB2=>?_
 have hs2:=hx2.size
 have hM2:=hM1.ext hx2
 generalize hgv:w1.heap.size=gv at *
 refine NIL.mk rfl ?_
 refine zaa zgj ?_
 refine zac ty3 hW.roots (e0.trans (hx1.trans hx2)) fun _=>?_
 have hrs:zbs c<256:=zaB h8.1
 refine (zcc (m:=zbs c) (by omega)).mono ?_
 rintro v23 w3 ⟨hx3,ho3⟩
 unfold zbs at ho3
 rw [zbZ (by omega)] at ho3
 have hL:∀ p,p∈zbh c.procs.length (RootP c)↔RootP c p:=fun p=>by rw [zaI];exact ⟨fun h=>h.2,fun h=>⟨h.lt hc,h⟩⟩
 have hLl:(zbh c.procs.length (RootP c)).length≤8:=Nat.le_trans zbb h8.1
 generalize zbh c.procs.length (RootP c)=L at *
 have hs3:=hx3.size
 have hgv2:=hB2.lt
 refine zaf u33 ho3.is ?_
 rw [zae]
 refine zaE L.length (fun k us w'=>∃ ms,us=[.int .i64 (k:Int)]∧k≤L.length∧Ext w w'∧Blk gv 90 w' [.slice (some ⟨g,0,none⟩) n n]∧Mine [g] w' (.slice (some ⟨g,0,none⟩) n n) ms∧OwnI w2.heap.size w3.heap.size w' v23 (zaZ L)∧ms.length=n∧(∀ i,mkd ms i→MetP c i)∧∀ p∈L.take k,mkd ms (eN c p)) 0 (Nat.zero_le _) ⟨_,rfl,Nat.zero_le _,hx1.trans (hx2.trans hx3),hB2.ext hx3,hM2.ext hx3,ho3.toI,by simp,fun i h=>absurd h zcq,by simp⟩ ?_
 rintro k mk u w4 hkm ⟨ms,hu,hkl,hx4,hB4,hM4,hO4,hl4,hsn4,hrt4⟩
 simp only [List.map_cons,List.map_nil,List.cons.injEq,and_true] at hu
 rw [hu]
 refine zal ?_
 refine br (fun hlt=>?_) (fun hge=>?_)
 · have hk:k<L.length:=by omega
   refine zad u33 ty3 (i:=k) hO4.is (by rw [zae];exact hk) fun b2 o2 hA2=>?_
   rw [zaR] at hA2
   refine zac ty3 hA2 (Ext.refl _) fun _=>?_
   have htk:=fun x=>zaW hk (x:=x)
   have hrp:=(hL L[k]).1 (List.getElem_mem hk)
   generalize L[k]=p at *
   have hpe:p<c.entry.length:=by rw [hc.2.1.1];exact hrp.lt hc
   obtain ⟨he1,he2,_⟩:=zfR hc hpe
   have hxd:=zao w4
   have hx5:=hx4.trans hxd
   have hB5:=hB4.ext hxd
   have hM5:=hM4.ext hxd
   have hO5:=hO4.ext hxd
   generalize World.drew1 w4=w5 at *
   refine zas zmG hB5 rfl ?_
   refine NIL.mk rfl ?_
   refine zaa zaU ?_
   refine zaa zbJ ?_
   refine zab zeL (zaD hcode) (e0.trans hx5) fun v34 h34=>?_
   refine zad u33 ty3 h34 hpe fun b5 o5 hA5=>?_
   rw [zcH hpe,he1] at hA5
   refine zac ty3 hA5 (e0.trans hx5) fun _=>?_
   refine zcJ (α:=Bool) rfl u90 ty4 (by omega) ?_
   refine zbI (α:=Bool) rfl ty4 hM5 hl4 (by omega) zed fun w6 hc6 hm6=>?_
   refine zag (by omega) ?_
   refine ⟨mk-1,by omega,k+1,by omega,_,rfl,by omega,hx5.chgF hc6 (by simp [hg]),hB5.chgF hc6 (by simp;omega),hm6,hO5.chgF hc6 (by simp;omega),by simp [hl4],fun i hi=>?_,fun q hq=>?_⟩
   · rcases (zdT (by rw [hl4];omega)).1 hi with h | h
     · exact hsn4 i h
     rw [h];exact .root hrp
   rcases (htk q).1 hq with h | h
   · exact zf4 (hrt4 q h)
   rw [h];exact (zdT (by rw [hl4];omega)).2 (.inr rfl)
 have hrt:∀ p,RootP c p→mkd ms (eN c p):=fun p hp=>hrt4 p (by rw [List.take_of_length_le (by omega)];exact (hL p).2 hp)
 have hT:TP c ms false ms 0:=⟨by rw [hl4,hnn],hsn4,hrt,fun e=>(by cases e),fun _=>⟨rfl,fun i hi=>by omega⟩⟩
 clear hu hkm hO4 ho3
 refine zfA zrY ty4 rfl fun w5 hx5 hB5=>?_
 have hs4:=hx4.size
 have hMW:MW w w5 gv g w4.heap.size n ms true:=⟨hx4.trans hx5,hB4.ext hx5,hM4.ext hx5,hB5,by omega,by have:=hB4.lt;omega,by have:=hM4.lt g (by simp);omega,by omega,by omega,by omega⟩
 generalize w4.heap.size=ga at *
 refine LOOPI.mk (fun m us w'=>∃ (ga:Nat) (ms:List Bool) (ag:Bool),us=[.pointer (some ⟨ga,0,none⟩)]∧m=(n-zk5 ms)+(if ag then 1 else 0)∧MW w w' gv g ga n ms ag∧TP c ms false ms 0∧(ag=false→ms=zq8 c)) (n-zk5 ms+1) ⟨ga,ms,true,rfl,rfl,hMW,hT,fun e=>by cases e⟩ ?_
 rintro m u w6 ⟨ga,ms,ag,hu,hm,hW6,hT6,hend⟩
 simp only [List.map_cons,List.map_nil,List.cons.injEq,and_true] at hu
 rw [hu]
 have hcn:=zh4 ms
 rw [hT6.len,hnn] at hcn
 refine zas ty4 hW6.agn rfl ?_
 refine zbQ (fun hag=>?_) (fun hag=>?_)
 case refine_2=>
   refine zas zmG hW6.var rfl ?_
   rw [←hend hag]
   exact ⟨hW6.ext,[g],hW6.mks,fun b hb=>by simp only [List.mem_cons,List.not_mem_nil,or_false] at hb;omega⟩
 rw [hag,if_pos rfl] at hm
 refine zcp (α:=Raw) (lo:=0) (hi:=0) ty4 rfl rfl hW6.agn (by simp) (zei rfl) fun w7 hc7 hB7=>?_
 have hW7:=hW6.agains hc7.one hB7
 refine zaF (v:=.func (.func 154) #[] #[.pointer (some ⟨gv,0,none⟩),.pointer (some ⟨ga,0,none⟩)]) (fun w' _=>by simp [Instr.makeFunc]) ?_
 refine NIL.mk rfl ?_
 refine zaa zaU ?_
 refine zaa zaK ?_
 refine zab zdG (zat hcode) (e0.trans hW7.ext) fun v46 h46=>?_
 refine zaf u34 h46 ?_
 rw [hnn]
 refine zaE n (fun k us w'=>∃ (ms':List Bool) (ag':Bool),us=[.int .i64 (k:Int)]∧k≤n∧MW w w' gv g ga n ms' ag'∧TP c ms ag' ms' k) 0 (Nat.zero_le _) ⟨ms,false,rfl,Nat.zero_le _,hW7,hT6⟩ ?_
 rintro k mk u w8 hkm ⟨ms8,ag8,hu,hkl,hW8,hT8⟩
 simp only [List.map_cons,List.map_nil,List.cons.injEq,and_true] at hu
 rw [hu]
 refine zal ?_
 refine br (fun hlt=>?_) (fun hge=>?_)
 case refine_2=>
   have hke:k=n:=by omega
   rw [hke] at hT8
   refine zas ty4 hW8.agn rfl ?_
   refine zfA zrY ty4 rfl fun w9 hx9 hB9=>?_
   have hcn8:=zh4 ms8
   rw [hT8.len,hnn] at hcn8
   refine ⟨(n-zk5 ms8)+(if ag8 then 1 else 0),?_,_,ms8,ag8,rfl,rfl,hW8.cell hx9 hB9 (Nat.le_refl _),hT8.again,fun e=>?_⟩
   · cases ag8 with
     | true=>have:=hT8.yes rfl;simp;omega
     | false=>rw [(hT8.no rfl).1];simp;omega
   rw [e,←hnn] at hT8
   exact hT8.fin hc
 have hk:k<n:=by omega
 have hkn:k<c.ins.length:=by omega
 have hl8:ms8.length=n:=by rw [hT8.len,hnn]
 refine zad u34 zem h46 hkn fun b3 o3 hA3=>?_
 rw [zaY] at hA3
 refine zab zem hA3 (e0.trans hW8.ext) fun v52 h52=>?_
 refine zbB zqc rfl zem rfl h52 (e0.trans hW8.ext) fun w9 hx9 hAI hV9=>?_
 have hW9:=hW8.step hx9
 have hAB9:=zeA h52 hV9 rfl
 refine zas zmG hW9.var rfl ?_
 refine zad u90 ty4 (i:=k) hW9.mks.is (by rw [hl8];exact hk) fun b4 o4 hA4=>?_
 refine zb1 ty4 hA4 (Ext.refl _) ?_
 refine zaO ?_
 have hmk8:=zcg (ms:=ms8) (i:=k) (by rw [hl8];exact hk)
 refine zbQ (fun hf=>?_) (fun hf=>?_)
 · have hnm:¬mkd ms8 k:=by rw [hmk8];simpa using hf
   refine zag (by omega) ?_
   exact ⟨mk-1,by omega,k+1,by omega,ms8,ag8,rfl,by omega,hW9,hT8.next fun h=>absurd h hnm⟩
 have hym:mkd ms8 k:=by rw [hmk8];simpa using hf
 have hMk:=hT8.snd k hym
 refine JOIN.mk (fun us w'=>∃ (ms':List Bool) (ag':Bool),MW w w' gv g ga n ms' ag'∧TP c ms ag' ms' k∧((zah c k).op=4→mkd ms' (eN c (agN c k)))∧∀ j∈zax c k,MetP c j) ?_ ?_
 · refine zaa zbK ?_
   refine zac ty3 (zaG hAI) (Ext.refl _) fun _=>?_
   refine zai ?_
   refine br (fun c4=>?_) (fun c4=>?_)
   · obtain ⟨ha1,ha2⟩:=zbv hc hkn (.inl c4)
     have hpe:agN c k<c.entry.length:=by rw [hc.2.1.1];exact ha2
     obtain ⟨he1,he2,_⟩:=zfR hc hpe
     obtain ⟨hz1,hz2,hz3⟩:=zgI hc ha2
     have hxd:=zao w9
     have hW10:=hW9.step hxd
     generalize World.drew1 w9=w10 at *
     refine NIL.mk rfl ?_
     refine zaa zaU ?_
     refine zaa zbJ ?_
     refine zab zeL (zaD hcode) (e0.trans hW10.ext) fun v66 h66=>?_
     refine zaa zcl ?_
     refine zac ty3 (zaQ hAI) hxd fun _=>?_
     rw [ha1]
     refine zad u33 ty3 h66 hpe fun b5 o5 hA5=>?_
     rw [zcH hpe,he1] at hA5
     refine zac ty3 hA5 (e0.trans hW10.ext) fun _=>?_
     refine zlf (args:=[_]) (caps:=[_,_]) zpK ((znn (i:=eN c (agN c k)) hW10 (by omega) hl8).mono ?_)
     rintro _ w11 ⟨rfl,hW11,hc11⟩
     have hT11:=hT8.meet he2 (.call hMk c4)
     have hme:mkd (ms8.set (eN c (agN c k)) true) (eN c (agN c k)):=(zdT (by rw [hl8];omega)).2 (.inr rfl)
     have hx12:=zao w11
     have hW12:=hW11.step hx12
     have hgI:w8.heap.size<w10.heap.size:=by have:=hV9.lt;have:=hxd.size;omega
     have hne:w8.heap.size∉[g,ga]:=by have h1:=hW8.mks.lt g (by simp);have h2:=hW8.agn.lt;simp;omega
     have hAI11:=(hAB9.ext hxd).keep (hc11.block _ hgI hne)
     have hAI12:=(hAI11.ext hx12).at (e0.trans hW12.ext)
     generalize World.drew1 w11=w12 at *
     refine zas zmG hW12.var rfl ?_
     refine NIL.mk rfl ?_
     refine zaa zaU ?_
     refine zab zfm hcode (e0.trans hW12.ext) fun v76 h76=>?_
     refine zaa zcl ?_
     refine zac ty3 (zaQ hAI12) (Ext.refl _) fun _=>?_
     rw [ha1]
     refine (zca h76 (e0.trans hW12.ext) (by omega)).mono ?_
     rintro _ w13 ⟨hx13,rfl⟩
     refine ⟨hx13,?_⟩
     have hW13:=hW12.step hx13
     rw [hz1]
     refine zck (by unfold I64;omega) ?_
     rw [show ((zN c (agN c k)+1:Nat):Int)-1=(zN c (agN c k):Int) by omega]
     have hl13:(ms8.set (eN c (agN c k)) true).length=n:=by rw [List.length_set,hl8]
     generalize ms8.set (eN c (agN c k)) true=ms13 at *
     refine zad u90 ty4 (i:=zN c (agN c k)) hW13.mks.is (by rw [hl13];omega) fun b6 o6 hA6=>?_
     refine zb1 ty4 hA6 (Ext.refl _) ?_
     refine zaO ?_
     have hmk13:=zcg (ms:=ms13) (i:=zN c (agN c k)) (by rw [hl13];omega)
     refine zbQ (fun hf13=>?_) (fun hf13=>?_)
     · have hnm:¬mkd ms13 (zN c (agN c k)):=by rw [hmk13];simpa using hf13
       refine zag (by omega) ?_
       exact ⟨mk-1,by omega,k+1,by omega,ms13,_,rfl,by omega,hW13,hT11.next fun _=>⟨fun _=>⟨hme,fun h=>absurd h hnm⟩,fun h=>absurd c4 h⟩⟩
     have hyz:mkd ms13 (zN c (agN c k)):=by rw [hmk13];simpa using hf13
     exact ⟨ms13,_,hW13,hT11,fun _=>hme,fun j hj=>.back hMk c4 (hT11.snd _ hyz) hj⟩
   exact ⟨ms8,ag8,hW9,hT8,fun h=>absurd h c4,fun j hj=>.next hMk c4 hj⟩
 rintro us w14 ⟨ms14,ag14,hW14,hT14,hc14,hnx⟩
 refine (zgB hcode (e0.trans hW14.ext) hc hkn).mono ?_
 rintro v86 w15 ⟨hx15,ho15⟩
 have hW15:=hW14.step hx15
 have hl2:=zgA c k
 have hnl:=fun {j:Nat} (hj:j∈zax c k)=>(zb5 hc hkn hj).1
 generalize hNx:zax c k=N at *
 refine zaf u33 ho15.is ?_
 rw [zae]
 refine zaE N.length (fun q us w'=>∃ (ms':List Bool) (ag':Bool),us=[.int .i64 (q:Int)]∧q≤N.length∧MW w w' gv g ga n ms' ag'∧TP c ms ag' ms' k∧((zah c k).op=4→mkd ms' (eN c (agN c k)))∧(∀ j∈N.take q,mkd ms' j)∧OwnI w14.heap.size w15.heap.size w' v86 (zaZ N)) 0 (Nat.zero_le _) ⟨ms14,ag14,rfl,Nat.zero_le _,hW15,hT14,hc14,by simp,ho15.toI⟩ ?_
 rintro q mq u w16 hqm ⟨ms16,ag16,hu,hql,hW16,hT16,hc16,hq16,hO16⟩
 simp only [List.map_cons,List.map_nil,List.cons.injEq,and_true] at hu
 rw [hu]
 refine zal ?_
 refine br (fun hlt=>?_) (fun hge=>?_)
 case refine_2=>
   refine zag (by omega) ?_
   rw [List.take_of_length_le (by omega)] at hq16
   exact ⟨mk-1,by omega,k+1,by omega,ms16,ag16,rfl,by omega,hW16,hT16.next fun _=>⟨fun h4=>⟨hc16 h4,fun _=>hNx▸hq16⟩,fun _=>hNx▸hq16⟩⟩
 have hq:q<N.length:=by omega
 refine zad u33 ty3 (i:=q) hO16.is (by rw [zae];exact hq) fun b7 o7 hA7=>?_
 rw [zaR] at hA7
 refine zac ty3 hA7 (Ext.refl _) fun _=>?_
 have htq:=fun x=>zaW hq (x:=x)
 have hj:=List.getElem_mem hq
 have hjl:=hnl hj
 have hjm:=hnx _ hj
 generalize N[q]=j at *
 have hl16:ms16.length=n:=by rw [hT16.len,hnn]
 refine zlf (args:=[_]) (caps:=[_,_]) zpK ((znn (i:=j) hW16 (by omega) hl16).mono ?_)
 rintro _ w17 ⟨rfl,hW17,hc17⟩
 refine zag (by omega) ?_
 have hg14:=hW14.mks.lt g (by simp)
 have hga14:=hW14.agn.lt
 refine ⟨mq-1,by omega,q+1,by omega,_,_,rfl,by omega,hW17,hT16.meet hjl hjm,fun h4=>zf4 (hc16 h4),fun i hi=>?_,hO16.chgF hc17 (by simp;omega)⟩
 rcases (htq i).1 hi with h | h
 · exact zf4 (hq16 i h)
 rw [h];exact (zdT (by rw [hl16];omega)).2 (.inr rfl)
structure HW (w1 w:World) (gm go g ga n:Nat) (vm:Value) (out:List Nat) (ag:Bool):Prop where
 ext:Ext w1 w
 met:Blk gm 90 w [vm]
 var:Blk go 33 w [.slice (some ⟨g,0,none⟩) n n]
 mine:Mine [g] w (.slice (some ⟨g,0,none⟩) n n) (zaZ out)
 agn:Blk ga 4 w [.bool ag]
 n0:gm≠g
 n01:gm≠ga
 n1:go≠g
 n2:go≠ga
 n3:g≠ga
 g0:w1.heap.size≤g
 g1:w1.heap.size≤go
 g2:w1.heap.size≤ga
section
variable {w1 w w':World} {gm go g ga n:Nat} {vm:Value} {out:List Nat} {ag:Bool}
theorem HW.set {i v:Nat} (h:HW w1 w gm go g ga n vm out ag) (hc:Chg [g] w w') (hm:Mine [g] w' (.slice (some ⟨g,0,none⟩) n n) ((zaZ out).set i (v:Int))):HW w1 w' gm go g ga n vm (out.set i v) ag:=
 ⟨h.ext.chgF hc (by simp [h.g0]),h.met.chgF hc (by simp [h.n0]),h.var.chgF hc (by simp [h.n1]),by rw [ze7];exact hm,h.agn.chgF hc (by simp [Ne.symm h.n3]),h.n0,h.n01,h.n1,h.n2,h.n3,h.g0,h.g1,h.g2⟩
theorem HW.cell {ga':Nat} {ag':Bool} (h:HW w1 w gm go g ga n vm out ag) (hx:Ext w w') (hB:Blk ga' 4 w' [.bool ag']) (hg:w.heap.size≤ga'):HW w1 w' gm go g ga' n vm out ag':=
 ⟨h.ext.trans hx,h.met.ext hx,h.var.ext hx,h.mine.ext hx,hB,h.n0,by have:=h.met.lt;omega,h.n1,by have:=h.var.lt;omega,by have:=h.mine.lt g (by simp);omega,h.g0,h.g1,by have:=h.ext.size;omega⟩
end
end Go.Proofs.YtcnglfeoglgebaaGreat
namespace Go.Sh
open Rep (rep)
theorem zfa {α:Type} [Rep α] {w:World} {g e o:Nat} {cs:List Value} {v:Value} {l:List α} (hB:Blk g e w cs) (ho:cs[o]?=some v) (h:Is w v l):At w g o l:=by
 obtain ⟨F,xs,hr,rfl⟩:=h
 have hr':=hr
 obtain ⟨a,cap,Fi,ys,rfl,h⟩:=hr
 refine ⟨F,_,hr',fun i u hi=>?_⟩
 have:i=0:=by
   cases i with
   | zero=>rfl
   | succ i=>simp at hi
 subst this
 simp only [List.getElem?_cons_zero,Option.some.injEq] at hi
 subst hi
 have:=hB.range o _ ho
 rw [Nat.zero_add] at this
 exact this
end Go.Sh
namespace Go.Proofs.YtcnglfeoglgebaaGreat
open Go Go.Sh Go.Proofs
open Rep (rep)
theorem zlY {w:World} {v:Value} {c:DCode} (h:Is w v c):∃ a0 a1 a2 a3 a4 n0 n1 n2 n3 n4 k0 k1 k2 k3 k4,v=.agg #[.slice a0 n0 k0,.slice a1 n1 k1,.slice a2 n2 k2,.slice a3 n3 k3,.slice a4 n4 k4]:=by
 obtain ⟨F,cs,hr,rfl⟩:=h
 obtain ⟨F0,c0,F1,c1,F2,c2,F3,c3,F4,c4,rfl,rfl,⟨_,_,_,_,rfl,_⟩,⟨_,_,_,_,rfl,_⟩,⟨_,_,_,_,rfl,_⟩,⟨_,_,_,_,rfl,_⟩,⟨_,_,_,_,rfl,_⟩⟩:=ziR hr
 exact ⟨_,_,_,_,_,_,_,_,_,_,_,_,_,_,_,rfl⟩
section
variable {w1 w w':World} {gw g h n:Nat} {kc:List Value} {ms:List Bool} {out:List Nat} {nw:Bool}
end
end Go.Proofs.YtcnglfeoglgebaaGreat
namespace Go.Sh
open Rep (rep)
theorem Blk.uniq {w:World} {g e:Nat} {cs cs':List Value} (h:Blk g e w cs) (h':Blk g e w cs'):cs'=cs:=by
 unfold Blk at h h'
 rw [h] at h'
 simp only [Option.some.injEq,Obj.cells.injEq] at h'
 have:=h'.1
 simpa using this.symm
theorem zlg {w:World} {g e:Nat} {cs ds:List Value} (h:Blk g e w (cs++ds)):w.rangeAt g 0 cs:=(zaq h.range).1
end Go.Sh
namespace Go.Proofs.YtcnglfeoglgebaaGreat
open Go Go.Sh Go.Proofs
open Rep (rep)
structure WB (W0 w:World) (b e:Nat) (c:DCode) (kc:List Value) (m:Nat) (x6 x7 x8 x9 x10:Value):Prop where
 ext:Ext W0 w
 blk:Blk b e w (kc++[.slice (some ⟨m,0,none⟩) c.ins.length c.ins.length,x6,x7,x8,x9,x10])
 code:∃ F,rep F W0 kc c
 live:Mine [m] w (.slice (some ⟨m,0,none⟩) c.ins.length c.ins.length) (ze3 c.ins.length (zc1 c))
 b0:W0.heap.size≤b
 m0:W0.heap.size≤m
 ne:b≠m
section
variable {W0 w w':World} {b e m:Nat} {c:DCode} {kc:List Value} {x6 x7 x8 x9 x10:Value}
theorem WB.k5 (h:WB W0 w b e c kc m x6 x7 x8 x9 x10):kc.length=5:=by obtain ⟨F,hr⟩:=h.code;exact Rep.len hr
theorem WB.cell (h:WB W0 w b e c kc m x6 x7 x8 x9 x10) (i:Nat):(kc++[Value.slice (some ⟨m,0,none⟩) c.ins.length c.ins.length,x6,x7,x8,x9,x10])[5+i]?=[Value.slice (some ⟨m,0,none⟩) c.ins.length c.ins.length,x6,x7,x8,x9,x10][i]?:=by
 rw [List.getElem?_append_right (by rw [h.k5];omega),h.k5,Nat.add_sub_cancel_left]
theorem WB.code_at (h:WB W0 w b e c kc m x6 x7 x8 x9 x10):At w b 0 c:=by
 obtain ⟨F,hr⟩:=h.code
 exact ⟨F,kc,zaP hr h.ext,zlg h.blk⟩
theorem WB.wl (h:WB W0 w b e c kc m x6 x7 x8 x9 x10):WL w b c:=⟨h.code_at,zfa h.blk (h.cell 0) h.live.is⟩
theorem WB.step (h:WB W0 w b e c kc m x6 x7 x8 x9 x10) (hx:Ext w w'):WB W0 w' b e c kc m x6 x7 x8 x9 x10:=⟨h.ext.trans hx,h.blk.ext hx,h.code,h.live.ext hx,h.b0,h.m0,h.ne⟩
theorem WB.chg {F:List Nat} (h:WB W0 w b e c kc m x6 x7 x8 x9 x10) (hc:Chg F w w') (hF:∀ x∈F,W0.heap.size≤x∧x≠b∧x≠m):WB W0 w' b e c kc m x6 x7 x8 x9 x10:=
 ⟨h.ext.chgF hc fun x hx=>(hF x hx).1,h.blk.chgF hc fun hb=>(hF b hb).2.1 rfl,h.code,h.live.keep fun x hx=>by
   simp only [List.mem_cons,List.not_mem_nil,or_false] at hx;subst hx
   exact hc.block x (h.live.lt x (by simp)) fun hm=>(hF x hm).2.2 rfl,h.b0,h.m0,h.ne⟩
theorem WB.cells {y6 y7 y8 y9 y10:Value} (h:WB W0 w b e c kc m x6 x7 x8 x9 x10) (hc:ChgI b (b+1) w w') (hB:Blk b e w' (kc++[.slice (some ⟨m,0,none⟩) c.ins.length c.ins.length,y6,y7,y8,y9,y10])):WB W0 w' b e c kc m y6 y7 y8 y9 y10:=
 ⟨h.ext.chgI hc h.b0,hB,h.code,h.live.keep fun x hx=>by
   simp only [List.mem_cons,List.not_mem_nil,or_false] at hx;subst hx
   exact hc.block x (h.live.lt x (by simp)) (by have:=h.ne;omega),h.b0,h.m0,h.ne⟩
theorem WB.set (h:WB W0 w b e c kc m x6 x7 x8 x9 x10) (i:Nat) (v:Value):(kc++[Value.slice (some ⟨m,0,none⟩) c.ins.length c.ins.length,x6,x7,x8,x9,x10]).set (5+i) v=kc++[Value.slice (some ⟨m,0,none⟩) c.ins.length c.ins.length,x6,x7,x8,x9,x10].set i v:=by
 rw [List.set_append_right _ _ (by rw [h.k5];omega),h.k5,Nat.add_sub_cancel_left]
end
def CS (c:DCode) (out:List Nat) (D:Nat→Nat→Prop):Prop:=out.length=c.procs.length∧∀ q,q<c.procs.length→zaC out q=zfn (D q) c.procs.length
theorem CS.mono {c:DCode} {out:List Nat} {D D':Nat→Nat→Prop} (h:CS c out D) (hD:∀ q r,q<c.procs.length→r<c.procs.length→(D q r↔D' q r)):CS c out D':=⟨h.1,fun q hq=>by rw [h.2 q hq];exact zbY fun r hr=>hD q r hq hr⟩
theorem CS.set {c:DCode} {out:List Nat} {D D':Nat→Nat→Prop} (h:CS c out D) {p a:Nat} (hp:p<c.procs.length) (ha:a<c.procs.length) (hD:∀ q r,D' q r↔D q r∨(q=p∧r=a)):CS c (out.set p (zaC out p ||| 2^a)) D':=by
 refine ⟨by simp [h.1],fun q hq=>?_⟩
 rw [zbr (by rw [h.1];exact hp)]
 split
 · rename_i e
   subst e
   rw [h.2 p hp]
   refine zdx fun r=>?_
   rw [Nat.testBit_or,Nat.testBit_two_pow,Bool.or_eq_true,zbq,decide_eq_true_eq,hD]
   constructor
   · rintro (⟨h1,h2⟩ | rfl)
     · exact ⟨h1,.inl h2⟩
     exact ⟨ha,.inr ⟨rfl,rfl⟩⟩
   rintro ⟨h1,h2 | ⟨_,h2⟩⟩
   · exact .inl ⟨h1,h2⟩
   exact .inr h2.symm
 rename_i e
 rw [h.2 q hq]
 exact zbY fun r hr=>⟨fun h=>(hD q r).2 (.inl h),fun h=>((hD q r).1 h).resolve_right fun h=>e h.1.symm⟩
theorem CS.lt0 {c:DCode} {out:List Nat} {D:Nat→Nat→Prop} (h:CS c out D) (h8:c.procs.length≤8) {q:Nat} (hq:q<c.procs.length):zaC out q<256:=by rw [h.2 q hq];exact zaB h8
theorem CS.zero {c:DCode} {D:Nat→Nat→Prop} (hD:∀ q r,¬D q r):CS c (List.replicate c.procs.length 0) D:=⟨by simp,fun q hq=>by
 rw [←zaJ (by simp;exact hq),List.getElem_replicate]
 exact zdx fun r=>by simp [hD]⟩
theorem CS.eq_cls {c:DCode} {out:List Nat} {op:Int} (h:CS c out fun q r=>zk6 c q op r):out=cls c op:=by
 refine List.ext_getElem (by rw [h.1,zdX]) fun i h1 h2=>?_
 have hi:i<c.procs.length:=by rw [←h.1];exact h1
 rw [zaJ h1,zaJ h2,zpI hi,h.2 i hi]
def zlZ (j:Nat):Nat:=if j=11 then 6 else if j=14 then 7 else 8
def zra (j:Nat):Prop:=j=11∨j=14∨j=17
def fcB (W:World) (b e:Nat) (hd:List Value) (t9 t10:Value) (w:World):Prop:=ChgI b (b+1) W w∧∃ x6 x7 x8,Blk b e w (hd++[x6,x7,x8,t9,t10])
def fcR (b e:Nat) (j:Nat) (w w':World):Prop:=(zra j∧ChgI b (b+1) w w'∧∀ cs,Blk b e w cs→∃ v,Blk b e w' (cs.set (zlZ j) v))∨(¬zra j∧Ext w w')
def fcQ (b e n:Nat):ParQ:=fun i u T w=>match i with
 | 0=>u 17=.pointer (some ⟨b,0,none⟩)
 | 1=>u 18=.pointer (some ⟨b,0,none⟩)
 | 2=>u 19=.pointer (some ⟨b,0,none⟩)
 | 3=>u 20=.int .i64 (n:Int)
 | 4=>∃ g,u 21=.slice (some ⟨g,0,none⟩) n n∧(T 4).1≤g∧g<(T 4).2∧g≠b∧Mine [g] w (.slice (some ⟨g,0,none⟩) n n) (zaZ (List.replicate n 0))
 | 5=>u 22=.int .i64 (n:Int)
 | 6=>∃ g,u 23=.slice (some ⟨g,0,none⟩) n n∧(T 6).1≤g∧g<(T 6).2∧g≠b∧Mine [g] w (.slice (some ⟨g,0,none⟩) n n) (zaZ (List.replicate n 0))
 | 7=>u 24=.int .i64 (n:Int)
 | 8=>∃ g,u 25=.slice (some ⟨g,0,none⟩) n n∧(T 8).1≤g∧g<(T 8).2∧g≠b∧Mine [g] w (.slice (some ⟨g,0,none⟩) n n) (zaZ (List.replicate n 0))
 | 9=>u 26=.pointer (some ⟨b,0,none⟩)
 | 10=>u 27=.pointer (some ⟨b,0+6,none⟩)
 | 11=>∃ cs,Blk b e w cs∧cs[6]?=some (u 21)
 | 12=>u 28=.pointer (some ⟨b,0,none⟩)
 | 13=>u 29=.pointer (some ⟨b,0+7,none⟩)
 | 14=>∃ cs,Blk b e w cs∧cs[7]?=some (u 23)
 | 15=>u 30=.pointer (some ⟨b,0,none⟩)
 | 16=>u 31=.pointer (some ⟨b,0+8,none⟩)
 | 17=>∃ cs,Blk b e w cs∧cs[8]?=some (u 25)
 | _=>True
section
variable {b e n:Nat} {w w':World}
theorem fcR.sz {j:Nat} (h:fcR b e j w w'):w.heap.size≤w'.heap.size:=by
 rcases h with ⟨_,h,_⟩ | ⟨_,h⟩
 · exact h.size
 exact h.size
theorem fcR.chg {j:Nat} (h:fcR b e j w w'):ChgI b (b+1) w w':=by
 rcases h with ⟨_,h,_⟩ | ⟨_,h⟩
 · exact h
 exact h.toI
theorem fcR.mine {j g:Nat} {l:List Int} {v:Value} (h:fcR b e j w w') (hg:g≠b) (hm:Mine [g] w v l):Mine [g] w' v l:=hm.keep fun x hx=>by
 simp only [List.mem_cons,List.not_mem_nil,or_false] at hx;subst hx
 exact h.chg.block x (hm.lt x (by simp)) (by omega)
theorem fcR.cell {j:Nat} {u:Value} {k:Nat} (h:fcR b e j w w') (hij:zra j→zlZ j≠k) (hc:∃ cs,Blk b e w cs∧cs[k]?=some u):∃ cs,Blk b e w' cs∧cs[k]?=some u:=by
 obtain ⟨cs,hB,hk⟩:=hc
 rcases h with ⟨hs,_,h⟩ | ⟨_,h⟩
 · obtain ⟨v,hv⟩:=h cs hB
   exact ⟨_,hv,by rw [List.getElem?_set_ne (hij hs)];exact hk⟩
 exact ⟨cs,hB.ext h,hk⟩
theorem fcB.step {W:World} {hd:List Value} {t9 t10:Value} {j:Nat} (h6:hd.length=6) (h:fcB W b e hd t9 t10 w) (hR:fcR b e j w w'):fcB W b e hd t9 t10 w':=by
 obtain ⟨hc,x6,x7,x8,hB⟩:=h
 refine ⟨hc.trans hR.chg,?_⟩
 rcases hR with ⟨hs,_,hR⟩ | ⟨_,hR⟩
 · obtain ⟨v,hv⟩:=hR _ hB
   rcases hs with rfl | rfl | rfl
   · refine ⟨v,x7,x8,?_⟩
     rw [List.set_append_right _ _ (by rw [h6];decide),h6] at hv
     exact hv
   · refine ⟨x6,v,x8,?_⟩
     rw [List.set_append_right _ _ (by rw [h6];decide),h6] at hv
     exact hv
   refine ⟨x6,x7,v,?_⟩
   rw [List.set_append_right _ _ (by rw [h6];decide),h6] at hv
   exact hv
 exact ⟨x6,x7,x8,hB.ext hR⟩
theorem fcR.ext {j:Nat} (hj:¬zra j) (hx:Ext w w'):fcR b e j w w':=.inr ⟨hj,hx⟩
end
theorem zih {W:World} {b e n j:Nat} {hd:List Value} {t9 t10:Value} {w:World} {g:Nat} {K:World→Prop} (hs:zra j) (h6:hd.length=6) (hB:fcB W b e hd t9 t10 w) (k:∀ w',fcR b e j w w'→(∃ cs,Blk b e w' cs∧cs[zlZ j]?=some (.slice (some ⟨g,0,none⟩) n n))→K w') :
   OPU Tryz.prog (Instr.storeAt 33 (.pointer (some ⟨b,0+zlZ j,none⟩)) (.slice (some ⟨g,0,none⟩) n n)) w K:=by
 obtain ⟨hc,x6,x7,x8,hB⟩:=hB
 have hlt:zlZ j<(hd++[x6,x7,x8,t9,t10]).length:=by
   rw [List.length_append,h6]
   show zlZ j<11
   rcases hs with rfl | rfl | rfl<;>decide
 rw [Nat.zero_add]
 refine zcp (α:=Raw) (lo:=0) (hi:=0) zeL rfl rfl hB hlt (zei rfl) fun w2 hc2 hB2=>?_
 have hR:fcR b e j w w2:=.inl ⟨hs,hc2,fun cs hcs=>by
   have:=hB.uniq hcs
   subst this
   exact ⟨_,hB2⟩⟩
 exact k w2 hR ⟨_,hB2,by rw [List.getElem?_set_self hlt]⟩
theorem zqu {sets:List Nat} {r:Nat} (l:List Int):(orL sets l).testBit r=true↔∃ x∈l,(zaC sets x.toNat).testBit r=true:=by
 have key:∀ (l:List Int) (a:Nat),(l.foldl (fun a i=>a ||| sets.getD i.toNat 0) a).testBit r=true↔a.testBit r=true∨∃ x∈l,(zaC sets x.toNat).testBit r=true:=fun l=>by
   induction l with
   | nil=>simp
   | cons i l ih=>
     intro a
     rw [List.foldl_cons,ih,Nat.testBit_or,Bool.or_eq_true,or_assoc]
     refine or_congr Iff.rfl ?_
     simp only [List.mem_cons,exists_eq_or_imp]
     exact Iff.rfl
 have:=key l 0
 simpa [orL] using this
theorem zfb {sets:List Nat} {m n r:Nat} (hm:m<2^n) (hn:n≤62):(orL sets (zbo m)).testBit r=true↔∃ i,i<n∧m.testBit i=true∧(zaC sets i).testBit r=true:=by
 rw [zqu,zh7 hm (by omega)]
 constructor
 · rintro ⟨x,hx,h⟩
   obtain ⟨i,h1,rfl,h3⟩:=zcy.1 hx
   exact ⟨i,h1,h3,by simpa using h⟩
 rintro ⟨i,h1,h2,h3⟩
 exact ⟨(i:Int),zcy.2 ⟨i,h1,rfl,h2⟩,by simpa using h3⟩
theorem zkb {m n:Nat} (h:∀ r,m.testBit r=true→r<n):m<2^n:=Nat.lt_pow_two_of_testBit _ fun i hi=>by
 cases e:m.testBit i
 · rfl
 have:=h i e;omega
end Go.Proofs.YtcnglfeoglgebaaGreat
