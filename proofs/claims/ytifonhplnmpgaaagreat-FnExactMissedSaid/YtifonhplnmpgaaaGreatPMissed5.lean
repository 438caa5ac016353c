/-
  Parts of the proof, put together by program.
-/
import Derived.Test.YtifonhplnmpgaaaGreatPMissed4
set_option linter.unusedVariables false
set_option linter.unusedSimpArgs false
set_option linter.unusedSectionVars false
namespace Go.Proofs.YtifonhplnmpgaaaGreat
open Go Go.Sh Go.Proofs
open Rep (rep)
def F214 (a0 a1:Value) (w:World) (R:VW):Prop:=
 oX 32 a0 w λx2 w=>
 rF 32 x2 4 w λx10=>
 rL 30 x10 w λx11=>
 rN 30 3 x11 w λx12=>
 oP (Instr.makeSlice 101 x12 x12) w λx13 w=>
 oP (bS 23 a1) w λx15 w=>
 LOOPI [6,7] [x15,(iV 0)] w λu4 w n4=>
 rN 23 3 (u4 6) w λx18=>
 rC (u4 7) x18 w λx19=>
 BR x19
 ((λw=>rL 32 x2 w λx22=>
 rX 23 (u4 6) (u4 7) w λx25=>
 rL 3 x25 w λx26=>
 cL 179 [x22,x26] w λx27 w=>
 LOOPI [6,9] [(u4 6),(iV 0)] w λu8 w n8=>
 rN 23 3 x27 w λx30=>
 rC (u8 9) x30 w λx31=>
 BR x31
 (rX 23 x27 (u8 9) w λx37=>
 rL 3 x37 w λx38=>
 rX 101 x13 x38 w λx39=>
 rL 4 x39 w λx40=>
 rT x40 w λx41=>
 BR x41
 (rX 23 x27 (u8 9) w λx45=>
 rL 3 x45 w λx46=>
 rX 101 x13 x46 w λx47=>
 oS 4 x47 vT w λw=>
 rX 23 x27 (u8 9) w λx51=>
 rL 3 x51 w λx52=>
 oP (bS 23 x52) w λx53 w=>
 oP (aP 23 (u8 6) x53) w λx54 w=>
 rI (u8 9) w λx33=>
 n8 [x54,x33] w)
 (rI (u8 9) w λx33=>
 n8 [(u8 6),x33] w))
 (rI (u4 7) w λx21=>
 n4 [(u8 6),x21] w)) (World.drew1 w))
 (R x13 w)
theorem F214_call {a0 a1 w R} (h:F214 a0 a1 w R):cL 214 [a0,a1] w R:=co (g:=(kf [] [(4,36028797018899392,[6,7]),(8,36028796750529088,[6,9])] [(6,[0,1,2,3,4,5,6],0)])) Tryz.func214 h
def F78 (a0 a1 a2:Value) (w:World) (R:VW):Prop:=
 oP (bS 23 a2) w λx11 w=>
 LOOPI [6] [x11] w λu1 w n1=>
 rN 23 3 (u1 6) w λx13=>
 rB .gtr 3 T0 U0 x13 (iV 0) w λx14=>
 BR x14
 (rN 23 3 (u1 6) w λx17=>
 rB .sub 3 T0 U0 x17 (iV 1) w λx18=>
 rX 23 (u1 6) x18 w λx19=>
 rL 3 x19 w λx20=>
 rN 23 3 (u1 6) w λx23=>
 rB .sub 3 T0 U0 x23 (iV 1) w λx24=>
 rD (Instr.sliceAt 23 (u1 6) none (some x24) none) w λx25=>
 cL 136 [a0,x20] w λx28 w=>
 rN 23 3 x28 w λx29=>
 LOOPI [6,30] [x25,(iV 0)] w λu5 w n5=>
 rC (u5 30) x29 w λx31=>
 BR x31
 (rX 23 x28 (u5 30) w λx32=>
 rL 3 x32 w λx33=>
 rX 101 a1 x33 w λx36=>
 rL 4 x36 w λx37=>
 rT x37 w λx38=>
 BR x38
 (rX 101 a1 x33 w λx41=>
 oS 4 x41 vT w λw=>
 oP (bS 23 x33) w λx44 w=>
 oP (aP 23 (u5 6) x44) w λx45 w=>
 rI (u5 30) w λx46=>
 n5 [x45,x46] w)
 (rI (u5 30) w λx46=>
 n5 [(u5 6),x46] w))
 (n1 [(u5 6)] w))
 (R (Value.tuple #[]) w)
theorem F78_call {a0 a1 a2 w R} (h:F78 a0 a1 a2 w R):cL 78 [a0,a1,a2] w R:=co (g:=(kf [] [(1,140737488351936,[6]),(5,140736414614080,[6,30])] [])) Tryz.func78 h
section
variable {P:Program} {w w':World}
theorem zew {α:Type} [Rep α] [Flat α] {F:List Nat} {v:Value} {l:List α} (hm:Mine F w v l) (hl:l≠[]):∃ b o cap,v=.slice (some ⟨b,o,none⟩) l.length cap∧F=[b]:=by
 obtain ⟨⟨cs,⟨a,cap,Fi,xs,rfl,h1,h2,hc,h4⟩,rfl⟩,hn,hw⟩:=hm;rcases h4 with ⟨h4,_⟩ | ⟨b,o,rfl,rfl,hr,hb⟩
 · exact absurd h4 hl
 have hFi:=Cells.flat (xs:=xs) hc;subst hFi;exact ⟨b,o,cap,rfl,rfl⟩
theorem za9 {α:Type} [Rep α] [Flat α] (h1:Rep.size α=1) {t by_ m n i:Nat} {l:List α} {y:α} {u:Value} {K:World→Prop} (ht:tyI P t=some (1,by_,Rep.agg α)) (hm:Mine [m] w (.slice (some ⟨m,0,none⟩) n n) l) (hl:l.length=n) (hi:i<n) (hu:Mine [] w u y)
   (k:∀ w',Chg [m] w w'→Mine [m] w' (.slice (some ⟨m,0,none⟩) n n) (l.set i y)→K w'):OPU P (Instr.storeAt t (.pointer (some ⟨m,i*1,none⟩)) u) w K:=by
 obtain ⟨b,a,cap,G,hv,hL⟩:=zvd hm (k:=i) (by omega);simp only [Value.slice.injEq,Option.some.injEq,Addr.mk.injEq,and_true] at hv;obtain ⟨⟨rfl,rfl⟩,_⟩:=hv;rw [h1,Nat.zero_add] at hL;refine zcR (y':=y) (by rw [h1];exact ht) hL hu λw8 F' hc8 hm8 hF8=>?_
 have hF9:F'=[m]:=by
   obtain ⟨b,o,cap,hv,hF2⟩:=zew hm8 (by intro e;have h:=congrArg List.length e;rw [List.length_set,hl] at h;simp only [List.length_nil] at h;omega);subst hF2;have:=hF8 b (by simp);simpa using this
 subst hF9;exact k w8 hc8 hm8
theorem zbE {α:Type} [Rep α] {t e by_ m n i:Nat} {K:Value→Prop} (h1:Rep.size α=1) (ht:P.underlying t=some (.slice e)) (he:tyI P e=some (1,by_,Rep.agg α)) (hi:i<n) (kk:K (.pointer (some ⟨m,i*1,none⟩))) :
   RD P (Instr.indexAt t (.slice (some ⟨m,0,none⟩) n n) (.int .i64 (i:Int))) w K:=zdh ht he hi kk
end
structure WI (w1 w:World) (m n lo hi:Nat) (tv:Value) (L:List Nat) (ms:List Bool):Prop where
 chg:ChgI m (m+1) w1 w
 row:RowI lo hi 3 w tv (zaI L)
 mks:Mine [m] w (.slice (some ⟨m,0,none⟩) n n) ms
 l0:w1.heap.size≤lo
 m1:m<lo
 h2:lo≤hi
 h3:hi≤w.heap.size
section
variable {w1 w w':World} {m n lo hi:Nat} {tv:Value} {L:List Nat} {ms:List Bool}
theorem WI.step (h:WI w1 w m n lo hi tv L ms) (hx:Ext w w'):WI w1 w' m n lo hi tv L ms:=
 ⟨h.chg.trans hx.toI,h.row.ext hx,h.mks.ext hx,h.l0,h.m1,h.h2,Nat.le_trans h.h3 hx.size⟩
theorem WI.push {tv':Value} {x:Nat} {lo' hi':Nat} (h:WI w1 w m n lo hi tv L ms) (hc:ChgI lo hi w w') (hr:RowI lo' hi' 3 w' tv' (zaI L++[(x:Int)])) (hd:lo'=lo∧hi'=hi∨lo'=w.heap.size∧hi'=w'.heap.size) :
   WI w1 w' m n lo' hi' tv' (L++[x]) ms:=by
 have hs:=hc.size;have h1:=h.l0;have h2:=h.h2;have h3:=h.h3;have h4:=h.chg.size;have h5:=h.m1;have hml:=h.mks.lt m (by simp);refine ⟨⟨hc.os.trans h.chg.os,hc.tape.trans h.chg.tape,hc.output.trans h.chg.output,Nat.le_trans h4 hs,λb hb ho=>(hc.block b (Nat.lt_of_lt_of_le hb h4) (by omega)).trans (h.chg.block b hb ho)⟩,by rw [zbW];exact hr,h.mks.keep λb hb=>?_,by omega,by omega,by omega,by omega⟩;simp only [List.mem_cons,List.not_mem_nil,or_false] at hb;subst hb;exact hc.block b hml (by omega)
theorem WI.mark {ms':List Bool} (h:WI w1 w m n lo hi tv L ms) (hc:Chg [m] w w') (hm:Mine [m] w' (.slice (some ⟨m,0,none⟩) n n) ms'):WI w1 w' m n lo hi tv L ms':=by
 have hc':ChgI m (m+1) w w':=hc.toI λb hb=>by simp only [List.mem_cons,List.not_mem_nil,or_false] at hb;omega
 have h5:=h.m1;exact ⟨h.chg.trans hc',h.row.chg hc' (by omega),hm,h.l0,h5,h.h2,Nat.le_trans h.h3 hc'.size⟩
end
theorem zv6:zcz tp 4=some [.bool false]:=by kernel_rfl
theorem ownI_int {w:World} {x:Int} (lo hi:Nat) (h:I64 x):OwnI lo hi w (.int .i64 x) x:=⟨[],zbh h,by simp⟩
theorem zbu {w:World} {b:Bool}:Mine [] w (.bool b) b:=⟨⟨[.bool b],⟨rfl,rfl⟩,rfl⟩,List.nodup_nil,Wr.nil w⟩
theorem zh9 {w W0:World} {v0:Value} {c:DCode} {a:Nat} (h0:Is W0 v0 c) (e0:Ext W0 w) (hc:CodeR c) (ha:a<c.ins.length) :
   CALL tp 214 [v0,.int .i64 (a:Int)] w λr w'=>Ext w w'∧∃ m,r=.slice (some ⟨m,0,none⟩) c.ins.length c.ins.length∧w.heap.size≤m∧Mine [m] w' (.slice (some ⟨m,0,none⟩) c.ins.length c.ins.length) (zby c.ins.length (RP (zaC c) a)):=by
 refine F214_call ?_;unfold F214;have hil:=hc.f.ins;have hnl:=λ{i j:Nat}=>zcJ hc (i:=i) (j:=j);refine zbj h0 e0 λw1 hx1 hA=>?_;refine zab zaD ?_;refine zaa zcu (zai hA) (Ext.refl _) λv11 h11=>?_;refine zae u30 h11 ?_;generalize hn:c.ins.length=n at *;refine ze8 (α:=Bool) zcy ty4 rfl rfl zv6 (by omega) (by omega) λw2 hx2 hr2=>?_;have hs1:=hx1.size;have hs2:=hx2.size
 have hM2:Mine [w1.heap.size] w2 (.slice (some ⟨w1.heap.size,0,none⟩) n n) (List.replicate n (RepZ.zv:Bool)):=by
   obtain ⟨F,hM,hF⟩:=hr2.own;obtain ⟨b,o,cap,hv,hF2⟩:=zew hM (by intro e;have:=congrArg List.length e;simp at this;omega);simp only [Value.slice.injEq,Option.some.injEq,Addr.mk.injEq,List.cons.injEq,and_true] at hv;obtain ⟨⟨hb,ho⟩,_⟩:=hv;rw [←hb] at hF2
   rwa [hF2] at hM
 have hzz:(List.replicate n (RepZ.zv:Bool))=List.replicate n false:=rfl;rw [hzz] at hM2;refine zcn (x:=(a:Int)) u23 ty3 z3 (by decide) (zbh (by unfold I64;omega)) λv15 w3 hx3 hr3=>?_;have hs3:=hx3.size;generalize hm:w1.heap.size=m at *;have hW3:WI w1 w3 m n w2.heap.size w3.heap.size v15 [a] (List.replicate n false):=⟨(hx2.t hx3).toI,hr3,hM2.ext hx3,by omega,by have:=hM2.lt m (by simp);omega,hs3,Nat.le_refl _⟩;refine zam (1+n) (λh us w'=>∃ (tv:Value) (lo hi:Nat) (L:List Nat) (ms:List Bool),us=[tv,.int .i64 (h:Int)]∧h≤L.length∧WI w1 w' m n lo hi tv L ms∧SInv (zaC c) n a (List.replicate n false) ms (L.drop h) h) 0 (z0 _) ⟨v15,_,_,[a],_,rfl,by simp,hW3,SInv.start (by simp) ha⟩ ?_;rintro h mk u w4 hkm ⟨tv,lo,hi,L,ms,hu,hhL,hW4,hS4⟩;obtain ⟨hu1,hu2⟩:=zbL hu;rw [hu1,hu2];have hb4:=hS4.bound;rw [List.length_drop] at hb4;refine zae u23 hW4.row.is ?_;rw [zaf];refine zag ?_;refine br (λhlt=>?_) (λhge=>?_)
 case refine_2=>
   have hhe:h=L.length:=by omega
   rw [hhe,List.drop_length] at hS4;have hfin:=hS4.fin λi hi=>absurd hi zbv
   have hms:ms=zby n (RP (zaC c) a):=zbT hS4.len λi hi=>by
     rw [hfin i];exact ⟨λh=>h.resolve_left zbv,.inr⟩
   rw [←hms];have hx4:Ext w1 w4:=(Ext.refl w1).chgI hW4.chg (by omega);exact ⟨hx1.t hx4,m,rfl,by omega,hW4.mks⟩
 have hh:h<L.length:=by omega
 have hx5:=zaj w4;have hW5:=hW4.step hx5;generalize World.drew1 w4=w5 at *;have hxa:∀ {w:World} {lo hi tv L ms},WI w1 w m n lo hi tv L ms→Ext w1 w:=λh=>(Ext.refl w1).chgI h.chg (by omega);refine zaa zbq hA (hxa hW5) λv22 h22=>?_;refine zac u23 ty3 (i:=h) hW5.row.is (by rw [zaf];exact hh) λb1 o1 hA1=>?_;rw [zaP] at hA1;refine zad ty3 hA1 (Ext.refl _) λ_=>?_;generalize hx:L[h]=x at *;have hdr:L.drop h=x :: L.drop (h+1):=by rw [List.drop_eq_getElem_cons hh,hx]
 have hxn:x<n:=(hS4.tdo x (by rw [hdr];simp)).2;refine (zhK h22 (hxa hW5) hc (by rw [hn];exact hxn)).mono ?_;rintro v27 w6 ⟨hx6,ho6⟩;have hW6:=hW5.step hx6;have hI6:=hW5.h3;have hm6:=hW5.mks.lt m (by simp);have hS6:SIn2 (zaC c) n a (List.replicate n false) ms (L.drop (h+1)) h x 0:=hS4.pop (λi=>by rw [hdr];simp [or_comm]) (by rw [hdr];simp);have hl2:=zeh c x;refine zam (zaC c x).length (λq us w'=>∃ (tv:Value) (lo hi:Nat) (L:List Nat) (ms:List Bool),us=[tv,.int .i64 (q:Int)]∧q≤(zaC c x).length∧h<L.length∧WI w1 w' m n lo hi tv L ms∧SIn2 (zaC c) n a (List.replicate n false) ms (L.drop (h+1)) h x q∧OwnI w5.heap.size w6.heap.size w' v27 (zaI (zaC c x))∧(hi≤w5.heap.size∨w6.heap.size≤lo)∧w6.heap.size≤w'.heap.size) 0 (z0 _) ⟨tv,lo,hi,L,ms,rfl,z0 _,hh,hW6,hS6,ho6.toI,.inl hI6,Nat.le_refl _⟩ ?_;rintro q mk8 u8 w7 hkm8 ⟨tv7,lo7,hi7,L7,ms7,hu8,hql,hh7,hW7,hS7,ho7,hd7,hz7⟩;obtain ⟨hu81,hu82⟩:=zbL hu8;rw [hu81,hu82];refine zae u23 ho7.is ?_;rw [zaf];refine zag ?_;refine br (λhlt8=>?_) (λhge8=>?_)
 case refine_2=>refine zas ?_;exact ⟨mk-1,by omega,h+1,by omega,tv7,lo7,hi7,L7,ms7,rfl,by omega,hW7,hS7.done (by omega)⟩
 have hq:q<(zaC c x).length:=by omega
 have hrd:∀ {w:World} {K:Value→Prop} (ho:OwnI w5.heap.size w6.heap.size w v27 (zaI (zaC c x))) (k:K (.int .i64 (((zaC c x)[q]:Nat):Int))),RD tp (Instr.indexAt 23 v27 (.int .i64 (q:Int))) w λx37=>RD tp (Instr.loadAt 3 x37) w K:=λho k=>by
   refine zac u23 ty3 (i:=q) ho.is (by rw [zaf];exact hq) λb1 o1 hA1=>?_;rw [zaP] at hA1;exact zad ty3 hA1 (Ext.refl _) λ_=>k
 have hy:=hnl hxn (List.getElem_mem hq);refine hrd ho7 ?_;have hlen7:=hS7.len;refine zac zcy ty4 hW7.mks.is (by rw [hlen7];exact hy.1) λb2 o2 hA2=>?_;refine zay ty4 hA2 (Ext.refl _) ?_;refine zaX ?_;have hmk7:=zaQ (ms:=ms7) (i:=(zaC c x)[q]) (by rw [hlen7];exact hy.1);refine zbz (λhf=>?_) (λhf=>?_)
 · have hnm:¬mkd ms7 (zaC c x)[q]:=by rw [hmk7];simpa using hf
   refine hrd ho7 ?_;refine zbE (α:=Bool) rfl zcy ty4 hy.1 ?_;refine za9 (α:=Bool) rfl ty4 hW7.mks hlen7 hy.1 zbu λw8 hc8 hm8=>?_;have hW8:=hW7.mark hc8 hm8;have hc8':ChgI m (m+1) w7 w8:=hc8.toI λb hb=>by simp only [List.mem_cons,List.not_mem_nil,or_false] at hb;omega
   have ho8:=ho7.chg hc8' (by omega);refine hrd ho8 ?_;have hS8:=hS7.push hq hy.1 hnm;generalize (zaC c x)[q]=y at *
   have hLb:L7.length≤2+n:=by
     have h1:=hS7.cnt;have h2:=zfv ms7;rw [List.length_drop] at h1;omega
   refine zcS (x:=(y:Int)) u23 ty3 z3 zc3 (by decide) hW8.row (ownI_int 0 0 (by unfold I64;omega)) (by rw [zan,zaf];omega) (by rw [zaf];omega) λv54 w9 lo9 hi9 hc9 hr9 hd9=>?_;have hW9:=hW8.push hc9 hr9 hd9;have hsz8:=hc8'.size;have hsz7:=ho7.is;refine zas ?_;refine ⟨mk8-1,by omega,q+1,by omega,v54,lo9,hi9,L7++[y],_,rfl,by omega,by simp;omega,hW9,?_,ho8.chg hc9 (by omega),by omega,by have:=hc9.size;omega⟩;rw [List.drop_append_of_le_length (by omega)];exact hS8
 have hnm:mkd ms7 (zaC c x)[q]:=by rw [hmk7];simpa using hf
 refine zas ?_;exact ⟨mk8-1,by omega,q+1,by omega,tv7,lo7,hi7,L7,ms7,rfl,by omega,hh7,hW7,hS7.skip hq hnm,ho7,hd7,hz7⟩
section
variable {P:Program} {w:World} {α:Type} [Rep α] [Flat α] {lo hi e:Nat} {v:Value} {l:List α}
theorem zvs {t e b o n cap k by_:Nat} {K:Value→Prop} (ht:P.underlying t=some (.slice e)) (he:tyI P e=some (Rep.size α,by_,Rep.agg α)) (hk:k≤n) (hn:n≤cap) (kk:K (.slice (some ⟨b,o,none⟩) k cap)) :
   RD P (Instr.sliceAt t (.slice (some ⟨b,o,none⟩) n cap) none (some (.int .i64 (k:Int))) none) w K:=by
 refine za7 (λw' _=>?_) kk
 have hbd:(Instr.sliceBounds true n cap none (some (.int .i64 (k:Int))) none).run P w'=.ok (0,k,cap) w':=by
   have h5:(k:Int)≤(cap:Int):=by omega
   simp [Instr.sliceBounds,Instr.sliceBound,asIntOf,h5];intro h6;omega
 simp only [Instr.sliceAt,Instr.slice,Sem.run_bind,run_underlying ht,Result.andThen_ok,hbd,za2 he];simp [Addr.add_mid]
theorem ztM (h:RowI lo hi e w v l) (hl:l≠[]) {k:Nat} (hk:k≤l.length):∃ g cap,v=.slice (some ⟨g,0,none⟩) l.length cap∧l.length≤cap∧RowI lo hi e w (.slice (some ⟨g,0,none⟩) k cap) (l.take k):=by
 rcases h with ⟨a,_,h⟩ | ⟨F,⟨xs,Fi,⟨hlen,ho⟩,hc,hF,hw⟩,hn,hb⟩
 · exact absurd h hl
 rcases ho with ⟨_,h0⟩ | ⟨g,cap,cur,rfl,_,hg,h1,h2,h3,h4⟩
 · exact absurd (List.eq_nil_of_length_eq_zero h0) hl
 refine ⟨g,cap,rfl,h1,.inr ⟨F,⟨xs.take (k*Rep.size α),[],⟨?_,.inr ⟨g,cap,cur,?_,z0 _,hg,by rw [List.length_take];omega,h2,h3,?_⟩⟩,?_,?_,Wr.nil w⟩,hn,hb⟩⟩
 · rw [List.length_take,List.length_take,hlen,Nat.min_eq_left hk]
   exact Nat.min_eq_left (Nat.mul_le_mul_right _ hk)
 · rw [List.length_take,Nat.min_eq_left hk]
 · rw [List.length_take,Nat.min_eq_left hk,←h4,List.take_take,Nat.min_eq_left (Nat.mul_le_mul_right _ hk)]
 · have e1:l=l.take k++l.drop k:=by simp
   have hFi:=Cells.flat (xs:=xs) hc;subst hFi;rw [e1] at hc;obtain ⟨F1,F2,x1,x2,hF12,hx12,c1,c2⟩:=Cells.split hc;have hF1:=Cells.flat (xs:=x1) c1;subst hF1;have hl1:=Cells.len c1;rw [List.length_take,Nat.min_eq_left hk] at hl1;rw [hx12,List.take_left' hl1];exact c1
 have hFi:=Cells.flat (xs:=xs) hc;subst hFi;rw [hF];rfl
end
theorem zn4 {w W0:World} {v0:Value} {c:DCode} {a:Nat} (h0:Is W0 v0 c) (e0:Ext W0 w) (hc:CodeR c) (ha:a<c.ins.length) :
   CALL tp 214 [v0,.int .i64 (a:Int)] w λr w'=>Ext w w'∧Own w.heap.size w' r (zby c.ins.length (RP (zaC c) a)):=
 (zh9 h0 e0 hc ha).mono λr w' ⟨hx,m,hr,hm,hM⟩=>⟨hx,[m],by rw [hr];exact hM,λb hb=>by simp only [List.mem_cons,List.not_mem_nil,or_false] at hb;omega⟩
def KAt (W0 w:World) (b:Nat) (c:DCode):Prop:=∃ F cs,Rep.rep F W0 cs c∧w.rangeAt b 0 cs∧b<w.heap.size
theorem KAt.at {W0 w:World} {b:Nat} {c:DCode} (h:KAt W0 w b c) (hx:Ext W0 w):At w b 0 c:=by
 obtain ⟨F,cs,hr,hc,_⟩:=h;exact ⟨F,cs,zb5 hr hx,hc⟩
theorem KAt.keep {W0 w w':World} {b:Nat} {c:DCode} (h:KAt W0 w b c) (hb:w'.heap[b]?=w.heap[b]?) (hs:w.heap.size≤w'.heap.size):KAt W0 w' b c:=by
 obtain ⟨F,cs,hr,hc,hl⟩:=h;exact ⟨F,cs,hr,zcZ hc hb,by omega⟩
theorem KAt.lt {W0 w:World} {b:Nat} {c:DCode} (h:KAt W0 w b c):b<w.heap.size:=by obtain ⟨_,_,_,_,h⟩:=h;exact h
theorem zmP {w W0:World} {b m n a:Nat} {c:DCode} {ms0:List Bool} (hk:KAt W0 w b c) (e0:Ext W0 w) (hc:CodeR c) (hn:c.ins.length=n) (ha:a<n) (hM:Mine [m] w (.slice (some ⟨m,0,none⟩) n n) ms0) (hl:ms0.length=n) (h0:W0.heap.size≤m) (hb:b≠m)
   (hclo:∀ i,mkd ms0 i→i≠a→∀ j∈zaC c i,mkd ms0 j) :
   CALL tp 78 [.pointer (some ⟨b,0,none⟩),.slice (some ⟨m,0,none⟩) n n,.int .i64 (a:Int)] w λr w'=>r=.tuple #[]∧ChgI m (m+1) w w'∧Mine [m] w' (.slice (some ⟨m,0,none⟩) n n) (zby n λi=>mkd ms0 i∨RP (zaC c) a i):=by
 refine F78_call ?_;unfold F78;have hil:=hc.f.ins;have hnl:=λ{i j:Nat}=>zcJ hc (i:=i) (j:=j);rw [hn] at hnl hil;refine zcn (x:=(a:Int)) u23 ty3 z3 (by decide) (zbh (by unfold I64;omega)) λv11 w1 hx1 hr1=>?_;have hW1:WI w w1 m n w.heap.size w1.heap.size v11 [a] ms0:=⟨hx1.toI,hr1,hM.ext hx1,lr _,hM.lt m (by simp),hx1.size,Nat.le_refl _⟩;have hKA:∀ {w':World} {lo hi tv L ms},WI w w' m n lo hi tv L ms→At w' b 0 c:=λh=>(hk.keep (h.chg.block b hk.lt (by omega)) h.chg.size).at (e0.chgI h.chg h0);refine zam (1+n) (λh us w'=>∃ (tv:Value) (lo hi:Nat) (L:List Nat) (ms:List Bool),us=[tv]∧WI w w' m n lo hi tv L ms∧SInv (zaC c) n a ms0 ms L h) 0 (z0 _) ⟨v11,_,_,[a],_,rfl,hW1,SInv.start hl ha⟩ ?_;rintro h mk u w4 hkm ⟨tv,lo,hi,L,ms,hu,hW4,hS4⟩;try replace hu:=zbi hu
 rw [hu];have hb4:=hS4.bound;refine zae u23 hW4.row.is ?_;rw [zaf];refine zcK ?_;refine br (λhlt=>?_) (λhge=>?_)
 case refine_2=>have hL0:L=[]:=List.eq_nil_of_length_eq_zero (by omega);rw [hL0] at hS4;have hfin:=hS4.fin hclo;have hms:ms=zby n (λi=>mkd ms0 i∨RP (zaC c) a i):=zbT hS4.len λi hi=>hfin i;rw [←hms];exact ⟨rfl,hW4.chg,hW4.mks⟩
 obtain ⟨z,hz⟩:∃ z,L.length=z+1:=⟨L.length-1,by omega⟩;have hzl:z<L.length:=by omega
 have hne:zaI L≠[]:=λe=>by have:=congrArg List.length e;rw [zaf,hz] at this;cases this
 refine zae u23 hW4.row.is ?_;rw [zaf];refine zbd (by unfold I64;omega) ?_;have ez:(L.length:Int)-1=(z:Int):=by omega
 rw [ez];refine zac u23 ty3 (i:=z) hW4.row.is (by rw [zaf];exact hzl) λb1 o1 hA1=>?_;rw [zaP] at hA1;refine zad ty3 hA1 (Ext.refl _) λ_=>?_;generalize hx:L[z]=x at *;refine zae u23 hW4.row.is ?_;rw [zaf];refine zbd (by unfold I64;omega) ?_;rw [ez];obtain ⟨g,cap,hv4,hcap,hr4⟩:=ztM hW4.row hne (k:=z) (by rw [zaf];omega);rw [zaf] at hv4 hcap;rw [hv4];refine zvs (α:=Int) u23 ty3 (by omega) hcap ?_
 have hLz:L=L.take z++[x]:=by
   have:=tk hzl;rw [←hz,List.take_length,hx] at this;exact this
 rw [←zq8] at hr4;have hW5:WI w w4 m n lo hi (.slice (some ⟨g,0,none⟩) z cap) (L.take z) ms:=⟨hW4.chg,hr4,hW4.mks,hW4.l0,hW4.m1,hW4.h2,hW4.h3⟩;have hxn:x<n:=(hS4.tdo x (by rw [hLz];simp)).2;refine (zg9 (hKA hW5) (Ext.refl _) hc (by rw [hn];exact hxn)).mono ?_;rintro v27 w6 ⟨hx6,ho6⟩;have hW6:=hW5.step hx6;have hI6:=hW5.h3;have hm6:=hW5.mks.lt m (by simp)
 have hLm:∀ i,i∈L↔i∈L.take z∨i=x:=λi=>by
   have:i∈L↔i∈L.take z++[x]:=by rw [←hLz]
   rw [this];simp
 have hS6:SIn2 (zaC c) n a ms0 ms (L.take z) h x 0:=hS4.pop hLm (by rw [List.length_take];omega);have hl2:=zeh c x;refine zae u23 ho6.is ?_;rw [zaf];refine zam (zaC c x).length (λq us w'=>∃ (tv:Value) (lo hi:Nat) (L:List Nat) (ms:List Bool),us=[tv,.int .i64 (q:Int)]∧q≤(zaC c x).length∧WI w w' m n lo hi tv L ms∧SIn2 (zaC c) n a ms0 ms L h x q∧OwnI w4.heap.size w6.heap.size w' v27 (zaI (zaC c x))∧(hi≤w4.heap.size∨w6.heap.size≤lo)∧w6.heap.size≤w'.heap.size) 0 (z0 _) ⟨_,lo,hi,_,ms,rfl,z0 _,hW6,hS6,ho6.toI,.inl hI6,Nat.le_refl _⟩ ?_;rintro q mk8 u8 w7 hkm8 ⟨tv7,lo7,hi7,L7,ms7,hu8,hql,hW7,hS7,ho7,hd7,hz7⟩;obtain ⟨hu81,hu82⟩:=zbL hu8;rw [hu81,hu82];refine zag ?_;refine br (λhlt8=>?_) (λhge8=>?_)
 case refine_2=>exact ⟨mk-1,by omega,h+1,by omega,tv7,lo7,hi7,L7,ms7,rfl,hW7,hS7.done (by omega)⟩
 have hq:q<(zaC c x).length:=by omega
 have hy:=hnl hxn (List.getElem_mem hq);refine zac u23 ty3 (i:=q) ho7.is (by rw [zaf];exact hq) λb3 o3 hA3=>?_;rw [zaP] at hA3;refine zad ty3 hA3 (Ext.refl _) λ_=>?_;have hlen7:=hS7.len;refine zac zcy ty4 hW7.mks.is (by rw [hlen7];exact hy.1) λb2 o2 hA2=>?_;refine zay ty4 hA2 (Ext.refl _) ?_;refine zaX ?_;have hmk7:=zaQ (ms:=ms7) (i:=(zaC c x)[q]) (by rw [hlen7];exact hy.1);refine zbz (λhf=>?_) (λhf=>?_)
 · have hnm:¬mkd ms7 (zaC c x)[q]:=by rw [hmk7];simpa using hf
   refine zbE (α:=Bool) rfl zcy ty4 hy.1 ?_;refine za9 (α:=Bool) rfl ty4 hW7.mks hlen7 hy.1 zbu λw8 hc8 hm8=>?_;have hW8:=hW7.mark hc8 hm8;have hc8':ChgI m (m+1) w7 w8:=hc8.toI λb hb=>by simp only [List.mem_cons,List.not_mem_nil,or_false] at hb;omega
   have ho8:=ho7.chg hc8' (by omega);have hS8:=hS7.push hq hy.1 hnm;generalize (zaC c x)[q]=y at *
   have hLb:L7.length≤2+n:=by
     have h1:=hS7.cnt;have h2:=zfv ms7;omega
   refine zcS (x:=(y:Int)) u23 ty3 z3 zc3 (by decide) hW8.row (ownI_int 0 0 (by unfold I64;omega)) (by rw [zan,zaf];omega) (by rw [zaf];omega) λv54 w9 lo9 hi9 hc9 hr9 hd9=>?_;have hW9:=hW8.push hc9 hr9 hd9;have hsz8:=hc8'.size;refine zas ?_;exact ⟨mk8-1,by omega,q+1,by omega,v54,lo9,hi9,L7++[y],_,rfl,by omega,hW9,hS8,ho8.chg hc9 (by omega),by omega,by have:=hc9.size;omega⟩
 have hnm:mkd ms7 (zaC c x)[q]:=by rw [hmk7];simpa using hf
 refine zas ?_;exact ⟨mk8-1,by omega,q+1,by omega,tv7,lo7,hi7,L7,ms7,rfl,by omega,hW7,hS7.skip hq hnm,ho7,hd7,hz7⟩
def F176 (a0:Value) (w:World) (R:VW):Prop:=
 oP (Instr.buildSlice 23 0 #[]) w λx5 w=>
 LOOPI [3,4] [x5,(iV 0)] w λu3 w n3=>
 rN 101 3 a0 w λx8=>
 rC (u3 4) x8 w λx9=>
 BR x9
 (rX 101 a0 (u3 4) w λx14=>
 rL 4 x14 w λx15=>
 BR x15
 (oP (bS 23 (u3 4)) w λx18 w=>
 oP (aP 23 (u3 3) x18) w λx19 w=>
 rI (u3 4) w λx11=>
 n3 [x19,x11] w)
 (rI (u3 4) w λx11=>
 n3 [(u3 3),x11] w))
 (R (u3 3) w)
theorem F176_call {a0 w R} (h:F176 a0 w R):cL 176 [a0] w R:=co (g:=(kf [] [(3,1048536,[3,4])] [])) Tryz.func176 h
def F234 (a0 a1:Value) (w:World) (R:VW):Prop:=
 oX 32 a0 w λx2 w=>
 (λw=>rL 32 x2 w λx6=>
 rF 32 x2 3 w λx7=>
 rL 23 x7 w λx8=>
 rX 23 x8 a1 w λx10=>
 rL 3 x10 w λx11=>
 cL 214 [x6,x11] w λx12 w=>
 rF 32 x2 3 w λx14=>
 rL 23 x14 w λx15=>
 rX 23 x15 a1 w λx17=>
 rL 3 x17 w λx18=>
 rX 101 x12 x18 w λx19=>
 oS 4 x19 vT w λw=>
 R x12 w) (World.drew1 w)
theorem F234_call {a0 a1 w R} (h:F234 a0 a1 w R):cL 234 [a0,a1] w R:=co (g:=(kf [] [] [(1,[0,1,2,3,4,5,6,7],0)])) Tryz.func234 h
def F212 (a0 a1 a2:Value) (w:World) (R:VW):Prop:=
 oX 32 a0 w λx3 w=>
 rL 32 x3 w λx10=>
 cL 234 [x10,a1] w λx12 w=>
 rF 32 x3 2 w λx13=>
 rL 22 x13 w λx14=>
 rN 22 3 x14 w λx15=>
 oP (Instr.makeSlice 101 x15 x15) w λx16 w=>
 LOOPI [9] [(iV 0)] w λu4 w n4=>
 rF 32 x3 4 w λx18=>
 rL 30 x18 w λx19=>
 rN 30 3 x19 w λx20=>
 rC (u4 9) x20 w λx21=>
 BR x21
 (rX 101 x12 (u4 9) w λx26=>
 rL 4 x26 w λx27=>
 BR x27
 (rF 32 x3 4 w λx29=>
 rL 30 x29 w λx30=>
 rX 30 x30 (u4 9) w λx32=>
 rF 111 x32 0 w λx33=>
 rL 3 x33 w λx34=>
 rB .eql 3 T0 T0 x34 a2 w λx36=>
 BR x36
 (rF 32 x3 4 w λx39=>
 rL 30 x39 w λx40=>
 rX 30 x40 (u4 9) w λx42=>
 rF 111 x42 1 w λx43=>
 rL 3 x43 w λx44=>
 rX 101 x16 x44 w λx45=>
 oS 4 x45 vT w λw=>
 rI (u4 9) w λx23=>
 n4 [x23] w)
 (rI (u4 9) w λx23=>
 n4 [x23] w))
 (rI (u4 9) w λx23=>
 n4 [x23] w))
 (cL 176 [x16] w λx47 w=>
 R x47 w)
theorem F212_call {a0 a1 a2 w R} (h:F212 a0 a1 a2 w R):cL 212 [a0,a1,a2] w R:=co (g:=(kf [] [(4,70368744047104,[9])] [])) Tryz.func212 h
def ztN (ms:List Bool) (n:Nat):List Nat:=(List.range n).filter λi=>ms.getD i false
theorem zha (ms:List Bool) (n:Nat):ztN ms (n+1)=ztN ms n++(if ms.getD n false then [n] else []):=by
 simp only [ztN,List.range_succ,List.filter_append,List.filter_cons,List.filter_nil]
theorem zpd (ms:List Bool) (n:Nat):(ztN ms n).length≤n:=Nat.le_trans (List.length_filter_le _ _) (by simp)
theorem zfK (n:Nat) (p:Nat→Prop):ztN (zby n p) n=zaY n p:=by
 refine List.filter_congr λi hi=>?_;have hi':=List.mem_range.1 hi;have:=zaF (n:=n) (p:=p) (i:=i);unfold mkd at this;by_cases h:p i
 · rw [this.2 ⟨hi',h⟩];simp [h]
 have h2:(zby n p).getD i false≠true:=λe=>h (this.1 e).2;simp only [h,decide_false];cases hh:(zby n p).getD i false
 · rfl
 exact absurd hh h2
theorem zex {w W0:World} {v0:Value} {ms:List Bool} (h0:Is W0 v0 ms) (e0:Ext W0 w) (hn:ms.length≤1000000) :
   CALL tp 176 [v0] w λr w'=>Ext w w'∧Own w.heap.size w' r (zaI (ztN ms ms.length)):=by
 refine F176_call ?_;unfold F176;refine zaH (α:=Int) u23 ty3 λa w1 hx1 hr1=>?_;have hs1:=hx1.size;refine zam ms.length (λk us w'=>∃ (v:Value),us=[v,.int .i64 (k:Int)]∧k≤ms.length∧Ext w w'∧RowI w.heap.size w'.heap.size 3 w' v (zaI (ztN ms k))) 0 (z0 _) ⟨_,rfl,z0 _,hx1,hr1.mono hs1 (lr _)⟩ ?_;rintro k mk u w2 hkm ⟨v,hu,hkl,hx2,hr2⟩;obtain ⟨hu1,hu2⟩:=zbL hu;rw [hu1,hu2];refine zae zcy h0 ?_;refine zag ?_;refine br (λhlt=>?_) (λhge=>?_)
 case refine_2=>
   have:k=ms.length:=by omega
   rw [this] at hr2;exact ⟨hx2,hr2.own.own⟩
 have hk:k<ms.length:=by omega
 have hs2:=hx2.size;have hg:ms.getD k false=ms[k]:=by rw [List.getD_eq_getElem?_getD,List.getElem?_eq_getElem hk];rfl
 have hil:=zpd ms k;refine zac zcy ty4 h0 hk λb2 o2 hA2=>?_;refine zay ty4 hA2 (e0.t hx2) ?_;refine zbz (λhf=>?_) (λhf=>?_)
 · refine zbF (lo2:=w2.heap.size) (hi2:=w2.heap.size) (x:=(k:Int)) u23 ty3 z3 zc3 (by decide) hr2 hs2 (ownI_int _ _ (by unfold I64;omega)) (lr _) hs2 (by rw [zan,zaf];omega) (by rw [zaf];omega) λv54 w9 hc9 hr9=>?_
   refine zas ?_;refine ⟨mk-1,by omega,k+1,by omega,v54,rfl,by omega,hx2.chgI hc9 (lr _),?_⟩;rw [zha,hg,hf,if_pos rfl,zbW];exact hr9
 refine zas ?_;refine ⟨mk-1,by omega,k+1,by omega,v,rfl,by omega,hx2,?_⟩;rw [zha,hg,hf];simpa using hr2
def zaG (c:DCode) (p:Nat) (i:Nat):Prop:=i=(en c p).toNat∨RP (zaC c) (en c p).toNat i
theorem zeS {w W0:World} {v0:Value} {c:DCode} {p:Nat} (h0:Is W0 v0 c) (e0:Ext W0 w) (hc:CodeR c) (hp:p<c.entry.length) :
   CALL tp 234 [v0,.int .i64 (p:Int)] w λr w'=>Ext w w'∧Own w.heap.size w' r (zby c.ins.length (zaG c p)):=by
 refine F234_call ?_;unfold F234;have hen:=zrU hc hp;refine zbj h0 e0 λw1 hx1 hA=>?_;have hx2:=zaj w1;generalize World.drew1 w1=w2 at *;have hs1:=hx1.size;have hs2:=hx2.size;obtain ⟨a,hae⟩:∃ a:Nat,en c p=(a:Int):=⟨(en c p).toNat,by omega⟩
 have hla:zaG c p=λi=>i=a∨RP (zaC c) a i:=by
   funext i;unfold zaG;rw [hae];rfl
 have ha:a<c.ins.length:=by omega
 rw [hla];refine zaa zbq hA hx2 λv6 h6=>?_;refine zab za6 ?_;refine zaa za4 (zap hA) hx2 λv8 h8=>?_;refine zac u23 ty3 h8 hp λb1 o1 hA1=>?_;rw [zbm hp,hae] at hA1;refine zad ty3 hA1 hx2 λ_=>?_;refine (zh9 h6 hx2 hc ha).mono ?_;rintro _ w3 ⟨hx3,m,rfl,hm,hM⟩;have hs3:=hx3.size;refine zab za6 ?_;refine zaa za4 (zap hA) (hx2.t hx3) λv15 h15=>?_;refine zac u23 ty3 h15 hp λb2 o2 hA2=>?_;rw [zbm hp,hae] at hA2;refine zad ty3 hA2 (hx2.t hx3) λ_=>?_;refine zbE (α:=Bool) rfl zcy ty4 ha ?_;refine za9 (α:=Bool) rfl ty4 hM zak ha zbu λw4 hc4 hm4=>?_
 have hset:(zby c.ins.length (RP (zaC c) a)).set a true=zby c.ins.length (λi=>i=a∨RP (zaC c) a i):=zbT (by rw [List.length_set,zak]) λi hi=>by
   rw [zcp (by rw [zak];exact ha),zaF];constructor
   · rintro (⟨_,h⟩ | h)
     · exact .inr h
     exact .inl h
   rintro (h | h)
   · exact .inr h
   exact .inl ⟨hi,h⟩
 rw [hset] at hm4;have hc4':ChgI m (m+1) w3 w4:=hc4.toI λb hb=>by simp only [List.mem_cons,List.not_mem_nil,or_false] at hb;omega
 exact ⟨((hx1.t hx2).trans hx3).chgI hc4' (by omega),[m],hm4,λb hb=>by simp only [List.mem_cons,List.not_mem_nil,or_false] at hb;omega⟩
theorem zd2 {w:World} {n:Nat} {K:Value→World→Prop} (h0:0<n) (hn:n≤1000000)
   (k:∀ w',Ext w w'→Mine [w.heap.size] w' (.slice (some ⟨w.heap.size,0,none⟩) n n) (List.replicate n false)→K (.slice (some ⟨w.heap.size,0,none⟩) n n) w'):OP tp (Instr.makeSlice 101 (.int .i64 (n:Int)) (.int .i64 (n:Int))) w K:=
 ze8 (α:=Bool) zcy ty4 rfl rfl zv6 (by omega) (by omega) λw2 hx2 hr2=>by
   refine k w2 hx2 ?_;obtain ⟨F,hM,hF⟩:=hr2.own;obtain ⟨b,o,cap,hv,hF2⟩:=zew hM (by intro e;have:=congrArg List.length e;simp at this;omega);simp only [Value.slice.injEq,Option.some.injEq,Addr.mk.injEq,List.cons.injEq,and_true] at hv;obtain ⟨⟨hb,ho⟩,_⟩:=hv;rw [←hb] at hF2;rw [hF2] at hM;exact hM
theorem zcT (n:Nat) {p:Nat→Prop} (h:∀ i,¬p i):List.replicate n false=zby n p:=
 zbT (by simp) λi _=>⟨λh=>absurd h zbv,λhp=>absurd hp (h i)⟩
theorem zpe {n q:Nat} {p p':Nat→Prop} (hq:q<n) (h:∀ i,p' i↔p i∨i=q):(zby n p).set q true=zby n p':=
 zbT (by rw [List.length_set,zak]) λi hi=>by
   rw [zcp (by rw [zak];exact hq),zaF,h];exact ⟨λh=>h.imp (·.2) id,λh=>h.imp (λh=>⟨hi,h⟩) id⟩
def zjq (c:DCode) (p:Nat) (op:Int) (q:Nat):Prop:=∃ i,i<c.ins.length∧zaG c p i∧(zal c i).op=op∧(zal c i).arg=(q:Int)
theorem zjr {w W0:World} {v0:Value} {c:DCode} {p:Nat} {op:Int} (h0:Is W0 v0 c) (e0:Ext W0 w) (hc:CodeR c) (hp:p<c.entry.length) (hop:op=4∨op=5) :
   CALL tp 212 [v0,.int .i64 (p:Int),.int .i64 op] w λr w'=>Ext w w'∧Own w.heap.size w' r (zaI (zaY c.procs.length (zjq c p op))):=by
 refine F212_call ?_;unfold F212;have hil:=hc.f.ins;have h8:=hc.1.procs8;refine zbj h0 e0 λw1 hx1 hA=>?_;refine zaa zbq hA (Ext.refl _) λv10 h10=>?_;refine (zeS h10 (Ext.refl _) hc hp).mono ?_;rintro v12 w2 ⟨hx2,ho2⟩;refine zab zbf ?_;refine zaa zb1 (zau hA) hx2 λv14 h14=>?_;refine zae u22 h14 ?_;have hs1:=hx1.size;have hs2:=hx2.size;refine zd2 h8.2 (by omega) λw3 hx3 hM3=>?_;have hs3:=hx3.size;have ho3:=ho2.toI.ext hx3;have hm3:=hM3.lt _ (List.mem_singleton.2 rfl);have hx13:=hx2.t hx3;generalize hm:w2.heap.size=m at *;rw [zcT c.procs.length (p:=λq=>∃ i,i<0∧zaG c p i∧(zal c i).op=op∧(zal c i).arg=(q:Int)) (λi ⟨j,h,_⟩=>by omega)] at hM3;refine zam c.ins.length (λk us w'=>us=[.int .i64 (k:Int)]∧k≤c.ins.length∧ChgI m (m+1) w3 w'∧Mine [m] w' (.slice (some ⟨m,0,none⟩) c.procs.length c.procs.length) (zby c.procs.length λq=>∃ i,i<k∧zaG c p i∧(zal c i).op=op∧(zal c i).arg=(q:Int))) 0 (z0 _) ⟨rfl,z0 _,ChgI.refl _,hM3⟩ ?_;rintro k mk u w4 hkm ⟨hu,hkl,hc4,hM4⟩;try replace hu:=zbi hu
 rw [hu];have hx4:Ext w1 w4:=hx13.chgI hc4 (by omega);have ho4:=ho3.chg hc4 (by omega);refine zab zaD ?_;refine zaa zcu (zai hA) hx4 λv19 h19=>?_;refine zae u30 h19 ?_;refine zag ?_;refine br (λhlt=>?_) (λhge=>?_)
 case refine_2=>
   have hke:k=c.ins.length:=by omega
   rw [hke] at hM4;refine (zex hM4.is (Ext.refl _) (by rw [zak];omega)).mono ?_;rintro r w5 ⟨hx5,ho5⟩;rw [zak,zfK] at ho5;have hsz:=hx4.size;exact ⟨(hx1.t hx4).trans hx5,ho5.mono (by omega)⟩
 have hk:k<c.ins.length:=by omega
 have hno:¬(zaG c p k∧(zal c k).op=op)→(zby c.procs.length λq=>∃ i,i<k∧zaG c p i∧(zal c i).op=op∧(zal c i).arg=(q:Int))=zby c.procs.length λq=>∃ i,i<k+1∧zaG c p i∧(zal c i).op=op∧(zal c i).arg=(q:Int):=λhn=>zaN λq _=>by
   constructor
   · rintro ⟨i,h1,h2⟩
     exact ⟨i,by omega,h2⟩
   rintro ⟨i,h1,h2,h3,h4⟩;by_cases h:i=k
   · subst h;exact absurd ⟨h2,h3⟩ hn
   exact ⟨i,by omega,h2,h3,h4⟩
 refine zac zcy ty4 (i:=k) ho4.is (by rw [zak];exact hk) λb2 o2 hA2=>?_;refine zay ty4 hA2 (Ext.refl _) ?_;have hmk:=zaF (n:=c.ins.length) (p:=zaG c p) (i:=k);rw [zaQ (by rw [zak];exact hk)] at hmk;refine zbz (λhf=>?_) (λhf=>?_)
 case refine_2=>refine zas ?_;refine ⟨mk-1,by omega,k+1,by omega,rfl,by omega,hc4,?_⟩;rw [←hno λh=>by rw [hmk.2 ⟨hk,h.1⟩] at hf;cases hf];exact hM4
 have hlive:=(hmk.1 hf).2;refine zab zaD ?_;refine zaa zcu (zai hA) hx4 λv30 h30=>?_;refine zac u30 zaO h30 hk λb3 o3 hA3=>?_;rw [zaz] at hA3;refine zab zaM ?_;refine zad ty3 (zav hA3) hx4 λ_=>?_;refine zao ?_;refine br (λho=>?_) (λho=>?_)
 case refine_2=>refine zas ?_;refine ⟨mk-1,by omega,k+1,by omega,rfl,by omega,hc4,?_⟩;rw [←hno λh=>ho h.2];exact hM4
 have harg:=(zg8 hc hk).2.1;unfold zcq at harg;rw [if_neg (by omega),if_pos (by omega)] at harg;obtain ⟨q,hq⟩:∃ q:Nat,(zal c k).arg=(q:Int):=⟨(zal c k).arg.toNat,by omega⟩;have hql:q<c.procs.length:=by omega
 refine zab zaD ?_;refine zaa zcu (zai hA) hx4 λv40 h40=>?_;refine zac u30 zaO h40 hk λb5 o5 hA5=>?_;rw [zaz] at hA5;refine zab zaK ?_;refine zad ty3 (zat hA5) hx4 λ_=>?_;rw [hq];refine zbE (α:=Bool) rfl zcy ty4 hql ?_;refine za9 (α:=Bool) rfl ty4 hM4 zak hql zbu λw5 hc5 hm5=>?_;have hc5':ChgI m (m+1) w4 w5:=hc5.toI λb hb=>by simp only [List.mem_cons,List.not_mem_nil,or_false] at hb;omega
 refine zas ?_;refine ⟨mk-1,by omega,k+1,by omega,rfl,by omega,hc4.trans hc5',?_⟩;rw [←zpe (p:=λq=>∃ i,i<k∧zaG c p i∧(zal c i).op=op∧(zal c i).arg=(q:Int)) hql λr=>?_]
 · exact hm5
 constructor
 · rintro ⟨i,h1,h2,h3,h4⟩
   by_cases h:i=k
   · subst h;right;omega
   exact .inl ⟨i,by omega,h2,h3,h4⟩
 rintro (⟨i,h1,h2⟩ | rfl)
 · exact ⟨i,by omega,h2⟩
 exact ⟨k,by omega,hlive,ho,hq⟩
def F73 (a0 a1:Value) (w:World) (R:VW):Prop:=
 cL 125 [a0,(iV 0),(iV 60)] w λx7 w=>
 rT x7 w λx8=>
 BR x8
 (R vF w)
 (rN 62 3 a1 w λx11=>
 rB .gtr 3 T0 U0 x11 (iV 2000) w λx12=>
 BR x12
 (R vF w)
 (LOOPI [5] [(iV 0)] w λu4 w n4=>
 rN 62 3 a1 w λx16=>
 rC (u4 5) x16 w λx17=>
 BR x17
 (rX 62 a1 (u4 5) w λx22=>
 rF 106 x22 0 w λx23=>
 rL 3 x23 w λx24=>
 rB .sub 3 T0 U0 a0 (iV 1) w λx26=>
 cL 125 [x24,(iV 0),x26] w λx27 w=>
 rT x27 w λx28=>
 BR x28
 (R vF w)
 (rX 62 a1 (u4 5) w λx32=>
 rF 106 x32 1 w λx33=>
 rL 3 x33 w λx34=>
 rB .sub 3 T0 U0 a0 (iV 1) w λx36=>
 cL 125 [x34,(iV 0),x36] w λx37 w=>
 rT x37 w λx38=>
 BR x38
 (R vF w)
 (rI (u4 5) w λx19=>
 n4 [x19] w)))
 (R vT w)))
theorem F73_call {a0 a1 w R} (h:F73 a0 a1 w R):cL 73 [a0,a1] w R:=co (g:=(kf [] [(4,1099511611440,[5])] [])) Tryz.func73 h
def F37 (a0 a1:Value) (w:World) (R:VW):Prop:=
 oP (Instr.buildSlice 39 0 #[]) w λx14 w=>
 cL 73 [a0,a1] w λx17 w=>
 rT x17 w λx18=>
 BR x18
 (R x14 w)
 (cL 74 [a0,a1] w λx22 w=>
 oP (Instr.makeSlice 101 a0 a0) w λx24 w=>
 LOOPI [5,8] [x14,a0] w λu7 w n7=>
 rB .gtr 3 T0 U0 (u7 8) (iV 0) w λx27=>
 BR x27
 (LOOPI [5,8,9] [(u7 5),(u7 8),(iV 0)] w λu9 w n9=>
 rC (u9 9) a0 w λx30=>
 BR x30
 (rX 101 x24 (u9 9) w λx35=>
 rL 4 x35 w λx36=>
 rT x36 w λx37=>
 JOIN [10] (λJ16=>
 LOOPI [10,11] [x37,(iV 0)] w λu13 w n13=>
 rC (u13 11) a0 w λx40=>
 BR x40
 (BR (u13 10)
 (rX 99 x22 (u9 9) w λx48=>
 rL 101 x48 w λx49=>
 rX 101 x49 (u13 11) w λx51=>
 rL 4 x51 w λx52=>
 rT x52 w λx53=>
 BR x53
 (rI (u13 11) w λx45=>
 n13 [vT,x45] w)
 (rX 99 x22 (u13 11) w λx57=>
 rL 101 x57 w λx58=>
 rX 101 x58 (u9 9) w λx60=>
 rL 4 x60 w λx61=>
 BR x61
 (rI (u13 11) w λx45=>
 n13 [vT,x45] w)
 (rX 101 x24 (u13 11) w λx66=>
 rL 4 x66 w λx67=>
 rI (u13 11) w λx45=>
 n13 [x67,x45] w)))
 (J16 [(u13 10)] w))
 (J16 [(u13 10)] w)) (λu16 w=>
 rT (u16 10) w λx70=>
 BR x70
 (rI (u9 9) w λx32=>
 n9 [(u9 5),(u9 8),x32] w)
 (oP (Instr.buildSlice 23 0 #[]) w λx71 w=>
 LOOPI [12,13] [x71,(iV 0)] w λu19 w n19=>
 rC (u19 13) a0 w λx74=>
 BR x74
 (rB .eql 3 T0 T0 (u19 13) (u9 9) w λx79=>
 BR x79
 (oP (bS 23 (u19 13)) w λx100 w=>
 oP (aP 23 (u19 12) x100) w λx101 w=>
 rX 101 x24 (u19 13) w λx104=>
 oS 4 x104 vT w λw=>
 rI (u19 13) w λx76=>
 n19 [x101,x76] w)
 (rX 99 x22 (u9 9) w λx83=>
 rL 101 x83 w λx84=>
 rX 101 x84 (u19 13) w λx86=>
 rL 4 x86 w λx87=>
 GBR x87
 (rX 99 x22 (u19 13) w λx91=>
 rL 101 x91 w λx92=>
 rX 101 x92 (u9 9) w λx94=>
 rL 4 x94 w λx95=>
 BR x95
 (oP (bS 23 (u19 13)) w λx100 w=>
 oP (aP 23 (u19 12) x100) w λx101 w=>
 rX 101 x24 (u19 13) w λx104=>
 oS 4 x104 vT w λw=>
 rI (u19 13) w λx76=>
 n19 [x101,x76] w)
 (rI (u19 13) w λx76=>
 n19 [(u19 12),x76] w))
 (rI (u19 13) w λx76=>
 n19 [(u19 12),x76] w)
 (BR undef
 (BR undef
 (oP (bS 23 (u19 13)) w λx100 w=>
 oP (aP 23 (u19 12) x100) w λx101 w=>
 rX 101 x24 (u19 13) w λx104=>
 oS 4 x104 vT w λw=>
 rI (u19 13) w λx76=>
 n19 [x101,x76] w)
 (rI (u19 13) w λx76=>
 n19 [(u19 12),x76] w))
 (rI (u19 13) w λx76=>
 n19 [(u19 12),x76] w))))
 (rN 23 3 (u19 12) w λx107=>
 rB .sub 3 T0 T0 (u9 8) x107 w λx108=>
 oP (bS 39 (u19 12)) w λx111 w=>
 oP (aP 39 (u9 5) x111) w λx112 w=>
 n7 [x112,x108] w))))
 (n7 [(u9 5),(u9 8)] w))
 (R (u7 5) w))
theorem F37_call {a0 a1 w R} (h:F37 a0 a1 w R):cL 37 [a0,a1] w R:=co (g:=(kf [(16,590295810083827747840,[10])] [(7,10384593717069655257060992591347488,[5,8]),(9,10384593717069655257060992390020896,[5,8,9]),(13,590295810083827747840,[10,11]),(19,40564819202580974365024857370624,[12,13])] [])) Tryz.func37 h
open Rep (rep)
theorem zgf {w W1:World} {v1:Value} {n:Nat} {A:List DArc} (h1:Is W1 v1 A) (e1:Ext W1 w) (hn:n≤60) (hA:∀ a∈A,(0≤a.fr∧a.fr<n)∧0≤a.to∧a.to<n) (hl:A.length≤2000) :
   CALL tp 73 [.int .i64 (n:Int),v1] w λr w'=>Ext w w'∧r=.bool true:=by
 refine F73_call ?_;unfold F73;refine l01In_ok.mono ?_;rintro _ w1 ⟨hx1,rfl⟩;refine zaq ?_;refine br (λh=>absurd ⟨by omega,by omega⟩ h) (λ_=>?_);refine zae u62 h1 ?_;refine zcK ?_;refine br (λh=>by omega) (λ_=>?_);refine zam A.length (λk us w'=>us=[.int .i64 (k:Int)]∧k≤A.length∧Ext w w') 0 (z0 _) ⟨rfl,z0 _,hx1⟩ ?_;rintro k mk q w3 hkm ⟨hq,hkl,hx3⟩;try replace hq:=zbi hq
 rw [hq];refine zae u62 h1 ?_;refine zag ?_;refine br (λhlt=>?_) (λhge=>?_)
 case refine_2=>exact ⟨hx3,rfl⟩
 have hk:k<A.length:=by omega
 obtain ⟨⟨hf0,hf1⟩,ht0,ht1⟩:=hA _ (List.getElem_mem hk);refine zac u62 zdQ h1 hk λb3 o3 hA3=>?_;refine zab ziT ?_;refine zad ty3 (zfy hA3) (e1.trans hx3) λ_=>?_;refine zbd (by unfold I64;omega) ?_;refine l01In_ok.mono ?_;rintro _ w4 ⟨hx4,rfl⟩;refine zaq ?_;refine br (λh=>absurd ⟨by omega,by omega⟩ h) (λ_=>?_);refine zac u62 zdQ h1 hk λb5 o5 hA5=>?_;refine zab ziU ?_;refine zad ty3 (zfz hA5) ((e1.trans hx3).trans hx4) λ_=>?_;refine zbd (by unfold I64;omega) ?_;refine l01In_ok.mono ?_;rintro _ w6 ⟨hx6,rfl⟩;refine zaq ?_;refine br (λh=>absurd ⟨by omega,by omega⟩ h) (λ_=>?_);refine zas ?_;exact ⟨mk-1,by omega,k+1,by omega,rfl,by omega,(hx3.t hx4).trans hx6⟩
structure CI (w1 wT w4 w:World) (tv out lv:Value) (T:List Bool) (lo hi:Nat) (L:List (List Int)) (P:List Int):Prop where
 ext:Ext w1 w
 told:OwnI w1.heap.size wT.heap.size w tv T
 s1:w1.heap.size≤wT.heap.size
 s2:wT.heap.size≤lo
 s3:hi≤w4.heap.size
 s4:w4.heap.size≤w.heap.size
 s5:wT.heap.size≤w4.heap.size
 out:RowI lo hi 23 w out L
 row:RowI w4.heap.size w.heap.size 3 w lv P
theorem CI.push {w1 wT w4 w:World} {tv out lv:Value} {T:List Bool} {lo hi j:Nat} {L:List (List Int)} {P:List Int} {K:Value→World→Prop} (h:CI w1 wT w4 w tv out lv T lo hi L P) (hj:j<T.length) (hj60:j≤60) (hP:P.length≤60)
   (k:∀ v' w',CI w1 wT w4 w' tv out v' (T.set j true) lo hi L (P++[(j:Int)])→K v' w') :
   OP tp (Instr.buildSlice 23 1 #[(0,.int .i64 (j:Int))]) w λs w=>OP tp (Builtin.append_ #[23,23] 23 [lv,s].toArray) w λx w=>RD tp (Instr.indexAt 101 tv (.int .i64 (j:Int))) w λa=>OPU tp (Instr.storeAt 4 a (.bool true)) w λw=>K x w:=by
 have hs1:=h.s1;have hs2:=h.s2;have hs3:=h.s3;have hs4:=h.s4;have hs5:=h.s5;refine zbF (lo2:=w.heap.size) (hi2:=w.heap.size) (x:=(j:Int)) u23 ty3 z3 zc3 (by decide) h.row hs4 (ownI_int _ _ (by unfold I64;omega)) (lr _) hs4 (by rw [zan];omega) (by omega) λv5 w5 hc5 hr5=>?_;have hsz5:=hc5.size;obtain ⟨F,hM,hF⟩:=h.told.chg hc5 (by omega);refine zcI zcy ty4 hM hj λb o G hL=>?_;refine zcR (upd:=λy=>T.set j y) (y':=true) ty4 hL mine_bool λw6 F6 hc6 hm6 hF6=>?_;have hcI:=hc6.toI hF;have hsz6:=hcI.size;refine k v5 w6 ⟨(h.ext.chgI hc5 (by omega)).chgI hcI (lr _),⟨F6,hm6,λb hb=>hF b (hF6 b hb)⟩,hs1,hs2,hs3,by omega,hs5,(h.out.chg hc5 (by omega)).chg hcI (by omega),(hr5.chg hcI (by omega)).mono (lr _) hsz6⟩
theorem ztO {way:Nat→Nat→Prop} {told:Nat→Prop} {i j m:Nat} (h:OkK way told i m) (hj:j≤m):OkK way told i j:=⟨h.1,λx hx=>h.2 x (by omega)⟩
theorem zqn {w W1:World} {v1:Value} {n:Nat} {A:List DArc} (h1:Is W1 v1 A) (e1:Ext W1 w) (hn:n≤60) (hA:∀ a∈A,(0≤a.fr∧a.fr<n)∧0≤a.to∧a.to<n) (hl:A.length≤2000) :
   CALL tp 37 [.int .i64 (n:Int),v1] w λr w'=>Ext w w'∧Own w.heap.size w' r ((zmc n (RP (nxA n A))).map zaI):=by
 refine F37_call ?_;unfold F37;refine zaH (α:=List Int) u39 za4 λa8 wa hxa hra=>?_;refine (zgf h1 (e1.trans hxa) hn hA hl).mono ?_;rintro _ wb ⟨hxb,rfl⟩;refine zaX ?_;refine zbz (λh=>by cases h) (λ_=>?_);refine (zi4 h1 ((e1.trans hxa).trans hxb) hn hA hl).mono ?_;rintro v22 w1 ⟨hx1,ho1⟩;have hWay:=ho1.is;have hWl:(ze9 (nxA n A) n).length=n:=zmq;have hWr:∀ i (h:i<(ze9 (nxA n A) n).length),((ze9 (nxA n A) n)[i]).length=n:=λi h=>by rw [zgZ,zak]
 have hWg:∀ i (h:i<(ze9 (nxA n A) n).length) x (hx:x<((ze9 (nxA n A) n)[i]).length),((ze9 (nxA n A) n)[i])[x]=true↔RP (nxA n A) i x:=λi h x hx=>zo5 h hx;have htr:∀ i j k,RP (nxA n A) i j→RP (nxA n A) j k→RP (nxA n A) i k:=λ_ _ _=>RP.trans;generalize ze9 (nxA n A) n=ws at *;generalize RP (nxA n A)=way at *;have hxw1:=(hxa.t hxb).trans hx1;have hsw1:=hxw1.size;refine ze8 (α:=Bool) zcy ty4 rfl rfl zxd (by omega) (by omega) λwT hxT hrT=>?_;have hsT:=hxT.size;generalize htv:(Value.slice (some ⟨w1.heap.size,0,none⟩) n n)=tv at *;have hoT:=hrT.own;rw [show List.replicate n (RepZ.zv:Bool)=zby n λ_=>False from zcT n λ_=>id] at hoT
 have hl0:zer n (λ_=>False)=n:=by
   unfold zer zaY;rw [List.filter_eq_self.2 (λa _=>by simp),List.length_range]
 refine zam n (λk us w'=>∃ out f told L lo hi,us=[out,.int .i64 ((zer n told:Nat):Int)]∧f+k=n∧zer n told≤f∧zmc n way=L++zeb n way f told∧L.length=k∧Whole way told∧Ext w1 w'∧OwnI w1.heap.size wT.heap.size w' tv (zby n told)∧wT.heap.size≤lo∧lo≤w'.heap.size∧hi≤w'.heap.size∧RowI lo hi 23 w' out (L.map zaI)) 0 (z0 _) ⟨.slice (some a8) 0 0,n,λ_=>False,[],wT.heap.size,wT.heap.size,by rw [hl0],rfl,zk1,rfl,rfl,Whole.start,hxT,hoT,lr _,Nat.le_refl _,lr _,zb8 _ _ _ _ _⟩ ?_;rintro k mk q w2 hkm ⟨out,f,told,L,lo,hi,hq,hfk,hlf,hcL,hLl,hwh,hx2,ho2,hlo,hlo2,hhi,hr2⟩;obtain ⟨hq1,hq2⟩:=zbL hq;rw [hq1,hq2];have hs2:=hx2.size;have hll:zer n told≤n:=zk1;refine zcK ?_;refine br (λhpos=>?_) (λhzero=>?_)
 case refine_2=>rw [ziR (zpV (by omega)),List.append_nil] at hcL;rw [hcL];exact ⟨hxw1.t hx2,hr2.own.own.mono (by omega)⟩
 obtain ⟨i1,hnx⟩:=zpW (told:=told) htr (show 0<zer n told by omega);refine zam n (λi us w'=>w'=w2∧i≤n∧us=[out,.int .i64 ((zer n told:Nat):Int),.int .i64 (i:Int)]∧∀ j,j<i→¬OkC n way told j) 0 (z0 _) ⟨rfl,z0 _,rfl,λj hj=>by omega⟩ ?_;rintro i mi q9 w3 hmi ⟨rfl,hil,hq9,hno⟩;obtain ⟨hq91,hq92,hq93⟩:=zwi hq9;rw [hq91,hq92,hq93];refine zag ?_;refine br (λhlt=>?_) (λhge=>?_)
 case refine_2=>have h:=zgQ hnx;exact absurd h (hno i1 (by have:=h.1;omega))
 have hi':i<n:=by omega
 have hTl:(zby n told).length=n:=zak
 have hTg:∀ x (hx:x<(zby n told).length),(zby n told)[x]=true↔told x:=λx hx=>by
   rw [←zaQ hx,zaF];exact ⟨λh=>h.2,λh=>⟨by omega,h⟩⟩
 refine zac (i:=i) zcy ty4 ho2.is (by omega) λb4 o4 hA4=>?_;refine zay ty4 hA4 (Ext.refl _) ?_;refine zaX ?_;refine JOIN.mk (λus w'=>w'=w3∧∃ b,us=[.bool b]∧(b=true↔OkC n way told i)) ?_ ?_
 · refine zam n (λj us w'=>w'=w3∧j≤n∧∃ b,us=[.bool b,.int .i64 (j:Int)]∧(b=true↔OkK way told i j)) 0 (z0 _) ⟨rfl,z0 _,_,rfl,?_⟩ ?_
   · rw [Bool.not_eq_true',←Bool.not_eq_true,hTg]
     exact ⟨λh=>⟨h,λx hx=>by omega⟩,λh=>h.1⟩
   rintro j mj q13 w4 hmj ⟨rfl,hjl,b,hq13,hb⟩;obtain ⟨hq131,hq132⟩:=zbL hq13;rw [hq131,hq132];refine zag ?_;refine br (λhlt2=>?_) (λhge2=>?_)
   case refine_2=>
     have hje:j=n:=by omega
     rw [hje] at hb;exact ⟨rfl,b,rfl,hb.trans (zru hi')⟩
   have hj:j<n:=by omega
   refine zbz (λht=>?_) (λhf=>?_)
   case refine_2=>refine ⟨rfl,b,rfl,?_⟩;rw [hf];refine ⟨(λh=>by cases h),λh=>?_⟩;have:=hb.2 (ztO ((zru hi').2 h) (by omega));rw [hf] at this;cases this
   have hK:=hb.1 ht;have hsucc:=zty (way:=way) (told:=told) (i:=i) (j:=j);refine zhF (i:=i) (j:=j) hWay hx2 (by omega) (by rw [hWr];omega) ?_;have hw1:=hWg i (by omega) j (by rw [hWr];omega);refine zaX ?_;refine zbz (λhn1=>?_) (λhy1=>?_)
   · rw [Bool.not_eq_true',←Bool.not_eq_true,hw1] at hn1
     refine zas ?_;exact ⟨mj-1,by omega,j+1,by omega,rfl,by omega,true,rfl,⟨λ_=>hsucc.2 ⟨hK,λh=>absurd h hn1⟩,λ_=>rfl⟩⟩
   rw [Bool.not_eq_false',hw1] at hy1;refine zhF (i:=j) (j:=i) hWay hx2 (by omega) (by rw [hWr];omega) ?_;have hw2:=hWg j (by omega) i (by rw [hWr];omega);refine zbz (λhy2=>?_) (λhn2=>?_)
   · refine zas ?_
     exact ⟨mj-1,by omega,j+1,by omega,rfl,by omega,true,rfl,⟨λ_=>hsucc.2 ⟨hK,λ_=>.inl (hw2.1 hy2)⟩,λ_=>rfl⟩⟩
   have hn2':¬way j i:=λh=>by rw [hw2.2 h] at hn2;cases hn2
   refine zac (i:=j) zcy ty4 ho2.is (by omega) λb5 o5 hA5=>?_;refine zay ty4 hA5 (Ext.refl _) ?_;refine zas ?_;refine ⟨mj-1,by omega,j+1,by omega,rfl,by omega,_,rfl,?_⟩;rw [hTg,hsucc];exact ⟨λh=>⟨hK,λ_=>.inr h⟩,λh=>(h.2 hy1).resolve_left hn2'⟩
 rintro q16 w4 ⟨rfl,b,hq16,hb⟩;try replace hq16:=zbi hq16
 rw [hq16];refine zaX ?_;refine zbz (λhnb=>?_) (λhyb=>?_)
 · have hnok:¬OkC n way told i:=λh=>by rw [hb.2 h] at hnb;cases hnb
   refine zas ?_;refine ⟨mi-1,by omega,i+1,by omega,rfl,by omega,rfl,λj hj=>?_⟩;rcases Nat.lt_or_eq_of_le (Nat.lt_succ_iff.1 hj) with h | rfl
   · exact hno j h
   exact hnok
 have hok:OkC n way told i:=hb.1 (by simpa using hyb);have hnxi:=zhv hok hno;obtain ⟨f',hcf,hlf',hff⟩:=ziS hlf hnxi;have hleft:=ztj (n:=n) hwh hok.2.1;refine zaH (α:=Int) u23 ty3 λa9 w5 hx5 hr5=>?_;have hs5:=hx5.size
 have hCI0:CI w1 wT w5 w5 tv out (.slice (some a9) 0 0) (zby n (zi3 way told i 0)) lo hi (L.map zaI) (zaI (zaY 0 (zbR way i))):=
   ⟨hx2.t hx5,by rw [←zqe];exact ho2.ext hx5,hsT,hlo,by omega,lr _,by omega,hr2.ext hx5,zb8 _ _ _ _ _⟩
 refine zam n (λj us w'=>∃ lv,us=[lv,.int .i64 (j:Int)]∧j≤n∧CI w1 wT w5 w' tv out lv (zby n (zi3 way told i j)) lo hi (L.map zaI) (zaI (zaY j (zbR way i)))) 0 (z0 _) ⟨_,rfl,z0 _,hCI0⟩ ?_;rintro j mj q19 w6 hmj ⟨lv,hq19,hjl,hCI⟩;obtain ⟨hq191,hq192⟩:=zbL hq19;rw [hq191,hq192];have hsl:(zaY j (zbR way i)).length≤j:=za0;refine zag ?_;refine br (λhlt2=>?_) (λhge2=>?_)
 · have hj:j<n:=by omega
   refine zao ?_;refine br (λheq=>?_) (λhne=>?_)
   · have hp:zbR way i j:=.inl (by omega)
     refine hCI.push (by rw [zak];exact hj) (by omega) (by rw [zaf];omega) λv' w' hC'=>?_;rw [zms hj hp,show zaI (zaY j (zbR way i))++[(j:Int)]=zaI (zaY (j+1) (zbR way i)) by rw [zct hp,zbW];rfl] at hC';refine zas ?_;exact ⟨mj-1,by omega,j+1,by omega,v',rfl,by omega,hC'⟩
   have hnext:¬zbR way i j→∃ m',m'<mj∧∃ k',k'+m'=n∧∃ lv',[lv,Value.int .i64 ((j+1:Nat):Int)]=[lv',.int .i64 (k':Int)]∧k'≤n∧CI w1 wT w5 w6 tv out lv' (zby n (zi3 way told i k')) lo hi (L.map zaI) (zaI (zaY k' (zbR way i))):=λhp=>by
     rw [ztz hp,←zcM hp] at hCI;exact ⟨mj-1,by omega,j+1,by omega,lv,rfl,by omega,hCI⟩
   refine zhF (i:=i) (j:=j) hWay hCI.ext (by omega) (by rw [hWr];omega) ?_;have hw1:=hWg i (by omega) j (by rw [hWr];omega);refine zti (λhy1=>?_) (λhn1=>?_)
   · refine zhF (i:=j) (j:=i) hWay hCI.ext (by omega) (by rw [hWr];omega) ?_
     have hw2:=hWg j (by omega) i (by rw [hWr];omega);refine zbz (λhy2=>?_) (λhn2=>?_)
     · have hp:zbR way i j:=.inr ⟨hw1.1 hy1,hw2.1 hy2⟩
       refine hCI.push (by rw [zak];exact hj) (by omega) (by rw [zaf];omega) λv' w' hC'=>?_;rw [zms hj hp,show zaI (zaY j (zbR way i))++[(j:Int)]=zaI (zaY (j+1) (zbR way i)) by rw [zct hp,zbW];rfl] at hC';refine zas ?_;exact ⟨mj-1,by omega,j+1,by omega,v',rfl,by omega,hC'⟩
     refine zas ?_;refine hnext λhp=>?_;rcases hp with h | h
     · exact hne (by omega)
     rw [hw2.2 h.2] at hn2;cases hn2
   refine zas ?_;refine hnext λhp=>?_;rcases hp with h | h
   · exact hne (by omega)
   rw [hw1.2 h.1] at hn1;cases hn1
 have hje:j=n:=by omega
 rw [hje,zrv] at hCI;have hsn:(zaY n (zbR way i)).length≤n:=za0;have hc4:=hCI.s4;refine zae u23 hCI.row.is ?_;refine zbd (by rw [zaf];unfold I64;omega) ?_;refine zbF (lo2:=w5.heap.size) (hi2:=w6.heap.size) (x:=zaI (zaY n (zbR way i))) u39 za4 z23 zwL (by decide) hCI.out (by omega) hCI.row.own (by omega) (by omega) (by rw [zan,List.length_map];omega) (by rw [List.length_map];omega) λv54 w9 hc9 hr9=>?_;have hs9:=hc9.size;refine ⟨mk-1,by omega,k+1,by omega,v54,f',zgP way told i,L++[zaY n (zbR way i)],lo,w9.heap.size,?_,by omega,hlf',by rw [hcL,hcf,List.append_assoc];rfl,by simp [hLl],hwh.more htr,hCI.ext.chgI hc9 (by omega),hCI.told.chg hc9 (by omega),hlo,by omega,lr _,?_⟩
 · have:((zer n told:Nat):Int)-(((zaI (zaY n (zbR way i))).length:Nat):Int)=((zer n (zgP way told i):Nat):Int):=by rw [zaf];omega
   rw [this]
 rw [List.map_append];exact hr9
def F140 (a0 a1:Value) (w:World) (R:VW):Prop:=
 rB .lss 3 T0 U0 a0 (iV 0) w λx8=>
 BR x8
 (R vF w)
 (rB .gtr 3 T0 U0 a0 (iV 60) w λx11=>
 BR x11
 (R vF w)
 (rN 62 3 a1 w λx15=>
 rB .gtr 3 T0 U0 x15 (iV 2000) w λx16=>
 BR x16
 (R vF w)
 (rN 62 3 a1 w λx19=>
 LOOPI [20] [(iV 0)] w λu4 w n4=>
 rC (u4 20) x19 w λx21=>
 BR x21
 (rX 62 a1 (u4 20) w λx22=>
 rL 106 x22 w λx23=>
 oP (aL 106) w λx6 w=>
 oS 106 x6 x23 w λw=>
 rF 106 x6 0 w λx24=>
 rL 3 x24 w λx25=>
 rB .lss 3 T0 U0 x25 (iV 0) w λx26=>
 BR x26
 (R vF w)
 (rF 106 x6 0 w λx28=>
 rL 3 x28 w λx29=>
 rB .geq 3 T0 T0 x29 a0 w λx31=>
 BR x31
 (R vF w)
 (rF 106 x6 1 w λx34=>
 rL 3 x34 w λx35=>
 rB .lss 3 T0 U0 x35 (iV 0) w λx36=>
 BR x36
 (R vF w)
 (rF 106 x6 1 w λx39=>
 rL 3 x39 w λx40=>
 rB .geq 3 T0 T0 x40 a0 w λx42=>
 BR x42
 (R vF w)
 (rI (u4 20) w λx44=>
 n4 [x44] w)))))
 (R vT w))))
theorem F140_call {a0 a1 w R} (h:F140 a0 a1 w R):cL 140 [a0,a1] w R:=co (g:=(kf [] [(4,35184371040336,[20])] [])) Tryz.func140 h
def F81 (a0 a1 a2:Value) (w:World) (R:VW):Prop:=
 cL 140 [a0,a1] w λx12 w=>
 rT x12 w λx13=>
 BR x13
 (R vF w)
 (cL 84 [a0,a1] w λx16 w=>
 rN 23 3 a2 w λx18=>
 LOOPI [19] [(iV 0)] w λu5 w n5=>
 rC (u5 19) x18 w λx20=>
 BR x20
 (rX 23 a2 (u5 19) w λx21=>
 rL 3 x21 w λx22=>
 rB .geq 3 T0 U0 x22 (iV 0) w λx24=>
 BR x24
 (rC x22 a0 w λx28=>
 BR x28
 (rX 118 x16 x22 w λx33=>
 rL 120 x33 w λx34=>
 rD (convert 3 121 x22) w λx36=>
 rB .shr 120 T0 T0 x34 x36 w λx37=>
 rB .and 120 T0 U0 x37 (Value.int .u64 1) w λx38=>
 rB .eql 120 T0 U0 x38 (Value.int .u64 1) w λx39=>
 BR x39
 (R vT w)
 (rI (u5 19) w λx41=>
 n5 [x41] w))
 (rI (u5 19) w λx41=>
 n5 [x41] w))
 (rI (u5 19) w λx41=>
 n5 [x41] w))
 (R vF w))
theorem F81_call {a0 a1 a2 w R} (h:F81 a0 a1 a2 w R):cL 81 [a0,a1,a2] w R:=co (g:=(kf [] [(5,4398045987392,[19])] [])) Tryz.func81 h
def F72 (a0 a1 a2:Value) (w:World) (R:VW):Prop:=
 cL 73 [a0,a1] w λx11 w=>
 rT x11 w λx12=>
 BR x12
 (R vF w)
 (cL 74 [a0,a1] w λx15 w=>
 LOOPI [8] [(iV 0)] w λu5 w n5=>
 rN 23 3 a2 w λx18=>
 rC (u5 8) x18 w λx19=>
 BR x19
 ((λw=>rX 23 a2 (u5 8) w λx24=>
 rL 3 x24 w λx25=>
 rB .sub 3 T0 U0 a0 (iV 1) w λx27=>
 cL 125 [x25,(iV 0),x27] w λx28 w=>
 BR x28
 (rX 23 a2 (u5 8) w λx33=>
 rL 3 x33 w λx34=>
 rX 99 x15 x34 w λx35=>
 rL 101 x35 w λx36=>
 rX 23 a2 (u5 8) w λx39=>
 rL 3 x39 w λx40=>
 rX 101 x36 x40 w λx41=>
 rL 4 x41 w λx42=>
 BR x42
 (R vT w)
 (rI (u5 8) w λx21=>
 n5 [x21] w))
 (rI (u5 8) w λx21=>
 n5 [x21] w)) (World.drew1 w))
 (R vF w))
theorem F72_call {a0 a1 a2 w R} (h:F72 a0 a1 a2 w R):cL 72 [a0,a1,a2] w R:=co (g:=(kf [] [(5,17592185979200,[8])] [(7,[0,1,2,3,4,5,6,7,8,9,10,11,12,13,14,15,16,17,18,19,20,21],0)])) Tryz.func72 h
open Rep (rep)
theorem zke {w W1:World} {v1:Value} {n:Nat} {A:List DArc} (h1:Is W1 v1 A) (e1:Ext W1 w) (hn:n≤60) (hA:∀ a∈A,(0≤a.fr∧a.fr<n)∧0≤a.to∧a.to<n) (hl:A.length≤2000) :
   CALL tp 140 [.int .i64 (n:Int),v1] w λr w'=>Ext w w'∧r=.bool true:=by
 refine F140_call ?_;unfold F140;refine zag ?_;refine br (λh=>by omega) (λ_=>?_);refine zcK ?_;refine br (λh=>by omega) (λ_=>?_);refine zae u62 h1 ?_;refine zcK ?_;refine br (λh=>by omega) (λ_=>?_);refine zae u62 h1 ?_;refine zam A.length (λk us w'=>us=[.int .i64 (k:Int)]∧k≤A.length∧Ext w w') 0 (z0 _) ⟨rfl,z0 _,Ext.refl _⟩ ?_;rintro k mk q w3 hkm ⟨hq,hkl,hx3⟩;try replace hq:=zbi hq
 rw [hq];refine zag ?_;refine br (λhlt=>?_) (λhge=>?_)
 case refine_2=>exact ⟨hx3,rfl⟩
 have hk:k<A.length:=by omega
 obtain ⟨⟨hf0,hf1⟩,ht0,ht1⟩:=hA _ (List.getElem_mem hk);refine zac u62 zdQ h1 hk λb3 o3 hA3=>?_;refine zaa zdQ hA3 (e1.trans hx3) λv17 h17=>?_;refine zb7 ztm rfl zdQ rfl h17 (e1.trans hx3) λw4 hx4 hA4 hV4=>?_;refine zab ziT ?_;refine zad ty3 (zfy hA4) (Ext.refl _) λ_=>?_;refine zag ?_;refine br (λh=>by omega) (λ_=>?_);refine zab ziT ?_;refine zad ty3 (zfy hA4) (Ext.refl _) λ_=>?_;refine zb0 ?_;refine br (λh=>by omega) (λ_=>?_);refine zab ziU ?_;refine zad ty3 (zfz hA4) (Ext.refl _) λ_=>?_;refine zag ?_;refine br (λh=>by omega) (λ_=>?_);refine zab ziU ?_;refine zad ty3 (zfz hA4) (Ext.refl _) λ_=>?_;refine zb0 ?_;refine br (λh=>by omega) (λ_=>?_);refine zas ?_;exact ⟨mk-1,by omega,k+1,by omega,rfl,by omega,hx3.t hx4⟩
theorem zlx {w W1 W2:World} {v1 v2:Value} {n:Nat} {A:List DArc} {p:List Nat} (h1:Is W1 v1 A) (e1:Ext W1 w) (h2:Is W2 v2 (zaI p)) (e2:Ext W2 w) (hn:n≤60) (hA:∀ a∈A,(0≤a.fr∧a.fr<n)∧0≤a.to∧a.to<n) (hl:A.length≤2000) (hp:∀ x∈p,x<n) (hpl:p.length≤60) :
   CALL tp 81 [.int .i64 (n:Int),v1,v2] w λr w'=>Ext w w'∧∃ b,r=.bool b∧(b=true↔zoV (nxA n A) p):=by
 refine F81_call ?_;unfold F81;refine (zke h1 e1 hn hA hl).mono ?_;rintro _ w1 ⟨hx1,rfl⟩;refine zaX ?_;refine zbz (λh=>by cases h) (λ_=>?_);refine (zks h1 (e1.trans hx1) hn hA hl).mono ?_;rintro v16 w2 ⟨hx2,ho2⟩;have hWay:=ho2.is;refine zae u23 h2 ?_;rw [zaf];refine zam p.length (λk us w'=>us=[.int .i64 (k:Int)]∧k≤p.length∧Ext w2 w'∧∀ x∈p.take k,¬RP (nxA n A) x x) 0 (z0 _) ⟨rfl,z0 _,Ext.refl _,by simp⟩ ?_;rintro k mk q w3 hkm ⟨hq,hkl,hx3,hno⟩;try replace hq:=zbi hq
 rw [hq];refine zag ?_;refine br (λhlt=>?_) (λhge=>?_)
 case refine_2=>
   have hke:k=p.length:=by omega
   rw [hke,List.take_length] at hno;exact ⟨(hx1.t hx2).trans hx3,false,rfl,(λh=>by cases h),λ⟨x,hx,hr⟩=>absurd hr (hno x hx)⟩
 have hk:k<p.length:=by omega
 have hpk:=hp _ (List.getElem_mem hk);refine zac (i:=k) u23 ty3 h2 (by rw [zaf];exact hk) λb3 o3 hA3=>?_;rw [zaP] at hA3;refine zad ty3 hA3 (((e2.trans hx1).trans hx2).trans hx3) λ_=>?_;refine zb0 ?_;refine br (λ_=>?_) (λh=>by omega);refine zag ?_;refine br (λ_=>?_) (λh=>by omega);refine zle (i:=p[k]) hWay hx3 (by rw [zml];exact hpk) ?_;rw [zmm];have h62:zce (RP (nxA n A) p[k]) n<4611686018427387904:=zdR hn;refine zbI (by kernel_rfl) ziq (by omega) ?_;refine zhE h62 ?_;refine zhD (n:=1) (Nat.lt_of_le_of_lt (zmo _ _) h62) (by omega) ?_;refine zao ?_;refine br (λhb=>?_) (λhb=>?_)
 · rw [zqR,zaT] at hb
   exact ⟨(hx1.t hx2).trans hx3,true,rfl,λ_=>⟨_,List.getElem_mem hk,hb.2⟩,λ_=>rfl⟩
 refine zas ?_;refine ⟨mk-1,by omega,k+1,by omega,rfl,by omega,hx3,λx hx=>?_⟩;rw [tk hk] at hx;rcases List.mem_append.1 hx with hx | hx
 · exact hno x hx
 simp only [List.mem_singleton] at hx;subst hx;exact λh=>hb (by rw [zqR,zaT];exact ⟨hpk,h⟩)
theorem zly {w W1 W2:World} {v1 v2:Value} {n:Nat} {A:List DArc} {p:List Nat} (h1:Is W1 v1 A) (e1:Ext W1 w) (h2:Is W2 v2 (zaI p)) (e2:Ext W2 w) (hn:n≤60) (hA:∀ a∈A,(0≤a.fr∧a.fr<n)∧0≤a.to∧a.to<n) (hl:A.length≤2000) (hp:∀ x∈p,x<n) (hpl:p.length≤60) :
   CALL tp 72 [.int .i64 (n:Int),v1,v2] w λr w'=>Ext w w'∧∃ b,r=.bool b∧(b=true↔zoV (nxA n A) p):=by
 refine F72_call ?_;unfold F72;refine (zgf h1 e1 hn hA hl).mono ?_;rintro _ w1 ⟨hx1,rfl⟩;refine zaX ?_;refine zbz (λh=>by cases h) (λ_=>?_);refine (zi4 h1 (e1.trans hx1) hn hA hl).mono ?_;rintro v16 w2 ⟨hx2,ho2⟩;have hWay:=ho2.is;refine zam p.length (λk us w'=>us=[.int .i64 (k:Int)]∧k≤p.length∧Ext w2 w'∧∀ x∈p.take k,¬RP (nxA n A) x x) 0 (z0 _) ⟨rfl,z0 _,Ext.refl _,by simp⟩ ?_;rintro k mk q w3 hkm ⟨hq,hkl,hx3,hno⟩;try replace hq:=zbi hq
 rw [hq];refine zae u23 h2 ?_;rw [zaf];refine zag ?_;refine br (λhlt=>?_) (λhge=>?_)
 case refine_2=>
   have hke:k=p.length:=by omega
   rw [hke,List.take_length] at hno;exact ⟨(hx1.t hx2).trans hx3,false,rfl,(λh=>by cases h),λ⟨x,hx,hr⟩=>absurd hr (hno x hx)⟩
 have hk:k<p.length:=by omega
 have hpk:=hp _ (List.getElem_mem hk);have hxd:=zaj w3;generalize World.drew1 w3=w4 at *;have hx4:=hx3.t hxd;have e4:=((e2.trans hx1).trans hx2).trans hx4;refine zac (i:=k) u23 ty3 h2 (by rw [zaf];exact hk) λb3 o3 hA3=>?_;rw [zaP] at hA3;refine zad ty3 hA3 e4 λ_=>?_;refine zbd (by unfold I64;omega) ?_;refine l01In_ok.mono ?_;rintro _ w5 ⟨hx5,rfl⟩;refine br (λ_=>?_) (λh=>absurd ⟨by omega,by omega⟩ h);refine zac (i:=k) u23 ty3 h2 (by rw [zaf];exact hk) λb6 o6 hA6=>?_;rw [zaP] at hA6;refine zad ty3 hA6 (e4.trans hx5) λ_=>?_;have hi:p[k]<(ze9 (nxA n A) n).length:=by rw [zmq];exact hpk
 refine zac (i:=p[k]) u99 zcd hWay hi λb7 o7 hA7=>?_;refine zaa zcd hA7 (hx4.t hx5) λv7 h7=>?_;refine zac (i:=k) u23 ty3 h2 (by rw [zaf];exact hk) λb8 o8 hA8=>?_;rw [zaP] at hA8;refine zad ty3 hA8 (e4.trans hx5) λ_=>?_;have hj:p[k]<((ze9 (nxA n A) n)[p[k]]).length:=by rw [zgZ,zak];exact hpk
 refine zac (i:=p[k]) zcy ty4 h7 hj λb9 o9 hA9=>?_;refine zay ty4 hA9 (hx4.t hx5) ?_;have hat:=zo5 hi hj;refine zbz (λhb=>?_) (λhb=>?_)
 · exact ⟨((hx1.t hx2).trans hx4).trans hx5,true,rfl,λ_=>⟨_,List.getElem_mem hk,hat.1 hb⟩,λ_=>rfl⟩
 refine zas ?_;refine ⟨mk-1,by omega,k+1,by omega,rfl,by omega,hx4.t hx5,λx hx=>?_⟩;rw [tk hk] at hx;rcases List.mem_append.1 hx with hx | hx
 · exact hno x hx
 simp only [List.mem_singleton] at hx;subst hx;exact λh=>by rw [hat.2 h] at hb;cases hb
def F116 (a0 a1:Value) (w:World) (R:VW):Prop:=
 rD (convert 3 121 a1) w λx7=>
 rB .shr 3 T0 T0 a0 x7 w λx8=>
 rB .and 3 T0 U0 x8 (iV 1) w λx9=>
 rQ x9 (iV 1) w λx10=>
 R x10 w
theorem F116_call {a0 a1 w R} (h:F116 a0 a1 w R):cL 116 [a0,a1] w R:=co (g:=(kf [] [] [])) Tryz.func116 h
theorem zeT {w:World} {m:Nat} {i:Nat}   (hm:m<4611686018427387904) (hi:i<4611686018427387904) :
   CALL tp 116 [.int .i64 (m:Int),.int .i64 (i:Int)] w λr w'=>Ext w w'∧(r=.bool (m.testBit i)):=by
 refine F116_call ?_;unfold F116;refine zbI (by kernel_rfl) ziq (by omega) ?_;refine zuD (by omega) ?_;refine zdW (n:=1) (Nat.lt_of_le_of_lt (Nat.shiftRight_le m i) hm) (by omega) ?_;refine zao ?_;refine ⟨Ext.refl w,?_⟩;rw [zrl]
def F66 (a0:Value) (w:World) (R:VW):Prop:=
 LOOPI [3,4] [(Value.slice none 0 0),(iV 0)] w λu3 w n3=>
 rD (convert 3 121 (u3 4)) w λx7=>
 rB .shr 3 T0 T0 a0 x7 w λx8=>
 rB .neq 3 T0 U0 x8 (iV 0) w λx9=>
 BR x9
 (cL 116 [a0,(u3 4)] w λx14 w=>
 BR x14
 (oP (bS 23 (u3 4)) w λx17 w=>
 oP (aP 23 (u3 3) x17) w λx18 w=>
 rI (u3 4) w λx11=>
 n3 [x18,x11] w)
 (rI (u3 4) w λx11=>
 n3 [(u3 3),x11] w))
 (R (u3 3) w)
theorem F66_call {a0 w R} (h:F66 a0 w R):cL 66 [a0] w R:=co (g:=(kf [] [(3,524280,[3,4])] [])) Tryz.func66 h
theorem zcU {w:World} {m:Nat}   (hm:m<4611686018427387904) :
   CALL tp 66 [.int .i64 (m:Int)] w λr w'=>Ext w w'∧(Own w.heap.size w' r (zbn m)):=by
 refine F66_call ?_;unfold F66;refine zam (62) (λk us w'=>∃ v:Value,us=[v,.int .i64 (k:Int)]∧Ext w w'∧(RowI w.heap.size w'.heap.size 3 w' v (zcD m k))) (0) (by omega) ⟨_,rfl,Ext.refl w,zcv _ _ _ _⟩ ?_;rintro k m3 uu3 w1_ hk3 ⟨v3,hu,η1,hrow⟩;have σ1:=η1.size;obtain ⟨hu0,hu1⟩:=zbL hu;try rw [hu0]
 try rw [hu1]
 try clear hu0 hu1
 have hrl:=zdA m k;refine zbI (by kernel_rfl) ziq (by omega) ?_;refine zuD (by omega) ?_;refine zaB ?_;refine br (λc1=>?_) (λc1=>?_)
 · have hk62:k<62:=by
     rcases Nat.lt_or_ge k 62 with h | h
     · exact h
     have h1:m<2^k:=Nat.lt_of_lt_of_le (show m<2^62 by omega) (Nat.pow_le_pow_right (by omega) h);exact absurd (by rw [zoY.2 h1];rfl) c1
   refine (zeT (by omega) (by omega)).mono ?_;rintro _ w2_ ⟨η2,rfl⟩;have σ2:=η2.size;refine zbz (λc2=>?_) (λc2=>?_)
   · refine zbF (α:=Int) u23 ty3 z3 zc3 (by decide) (hrow.ext η2) (by omega) (ownI_int (lo:=w2_.heap.size) (hi:=w2_.heap.size) (by first | assumption | (unfold I64 at *;omega))) (by omega) (by omega) (by rw [zan];omega) (by omega) λv18 w3_ hc3_ o18=>?_
     have σhc3_:=hc3_.size;refine zas ?_;refine ⟨m3-1,by omega,k+1,by omega,_,rfl,(Ext.chgI (η1.t η2) hc3_ (by omega)),?_⟩;rw [zcD,if_pos c2];exact o18
   refine zas ?_;refine ⟨m3-1,by omega,k+1,by omega,_,rfl,(η1.t η2),?_⟩;rw [zcD,if_neg (by simp [c2])];exact (hrow.ext η2).mono (by omega) (by omega)
 refine ⟨η1,?_⟩;have h1:m >>> k=0:=by have:=Decidable.not_not.1 c1;omega
 rw [zis (zoY.1 h1) (by omega)];exact hrow.own.own
def F102 (a0:Value) (w:World) (R:VW):Prop:=
 rD (convert 3 121 a0) w λx4=>
 rB .shl 3 U0 T0 (iV 1) x4 w λx5=>
 R x5 w
theorem F102_call {a0 w R} (h:F102 a0 w R):cL 102 [a0] w R:=co (g:=(kf [] [] [])) Tryz.func102 h
theorem zei {w:World} {i:Nat}   (hi:i<62) :
   CALL tp 102 [.int .i64 (i:Int)] w λr w'=>Ext w w'∧(r=.int .i64 ((2^i:Nat):Int)):=by
 refine F102_call ?_;unfold F102;refine zbI (by kernel_rfl) ziq (by omega) ?_;refine zds (by omega) ?_;refine ⟨Ext.refl w,?_⟩;rfl
def F130 (a0 a1:Value) (w:World) (R:VW):Prop:=
 cL 102 [a1] w λx7 w=>
 rB .and 3 T0 T0 a0 x7 w λx8=>
 rB .neq 3 T0 U0 x8 (iV 0) w λx9=>
 R x9 w
theorem F130_call {a0 a1 w R} (h:F130 a0 a1 w R):cL 130 [a0,a1] w R:=co (g:=(kf [] [] [])) Tryz.func130 h
theorem zpf {w:World} {m:Nat} {i:Nat}   (hm:m<4611686018427387904) (hi:i<62) :
   CALL tp 130 [.int .i64 (m:Int),.int .i64 (i:Int)] w λr w'=>Ext w w'∧(r=.bool (m.testBit i)):=by
 refine F130_call ?_;unfold F130;refine (zei (by omega)).mono ?_;rintro _ w1_ ⟨η1,rfl⟩;have hp:2^i<4611686018427387904:=Nat.lt_of_lt_of_le (Nat.pow_lt_pow_right (by omega) hi) (by omega:2^62≤4611686018427387904);refine zdW (by omega) (by omega) ?_;refine zaB ?_;refine ⟨η1,?_⟩;rw [zto]
def F156 (a0:Value) (w:World) (R:VW):Prop:=
 cL 125 [a0,(iV 0),(iV 63)] w λx4 w=>
 R x4 w
theorem F156_call {a0 w R} (h:F156 a0 w R):cL 156 [a0] w R:=co (g:=(kf [] [] [])) Tryz.func156 h
theorem zlz {w:World} {a:Int}    :
   CALL tp 156 [.int .i64 a] w λr w'=>Ext w w'∧(r=.bool (decide (0≤a∧a≤63))):=by
 refine F156_call ?_;unfold F156;refine (l01In_ok ).mono ?_;rintro _ w1_ ⟨η1,rfl⟩;refine ⟨η1,?_⟩;rfl
def F103 (a0:Value) (w:World) (R:VW):Prop:=
 oP (Instr.buildSlice 23 0 #[]) w λx5 w=>
 LOOPI [3,4] [x5,(iV 0)] w λu3 w n3=>
 cL 156 [a0] w λx7 w=>
 BR x7
 (rB .lss 3 T0 U0 (u3 4) (iV 6) w λx10=>
 BR x10
 (cL 130 [a0,(u3 4)] w λx16 w=>
 BR x16
 (oP (bS 23 (u3 4)) w λx19 w=>
 oP (aP 23 (u3 3) x19) w λx20 w=>
 rI (u3 4) w λx13=>
 n3 [x20,x13] w)
 (rI (u3 4) w λx13=>
 n3 [(u3 3),x13] w))
 (R (u3 3) w))
 (R (u3 3) w)
theorem F103_call {a0 w R} (h:F103 a0 w R):cL 103 [a0] w R:=co (g:=(kf [] [(3,2097112,[3,4])] [])) Tryz.func103 h
theorem zrV {w:World} {m:Nat}   (hm:m<64) :
   CALL tp 103 [.int .i64 (m:Int)] w λr w'=>Ext w w'∧(Own w.heap.size w' r (zbn m)):=by
 refine F103_call ?_;unfold F103;refine zaH (α:=Int) u23 ty3 λv5 w1_ η1 o5=>?_;have σ1:=η1.size;refine zam (6) (λk us w'=>∃ v:Value,us=[v,.int .i64 (k:Int)]∧Ext w1_ w'∧(RowI w1_.heap.size w'.heap.size 3 w' v (zcD m k))) (0) (by omega) ⟨_,rfl,Ext.refl w1_,zb8 _ _ _ _ _⟩ ?_;rintro k m3 uu3 w2_ hk3 ⟨v3,hu,η2,hrow⟩;have σ2:=η2.size;obtain ⟨hu0,hu1⟩:=zbL hu;try rw [hu0]
 try rw [hu1]
 try clear hu0 hu1
 have hrl:=zdA m k;refine (zlz ).mono ?_;rintro _ w3_ ⟨η3,rfl⟩;have σ3:=η3.size;refine br (λc1=>?_) (λc1=>?_)
 · refine zag ?_
   refine br (λc2=>?_) (λc2=>?_)
   · refine (zpf (by omega) (by omega)).mono ?_
     rintro _ w4_ ⟨η4,rfl⟩;have σ4:=η4.size;refine zbz (λc3=>?_) (λc3=>?_)
     · refine zbF (α:=Int) u23 ty3 z3 zc3 (by decide) (hrow.ext (η3.t η4)) (by omega) (ownI_int (lo:=w4_.heap.size) (hi:=w4_.heap.size) (by first | assumption | (unfold I64 at *;omega))) (by omega) (by omega) (by rw [zan];omega) (by omega) λv20 w5_ hc5_ o20=>?_
       have σhc5_:=hc5_.size;have o5_c5:=(o5.ext (η2.t (η3.t η4))).chg hc5_ (by omega);refine zas ?_;refine ⟨m3-1,by omega,k+1,by omega,_,rfl,(Ext.chgI ((η2.t η3).trans η4) hc5_ (by omega)),?_⟩;rw [zcD,if_pos c3];exact o20
     refine zas ?_;refine ⟨m3-1,by omega,k+1,by omega,_,rfl,(η2.t (η3.t η4)),?_⟩;rw [zcD,if_neg (by simp [c3])];exact (hrow.ext (η3.t η4)).mono (by omega) (by omega)
   refine ⟨(η1.t (η2.t η3)),?_⟩;rw [zis (k:=6) (by omega) (by omega)];have:k=6:=by omega
   subst this;exact (hrow.own.ext η3).own.mono (by omega)
 refine ⟨(η1.t (η2.t η3)),?_⟩;exact absurd c1 (by omega)
theorem zlA {c:DCode} {s:DState} (hc:CodeR c) (hs:zbc c s) (t:Int):-1≤zbo c s t∧zbo c s t<c.locks.length∧(0≤zbo c s t→(zbo c s t).toNat<s.owner.length∧0≤ow s (zbo c s t)∧ow s (zbo c s t)<s.stacks.length):=by
 unfold zbo;split
 · rename_i h
   have h1:=zlw hc hs h.1 (.inl h.2.1);have h2:=ztK hs h1.1 h1.2;have h3:=hs.2.1;refine ⟨by omega,by omega,λ_=>⟨h1.2,h.2.2,h2.2⟩⟩
 exact ⟨by omega,by omega,λh=>by omega⟩
def zhL (c:DCode) (s:DState) (t:Int):Nat→Nat→Int→Nat
 | 0,_,_=>0
 | n+1,m,u=>if zbo c s u<0 then 0 else if ow s (zbo c s u)=t then m ||| 2^(zbo c s u).toNat else zhL c s t n (m ||| 2^(zbo c s u).toNat) (ow s (zbo c s u))
def zhb (c:DCode) (s:DState) (t:Int):Nat:=zhL c s t s.stacks.length 0 t
theorem zkA {m i:Nat} (hm:m<64) (hi:i<6):m ||| 2^i<64:=Nat.or_lt_two_pow (n:=6) hm (Nat.pow_lt_pow_right (by omega) hi)
theorem zpg {c:DCode} {s:DState} (hc:CodeR c) (hs:zbc c s) (t:Int):∀ n m u,m<64→zhL c s t n m u<64
 | 0,_,_,_=>by rw [zhL];omega
 | n+1,m,u,hm=>by
   have h1:=zlA hc hs u;have h2:=hc.1.locks6;rw [zhL];split
   · omega
   have h3:=zkA hm (i:=(zbo c s u).toNat) (by omega);split
   · exact h3
   exact zpg hc hs t n _ _ h3
theorem zrW {c:DCode} {s:DState} (hc:CodeR c) (hs:zbc c s) (t:Int):zhb c s t<64:=zpg hc hs t _ _ _ (by omega)
def F67 (a0 a1 a2:Value) (w:World) (R:VW):Prop:=
 oX 32 a0 w λx3 w=>
 oX 53 a1 w λx4 w=>
 rF 53 x4 2 w λx11=>
 rL 39 x11 w λx12=>
 rN 39 3 x12 w λx13=>
 LOOPI [7,8,14] [(iV 0),a2,(iV 0)] w λu3 w n3=>
 rC (u3 14) x13 w λx15=>
 BR x15
 (rL 32 x3 w λx16=>
 rL 53 x4 w λx17=>
 cL 117 [x16,x17,(u3 8)] w λx19 w=>
 rB .lss 3 T0 U0 x19 (iV 0) w λx21=>
 BR x21
 (R (iV 0) w)
 (rD (convert 3 121 x19) w λx24=>
 rB .shl 3 U0 T0 (iV 1) x24 w λx25=>
 rB .or 3 T0 T0 (u3 7) x25 w λx26=>
 rL 53 x4 w λx27=>
 cL 118 [x27,x19] w λx29 w=>
 rB .eql 3 T0 T0 x29 a2 w λx32=>
 BR x32
 (R x26 w)
 (rI (u3 14) w λx34=>
 n3 [x26,x29,x34] w)))
 (R (iV 0) w)
theorem F67_call {a0 a1 a2 w R} (h:F67 a0 a1 a2 w R):cL 67 [a0,a1,a2] w R:=co (g:=(kf [] [(3,34359722944,[7,8,14])] [])) Tryz.func67 h
theorem zvt {w:World} {v0:Value} {W0:World} {c:DCode} {v1:Value} {W1:World} {s:DState} {t:Int}  (h0:Is W0 v0 c) (e0:Ext W0 w) (h1:Is W1 v1 s) (e1:Ext W1 w) (hc:CodeR c) (hs:zbc c s) :
   CALL tp 67 [v0,v1,.int .i64 t] w λr w'=>Ext w w'∧(r=.int .i64 (zhb c s t:Int)):=by
 refine F67_call ?_;unfold F67;refine zar zbq rfl h0 e0 λw1_ η1 hA3 hV3=>?_;refine zar zik rfl h1 (e1.trans η1) λw2_ η2 hA4 hV4=>?_;refine zab zcl ?_;refine zaa zhy (zaE hA4) (Ext.refl w2_) λv12 h12=>?_;have hln13:=zah h12;refine zae u39 h12 ?_;refine zam (s.stacks.length) (λk us w'=>∃ q:Nat×Int,us=[.int .i64 (q.1:Int),.int .i64 q.2,.int .i64 (k:Int)]∧Ext w2_ w'∧(q.1<64∧zhL c s t (s.stacks.length-k) q.1 q.2=zhb c s t)) (0) (by omega) ⟨(0,t),rfl,Ext.refl w2_,by simp,rfl⟩ ?_;rintro k m3 uu3 w3_ hk3 ⟨q,hu,η3,hq1,hq2⟩;obtain ⟨hu0,hu1,hu2⟩:=zwi hu;try rw [hu0]
 try rw [hu1]
 try rw [hu2]
 try clear hu0 hu1 hu2
 obtain ⟨q,u⟩:=q;simp only at hq1 hq2 ⊢;have hw:=zlA hc hs u;have hl6:=hc.1.locks6;have hmany:=hs.2.2.1;refine zag ?_;refine br (λc1=>?_) (λc1=>?_)
 · refine zaR hV3 (η2.t η3) ?_
   refine zaR hV4 η3 ?_;refine (ztL h0 (e0.t (η1.t (η2.t η3))) h1 (e1.trans (η1.t (η2.t η3))) (by assumption) (by assumption)).mono ?_;rintro _ w4_ ⟨η4,rfl⟩;refine zag ?_;refine br (λc2=>?_) (λc2=>?_)
   · refine ⟨(η1.t (η2.t (η3.t η4))),?_⟩
     rw [show s.stacks.length-k=(s.stacks.length-k-1)+1 by omega,zhL,if_pos (by omega)] at hq2;rw [←hq2];rfl
   rw [show s.stacks.length-k=(s.stacks.length-k-1)+1 by omega,zhL,if_neg (by omega)] at hq2;obtain ⟨l,hl⟩:∃ l:Nat,zbo c s u=(l:Int):=⟨(zbo c s u).toNat,by omega⟩;have hw2:=hw.2.2 (by omega);rw [hl] at hw hw2 hq2 ⊢;simp only [Int.toNat_natCast] at hq2 hw2;have ho6:=zkA hq1 (i:=l) (by omega);have hp:2^l<64:=Nat.pow_lt_pow_right (n:=6) (by omega) (by omega);refine zbI (by kernel_rfl) ziq (by omega) ?_;refine zds (by omega) ?_;refine ze3 (by omega) (by omega) ?_;refine zaR hV4 (η3.t η4) ?_;refine (zjo h1 (e1.trans (η1.t (η2.t (η3.t η4)))) (by omega) (by omega)).mono ?_;rintro _ w5_ ⟨η5,rfl⟩;refine zao ?_;refine br (λc3=>?_) (λc3=>?_)
   · refine ⟨(η1.t (η2.t (η3.t (η4.t η5)))),?_⟩
     rw [if_pos (by omega)] at hq2;rw [hq2]
   refine zas ?_;refine ⟨m3-1,by omega,k+1,by omega,(q ||| 2^l,max (ow s (l:Int)) (-1)),rfl,(η3.t (η4.t η5)),?_⟩;rw [if_neg (by omega)] at hq2;refine ⟨ho6,?_⟩;rw [←hq2];simp only;rw [show max (ow s (l:Int)) (-1)=ow s (l:Int) by omega,Nat.sub_sub]
 refine ⟨(η1.t (η2.t η3)),?_⟩;rw [show s.stacks.length-k=0 by omega,zhL] at hq2;rw [←hq2];rfl
def F59 (a0 a1 a2:Value) (w:World) (R:VW):Prop:=
 oX 32 a0 w λx3 w=>
 oX 53 a1 w λx4 w=>
 LOOPI [7,8,9] [(iV 0),a2,(iV 0)] w λu4 w n4=>
 rF 53 x4 2 w λx13=>
 rL 39 x13 w λx14=>
 rN 39 3 x14 w λx15=>
 rC (u4 9) x15 w λx16=>
 BR x16
 (rL 32 x3 w λx19=>
 rL 53 x4 w λx20=>
 cL 101 [x19,x20,(u4 8)] w λx22 w=>
 rB .lss 3 T0 U0 x22 (iV 0) w λx24=>
 BR x24
 (oP (Instr.buildSlice 23 0 #[]) w λx25 w=>
 R x25 w)
 (cL 102 [x22] w λx28 w=>
 rB .or 3 T0 T0 (u4 7) x28 w λx29=>
 rF 53 x4 1 w λx30=>
 rL 23 x30 w λx31=>
 rX 23 x31 x22 w λx33=>
 rL 3 x33 w λx34=>
 rB .eql 3 T0 T0 x34 a2 w λx37=>
 BR x37
 (cL 103 [x29] w λx39 w=>
 R x39 w)
 (rI (u4 9) w λx18=>
 n4 [x29,x34,x18] w)))
 (oP (Instr.buildSlice 23 0 #[]) w λx40 w=>
 R x40 w)
theorem F59_call {a0 a1 a2 w R} (h:F59 a0 a1 a2 w R):cL 59 [a0,a1,a2] w R:=co (g:=(kf [] [(4,1099511625664,[7,8,9])] [])) Tryz.func59 h
theorem zmQ {w:World} {v0:Value} {W0:World} {c:DCode} {v1:Value} {W1:World} {s:DState} {t:Int}  (h0:Is W0 v0 c) (e0:Ext W0 w) (h1:Is W1 v1 s) (e1:Ext W1 w) (hc:CodeR c) (hs:zbc c s) :
   CALL tp 59 [v0,v1,.int .i64 t] w λr w'=>Ext w w'∧(Own w.heap.size w' r (zbn (zhb c s t))):=by
 refine F59_call ?_;unfold F59;have σe0:=e0.size;have σe1:=e1.size;refine zar zbq rfl h0 e0 λw1_ η1 hA3 hV3=>?_;have σ1:=η1.size;refine zar zik rfl h1 (e1.trans η1) λw2_ η2 hA4 hV4=>?_;have σ2:=η2.size;refine zam (s.stacks.length) (λk us w'=>∃ q:Nat×Int,us=[.int .i64 (q.1:Int),.int .i64 q.2,.int .i64 (k:Int)]∧Ext w2_ w'∧(q.1<64∧zhL c s t (s.stacks.length-k) q.1 q.2=zhb c s t)) (0) (by omega) ⟨(0,t),rfl,Ext.refl w2_,by simp,rfl⟩ ?_;rintro k m4 uu4 w3_ hk4 ⟨q,hu,η3,hq1,hq2⟩;have σ3:=η3.size;obtain ⟨hu0,hu1,hu2⟩:=zwi hu;try rw [hu0]
 try rw [hu1]
 try rw [hu2]
 try clear hu0 hu1 hu2
 obtain ⟨q,u⟩:=q;simp only at hq1 hq2 ⊢;have hw:=zlA hc hs u;have hl6:=hc.1.locks6;have hmany:=hs.2.2.1;refine zab zcl ?_;refine zaa zhy (zaE hA4) η3 λv14 h14=>?_;have hln15:=zah h14;refine zae u39 h14 ?_;refine zag ?_;refine br (λc1=>?_) (λc1=>?_)
 · refine zaR hV3 (η2.t η3) ?_
   refine zaR hV4 η3 ?_;refine (zn1 h0 (e0.t (η1.t (η2.t η3))) h1 (e1.trans (η1.t (η2.t η3))) (by assumption) (by assumption)).mono ?_;rintro _ w4_ ⟨η4,rfl⟩;have σ4:=η4.size;refine zag ?_;refine br (λc2=>?_) (λc2=>?_)
   · refine zaH (α:=Int) u23 ty3 λv25 w5_ η5 o25=>?_
     have σ5:=η5.size;refine ⟨(η1.t (η2.t (η3.t (η4.t η5)))),?_⟩;rw [show s.stacks.length-k=(s.stacks.length-k-1)+1 by omega,zhL,if_pos (by omega)] at hq2;rw [←hq2];exact o25.own.own.mono (by omega)
   rw [show s.stacks.length-k=(s.stacks.length-k-1)+1 by omega,zhL,if_neg (by omega)] at hq2;obtain ⟨l,hl⟩:∃ l:Nat,zbo c s u=(l:Int):=⟨(zbo c s u).toNat,by omega⟩;have hw2:=hw.2.2 (by omega);rw [hl] at hw hw2 hq2 ⊢;simp only [Int.toNat_natCast] at hq2 hw2;have ho6:=zkA hq1 (i:=l) (by omega);have hp:2^l<64:=Nat.pow_lt_pow_right (n:=6) (by omega) (by omega);refine (zei (by omega)).mono ?_;rintro _ w6_ ⟨η6,rfl⟩;have σ6:=η6.size;refine ze3 (by omega) (by omega) ?_;refine zab zeN ?_;refine zaa za4 (zbt hA4) (η3.t (η4.t η6)) λv31 h31=>?_;refine zaW u23 ty3 h31 (by omega) (by omega) λb33 o33 h33=>?_;rw [zjn (by omega) (by simpa using hw2.1)] at h33;refine zad ty3 h33 (η3.t (η4.t η6)) λhI34=>?_;refine zao ?_;refine br (λc3=>?_) (λc3=>?_)
   · rw [if_pos c3] at hq2
     refine (zrV (by omega)).mono ?_;rintro r39 w7_ ⟨η7,o39⟩;have o39:=o39.toI;have σ7:=η7.size;refine ⟨(η1.t (η2.t (η3.t (η4.t (η6.t η7))))),?_⟩;rw [←hq2];exact o39.own.mono (by omega)
   refine zas ?_;refine ⟨m4-1,by omega,k+1,by omega,(q ||| 2^l,ow s (l:Int)),rfl,(η3.t (η4.t η6)),?_⟩;rw [if_neg c3] at hq2;refine ⟨ho6,?_⟩;rw [←hq2,Nat.sub_sub]
 refine zaH (α:=Int) u23 ty3 λv40 w8_ η8 o40=>?_;have σ8:=η8.size;refine ⟨(η1.t (η2.t (η3.t η8))),?_⟩;rw [show s.stacks.length-k=0 by omega,zhL] at hq2;rw [←hq2];exact o40.own.own.mono (by omega)
def zn5 (c:DCode) (s:DState):Nat→Nat
 | 0=>0
 | k+1=>if zhb c s k≠0 then zn5 c s k ||| 2^(zbo c s k).toNat else zn5 c s k
def F138 (a0 a1:Value) (w:World) (R:VW):Prop:=
 cL 66 [a1] w λx9 w=>
 rN 23 3 x9 w λx10=>
 LOOPI [5,11] [(iV 0),(iV 0)] w λu3 w n3=>
 rC (u3 11) x10 w λx12=>
 BR x12
 (rX 23 x9 (u3 11) w λx13=>
 rL 3 x13 w λx14=>
 rX 23 a0 x14 w λx18=>
 rL 3 x18 w λx19=>
 rB .or 3 T0 T0 (u3 5) x19 w λx20=>
 rI (u3 11) w λx21=>
 n3 [x20,x21] w)
 (R (u3 5) w)
theorem F138_call {a0 a1 w R} (h:F138 a0 a1 w R):cL 138 [a0,a1] w R:=co (g:=(kf [] [(3,4192416,[5,11])] [])) Tryz.func138 h
def orL (sets:List Nat) (l:List Int):Nat:=l.foldl (λa i=>a ||| sets.getD i.toNat 0) 0
theorem ztP (sets:List Nat) (l:List Int) (i:Int):orL sets (l++[i])=orL sets l ||| sets.getD i.toNat 0:=by simp [orL]
theorem zph {sets:List Nat} (hs:∀ x∈sets,x<256) (l:List Int):orL sets l<256:=by
 have key:∀ (l:List Int) (a:Nat),a<256→l.foldl (λa i=>a ||| sets.getD i.toNat 0) a<256:=λl=>by
   induction l with
   | nil=>exact λa h=>h
   | cons i l ih=>
     intro a ha;rw [List.foldl_cons];refine ih _ (Nat.or_lt_two_pow (n:=8) ha ?_);rw [List.getD_eq_getElem?_getD];cases h:sets[i.toNat]? with
     | none=>simp
     | some x=>exact hs x (List.mem_of_getElem? h)
 exact key l 0 (by omega)
theorem zfZ {w W0:World} {v0:Value} {sets:List Nat} {m:Nat} (h0:Is W0 v0 (zaI sets)) (e0:Ext W0 w) (hs:∀ x∈sets,x<256) (hl:sets.length≤8) (hm:m<2^sets.length) :
   CALL tp 138 [v0,.int .i64 (m:Int)] w λr w'=>Ext w w'∧r=.int .i64 (orL sets (zbn m):Nat):=by
 refine F138_call ?_;unfold F138;have h256:2^sets.length≤2^8:=Nat.pow_le_pow_right (by omega) hl;refine (zcU (m:=m) (by omega)).mono ?_;rintro v9 w1 ⟨hx1,ho1⟩;have hbl:(zbn m).length≤64:=zdA m 64;refine zae u23 ho1.is ?_;refine zam (zbn m).length (λk us w'=>us=[.int .i64 ((orL sets ((zbn m).take k):Nat):Int),.int .i64 (k:Int)]∧k≤(zbn m).length∧Ext w1 w') 0 (z0 _) ⟨rfl,z0 _,Ext.refl _⟩ ?_;rintro k mk u w2 hkm ⟨hu,hkl,hx2⟩;obtain ⟨hu1,hu2⟩:=zbL hu;rw [hu1,hu2];refine zag ?_;refine br (λhlt=>?_) (λhge=>?_)
 case refine_2=>
   have:k=(zbn m).length:=by omega
   rw [this,List.take_length];exact ⟨hx1.t hx2,rfl⟩
 have hk:k<(zbn m).length:=by omega
 have hmem:(zbn m)[k]∈zbn m:=List.getElem_mem hk;obtain ⟨i,hi1,hi2,hi3⟩:=zc7.1 hmem
 have hil:i<sets.length:=Decidable.byContradiction λhc=>by
   have:=Nat.testBit_lt_two_pow (Nat.lt_of_lt_of_le hm (Nat.pow_le_pow_right (by omega) (by omega:sets.length≤i)));rw [this] at hi3;cases hi3
 refine zac u23 ty3 (i:=k) ho1.is hk λb1 o1 hA1=>?_;refine zad ty3 hA1 hx2 λ_=>?_;rw [hi2];refine zac u23 ty3 (i:=i) h0 (by rw [zaf];exact hil) λb2 o2 hA2=>?_;rw [zaP] at hA2;refine zad ty3 hA2 ((e0.t hx1).trans hx2) λ_=>?_;have h1:=zph hs ((zbn m).take k);have h2:=hs sets[i] (List.getElem_mem hil);refine ze3 (by omega) (by omega) ?_;refine zas ?_;refine ⟨mk-1,by omega,k+1,by omega,?_,by omega,hx2⟩;rw [tk hk,ztP,hi2,Int.toNat_natCast,List.getD_eq_getElem?_getD,List.getElem?_eq_getElem hil];rfl
def F152 (a0 a1:Value) (w:World) (R:VW):Prop:=
 oX 32 a0 w λx2 w=>
 rF 32 x2 2 w λx10=>
 rL 22 x10 w λx11=>
 rN 22 3 x11 w λx12=>
 oP (Instr.makeSlice 101 x12 x12) w λx13 w=>
 rX 101 x13 a1 w λx16=>
 oS 4 x16 vT w λw=>
 oP (bS 23 a1) w λx18 w=>
 LOOPI [6,7] [x18,(iV 0)] w λu5 w n5=>
 rN 23 3 (u5 6) w λx21=>
 rC (u5 7) x21 w λx22=>
 BR x22
 ((λw=>rL 32 x2 w λx25=>
 rX 23 (u5 6) (u5 7) w λx28=>
 rL 3 x28 w λx29=>
 cL 212 [x25,x29,(iV 4)] w λx30 w=>
 LOOPI [6,9] [(u5 6),(iV 0)] w λu9 w n9=>
 rN 23 3 x30 w λx33=>
 rC (u9 9) x33 w λx34=>
 BR x34
 (rX 23 x30 (u9 9) w λx40=>
 rL 3 x40 w λx41=>
 rX 101 x13 x41 w λx42=>
 rL 4 x42 w λx43=>
 rT x43 w λx44=>
 BR x44
 (rX 23 x30 (u9 9) w λx48=>
 rL 3 x48 w λx49=>
 rX 101 x13 x49 w λx50=>
 oS 4 x50 vT w λw=>
 rX 23 x30 (u9 9) w λx54=>
 rL 3 x54 w λx55=>
 oP (bS 23 x55) w λx56 w=>
 oP (aP 23 (u9 6) x56) w λx57 w=>
 rI (u9 9) w λx36=>
 n9 [x57,x36] w)
 (rI (u9 9) w λx36=>
 n9 [(u9 6),x36] w))
 (rI (u5 7) w λx24=>
 n5 [(u9 6),x24] w)) (World.drew1 w))
 (R x13 w)
theorem F152_call {a0 a1 w R} (h:F152 a0 a1 w R):cL 152 [a0,a1] w R:=co (g:=(kf [] [(5,288230376151188416,[6,7]),(9,288230374004228672,[6,9])] [(7,[0,1,2,3,4,5,6],0)])) Tryz.func152 h
noncomputable def zjs (c:DCode) (p:Nat):List Nat:=zaY c.procs.length (zjq c p 4)
theorem zfd {w W0:World} {v0:Value} {c:DCode} {a:Nat} (h0:Is W0 v0 c) (e0:Ext W0 w) (hc:CodeR c) (ha:a<c.procs.length) :
   CALL tp 152 [v0,.int .i64 (a:Int)] w λr w'=>Ext w w'∧∃ m,r=.slice (some ⟨m,0,none⟩) c.procs.length c.procs.length∧w.heap.size≤m∧Mine [m] w' (.slice (some ⟨m,0,none⟩) c.procs.length c.procs.length) (zby c.procs.length λi=>i=a∨RP (zjs c) a i):=by
 refine F152_call ?_;unfold F152;have h8:=hc.1.procs8;have hep:=hc.2.1.1;have hcn:∀ x,zjs c x=zaY c.procs.length (zjq c x 4):=λ_=>rfl;refine zbj h0 e0 λw1 hx1 hA=>?_;refine zab zbf ?_;refine zaa zb1 (zau hA) (Ext.refl _) λv11 h11=>?_;refine zae u22 h11 ?_;generalize hn:c.procs.length=n at *;have hnl:∀ {i j:Nat},i<n→j∈zjs c i→j<n∧True:=λ{i j} _ hj=>by rw [hcn] at hj;exact ⟨(zaJ.1 hj).1,trivial⟩
 have hnxl:∀ x,(zjs c x).length≤n:=λx=>by rw [hcn];exact za0
 refine zd2 h8.2 (by omega) λw2 hx2 hM2=>?_;have hs1:=hx1.size;have hs2:=hx2.size;refine zbE (α:=Bool) rfl zcy ty4 ha ?_;refine za9 (α:=Bool) rfl ty4 hM2 (by simp) ha zbu λw2b hc2 hM2b=>?_;have hc2':ChgI w1.heap.size (w1.heap.size+1) w2 w2b:=hc2.toI λb hb=>by simp only [List.mem_cons,List.not_mem_nil,or_false] at hb;omega
 have hs2b:=hc2'.size;have hM0l:((List.replicate n false).set a true).length=n:=by simp
 have hM0:∀ i,mkd ((List.replicate n false).set a true) i↔i=a:=λi=>by
   rw [zcp (by simp;exact ha)];exact ⟨λh=>h.resolve_left zbv,.inr⟩
 generalize (List.replicate n false).set a true=M0 at *;refine zcn (x:=(a:Int)) u23 ty3 z3 (by decide) (zbh (by unfold I64;omega)) λv15 w3 hx3 hr3=>?_;have hs3:=hx3.size;generalize hm:w1.heap.size=m at *;have hW3:WI w1 w3 m n w2b.heap.size w3.heap.size v15 [a] M0:=⟨(hx2.toI.trans hc2').trans hx3.toI,hr3,hM2b.ext hx3,by omega,by have:=hM2b.lt m (by simp);omega,hs3,Nat.le_refl _⟩;generalize zjs c=nx at *;refine zam (1+n) (λh us w'=>∃ (tv:Value) (lo hi:Nat) (L:List Nat) (ms:List Bool),us=[tv,.int .i64 (h:Int)]∧h≤L.length∧WI w1 w' m n lo hi tv L ms∧SInv nx n a M0 ms (L.drop h) h) 0 (z0 _) ⟨v15,_,_,[a],_,rfl,by simp,hW3,SInv.start hM0l ha⟩ ?_;rintro h mk u w4 hkm ⟨tv,lo,hi,L,ms,hu,hhL,hW4,hS4⟩;obtain ⟨hu1,hu2⟩:=zbL hu;rw [hu1,hu2];have hb4:=hS4.bound;rw [List.length_drop] at hb4;refine zae u23 hW4.row.is ?_;rw [zaf];refine zag ?_;refine br (λhlt=>?_) (λhge=>?_)
 case refine_2=>
   have hhe:h=L.length:=by omega
   rw [hhe,List.drop_length] at hS4;have hfin:=hS4.fin λi hi hne=>absurd ((hM0 i).1 hi) hne;have hms:ms=zby n (λi=>i=a∨RP nx a i):=zbT hS4.len λi hi=>by rw [hfin i,hM0]
   rw [←hms];have hx4:Ext w1 w4:=(Ext.refl w1).chgI hW4.chg (by omega);exact ⟨hx1.t hx4,m,rfl,by omega,hW4.mks⟩
 have hh:h<L.length:=by omega
 have hx5:=zaj w4;have hW5:=hW4.step hx5;generalize World.drew1 w4=w5 at *;have hxa:∀ {w:World} {lo hi tv L ms},WI w1 w m n lo hi tv L ms→Ext w1 w:=λh=>(Ext.refl w1).chgI h.chg (by omega);refine zaa zbq hA (hxa hW5) λv22 h22=>?_;refine zac u23 ty3 (i:=h) hW5.row.is (by rw [zaf];exact hh) λb1 o1 hA1=>?_;rw [zaP] at hA1;refine zad ty3 hA1 (Ext.refl _) λ_=>?_;generalize hx:L[h]=x at *;have hdr:L.drop h=x :: L.drop (h+1):=by rw [List.drop_eq_getElem_cons hh,hx]
 have hxn:x<n:=(hS4.tdo x (by rw [hdr];simp)).2;refine (zjr h22 (hxa hW5) hc (by omega) (.inl rfl)).mono ?_;rintro v27 w6 ⟨hx6,ho6⟩;rw [hn,←hcn] at ho6;have hW6:=hW5.step hx6;have hI6:=hW5.h3;have hm6:=hW5.mks.lt m (by simp);have hS6:SIn2 nx n a M0 ms (L.drop (h+1)) h x 0:=hS4.pop (λi=>by rw [hdr];simp [or_comm]) (by rw [hdr];simp);have hl2:=hnxl x;refine zam (nx x).length (λq us w'=>∃ (tv:Value) (lo hi:Nat) (L:List Nat) (ms:List Bool),us=[tv,.int .i64 (q:Int)]∧q≤(nx x).length∧h<L.length∧WI w1 w' m n lo hi tv L ms∧SIn2 nx n a M0 ms (L.drop (h+1)) h x q∧OwnI w5.heap.size w6.heap.size w' v27 (zaI (nx x))∧(hi≤w5.heap.size∨w6.heap.size≤lo)∧w6.heap.size≤w'.heap.size) 0 (z0 _) ⟨tv,lo,hi,L,ms,rfl,z0 _,hh,hW6,hS6,ho6.toI,.inl hI6,Nat.le_refl _⟩ ?_;rintro q mk8 u8 w7 hkm8 ⟨tv7,lo7,hi7,L7,ms7,hu8,hql,hh7,hW7,hS7,ho7,hd7,hz7⟩;obtain ⟨hu81,hu82⟩:=zbL hu8;rw [hu81,hu82];refine zae u23 ho7.is ?_;rw [zaf];refine zag ?_;refine br (λhlt8=>?_) (λhge8=>?_)
 case refine_2=>refine zas ?_;exact ⟨mk-1,by omega,h+1,by omega,tv7,lo7,hi7,L7,ms7,rfl,by omega,hW7,hS7.done (by omega)⟩
 have hq:q<(nx x).length:=by omega
 have hrd:∀ {w:World} {K:Value→Prop} (ho:OwnI w5.heap.size w6.heap.size w v27 (zaI (nx x))) (k:K (.int .i64 (((nx x)[q]:Nat):Int))),RD tp (Instr.indexAt 23 v27 (.int .i64 (q:Int))) w λx37=>RD tp (Instr.loadAt 3 x37) w K:=λho k=>by
   refine zac u23 ty3 (i:=q) ho.is (by rw [zaf];exact hq) λb1 o1 hA1=>?_;rw [zaP] at hA1;exact zad ty3 hA1 (Ext.refl _) λ_=>k
 have hy:=hnl hxn (List.getElem_mem hq);refine hrd ho7 ?_;have hlen7:=hS7.len;refine zac zcy ty4 hW7.mks.is (by rw [hlen7];exact hy.1) λb2 o2 hA2=>?_;refine zay ty4 hA2 (Ext.refl _) ?_;refine zaX ?_;have hmk7:=zaQ (ms:=ms7) (i:=(nx x)[q]) (by rw [hlen7];exact hy.1);refine zbz (λhf=>?_) (λhf=>?_)
 · have hnm:¬mkd ms7 (nx x)[q]:=by rw [hmk7];simpa using hf
   refine hrd ho7 ?_;refine zbE (α:=Bool) rfl zcy ty4 hy.1 ?_;refine za9 (α:=Bool) rfl ty4 hW7.mks hlen7 hy.1 zbu λw8 hc8 hm8=>?_;have hW8:=hW7.mark hc8 hm8;have hc8':ChgI m (m+1) w7 w8:=hc8.toI λb hb=>by simp only [List.mem_cons,List.not_mem_nil,or_false] at hb;omega
   have ho8:=ho7.chg hc8' (by omega);refine hrd ho8 ?_;have hS8:=hS7.push hq hy.1 hnm;generalize (nx x)[q]=y at *
   have hLb:L7.length≤2+n:=by
     have h1:=hS7.cnt;have h2:=zfv ms7;rw [List.length_drop] at h1;omega
   refine zcS (x:=(y:Int)) u23 ty3 z3 zc3 (by decide) hW8.row (ownI_int 0 0 (by unfold I64;omega)) (by rw [zan,zaf];omega) (by rw [zaf];omega) λv54 w9 lo9 hi9 hc9 hr9 hd9=>?_;have hW9:=hW8.push hc9 hr9 hd9;have hsz8:=hc8'.size;have hsz7:=ho7.is;refine zas ?_;refine ⟨mk8-1,by omega,q+1,by omega,v54,lo9,hi9,L7++[y],_,rfl,by omega,by simp;omega,hW9,?_,ho8.chg hc9 (by omega),by omega,by have:=hc9.size;omega⟩;rw [List.drop_append_of_le_length (by omega)];exact hS8
 have hnm:mkd ms7 (nx x)[q]:=by rw [hmk7];simpa using hf
 refine zas ?_;exact ⟨mk8-1,by omega,q+1,by omega,tv7,lo7,hi7,L7,ms7,rfl,by omega,hh7,hW7,hS7.skip hq hnm,ho7,hd7,hz7⟩
noncomputable def m6 (p:Nat→Prop):Nat:=zce p 6
theorem zkB {p:Nat→Prop} {l:Nat}:(m6 p).testBit l=true↔l<6∧p l:=zaT
theorem zjt {p:Nat→Prop}:m6 p<64:=zhu (n:=6)
theorem zfe {m l:Nat} (h:m<64) (hb:m.testBit l=true):l<6:=Decidable.byContradiction λhc=>by
 have:=Nat.testBit_lt_two_pow (Nat.lt_of_lt_of_le (show m<2^6 from h) (Nat.pow_le_pow_right (by omega) (by omega:6≤l)));rw [this] at hb;cases hb
theorem zrX {m:Nat} {p:Nat→Prop} (h:m<64) (hb:∀ l,l<6→(m.testBit l=true↔p l)):m=m6 p:=
 zdv λl=>⟨λe=>⟨zfe h e,(hb l (zfe h e)).1 e⟩,λe=>(hb l e.1).2 e.2⟩
theorem zpi {p q:Nat→Prop} (h:∀ l,l<6→(p l↔q l)):m6 p=m6 q:=zbe h
theorem zeU {m l:Nat} (h:¬m.testBit l=false):m.testBit l=true:=by simpa using h
def zax (l:List Nat) (i:Nat):Nat:=l.getD i 0
theorem za3 {l:List Nat} {i:Nat} (h:i<l.length):l[i]=zax l i:=by unfold zax;rw [List.getD_eq_getElem?_getD,List.getElem?_eq_getElem h];rfl
theorem zb3 {l:List Nat} {i j v:Nat} (hi:i<l.length):zax (l.set i v) j=if i=j then v else zax l j:=by
 unfold zax;rw [List.getD_eq_getElem?_getD,List.getD_eq_getElem?_getD,List.getElem?_set];by_cases h:i=j
 · subst h;simp [hi]
 simp [h]
theorem zhM:∀ {l:List Nat} {i v:Nat},i<l.length→(l.set i v).sum+zax l i=l.sum+v
 | x :: l,0,v,_=>by simp [zax];omega
 | x :: l,i+1,v,h=>by
   have:=zhM (l:=l) (i:=i) (v:=v) (by simpa using h);simp only [zax,List.set_cons_succ,List.sum_cons,List.getD_cons_succ] at this ⊢;omega
theorem zff (l:List Nat) (i v:Nat):zaI (l.set i v)=(zaI l).set i (v:Int):=by simp [zaI,List.map_set]
theorem sum_le {l:List Nat} {b:Nat} (h:∀ x∈l,x≤b):l.sum≤l.length*b:=by
 induction l with
 | nil=>simp
 | cons x l ih=>
   have h1:=ih λy hy=>h y (by simp [hy]);have h2:=h x (by simp);rw [List.sum_cons,List.length_cons,Nat.add_mul];omega
theorem zlB {l:List Nat} {i:Nat} (h:i<l.length):zax l i∈l:=by rw [←za3 h];exact List.getElem_mem h
theorem zaL {l:List Nat} {i:Nat} (h:i<(zaI l).length):(zaI l)[i]=(zax l i:Int):=by rw [zaP,za3]
def eN (c:DCode) (p:Nat):Nat:=(en c p).toNat
def zN (c:DCode) (p:Nat):Nat:=(zdX c p-1).toNat
def agN (c:DCode) (i:Nat):Nat:=(zal c i).arg.toNat
theorem zfg {c:DCode} (hc:CodeR c) {p:Nat} (hp:p<c.entry.length):en c p=(eN c p:Int)∧eN c p<c.ins.length∧zaw c (eN c p)=p:=by
 have h:=zrU hc hp;unfold eN;rw [Int.toNat_of_nonneg h.1];exact ⟨rfl,by omega,h.2.2⟩
theorem zkf {c:DCode} (hc:CodeR c) {p:Nat} (hp:p<c.entry.length):zdX c p=(zN c p:Int)+1∧eN c p≤zN c p∧zN c p<c.ins.length:=by
 have h1:=hc.f.lt p hp;have h2:=hc.f.nonneg hp;have h4:=hc.f.lt p hp;have h5:zdX c p≤c.ins.length:=h4.2;unfold zN eN;omega
theorem zbJ {c:DCode} (hc:CodeR c) {p i:Nat} (hp:p<c.entry.length) (h:zaG c p i):i<c.ins.length∧zaw c i=p:=by
 have he:=zfg hc hp;rcases h with rfl | h
 · exact ⟨he.2.1,he.2.2⟩
 refine h.keeps (p:=λi=>i<c.ins.length∧zaw c i=p) ⟨he.2.1,he.2.2⟩ λi j hi hj=>?_;have:=zcJ hc hi.1 hj;exact ⟨this.1,this.2.trans hi.2⟩
theorem zrY {c:DCode} {p i j:Nat} (h:zaG c p i) (hj:j∈zaC c i):zaG c p j:=by
 rcases h with rfl | h
 · exact .inr (.one hj)
 exact .inr (.more h hj)
theorem zn6 {c:DCode} (hc:CodeR c) {p i:Nat} (hi:i<c.ins.length) (hp:p<c.entry.length) (h:zaw c i=p):eN c p≤i∧i≤zN c p:=by
 obtain ⟨q,hq,h1,h2,h3⟩:=hc.f.find hc.1.procs8.2 (a:=(i:Int)) (by omega) (by omega);have:q=p:=by omega
 subst this;have h4:=zkf hc hp;have h5:=zfg hc hp;omega
theorem zlC {c:DCode} (hc:CodeR c) {p i:Nat} (hp:p<c.entry.length) (h1:eN c p≤i) (h2:i≤zN c p):zaw c i=p:=by
 have h4:=zkf hc hp;have h5:=zfg hc hp;exact hc.f.proc hp (by omega) (by omega)
theorem zbZ {c:DCode} (hc:CodeR c) {i:Nat} (hi:i<c.ins.length) (ho:(zal c i).op=4∨(zal c i).op=5):(zal c i).arg=(agN c i:Int)∧agN c i<c.procs.length:=by
 have harg:=(zg8 hc hi).2.1;unfold zcq at harg;rw [if_neg (by omega),if_pos (by omega)] at harg;unfold agN;omega
theorem zcN {c:DCode} (hc:CodeR c) {i:Nat} (hi:i<c.ins.length) (ho:(zal c i).op=6∨(zal c i).op=7):(zal c i).arg=(agN c i:Int)∧agN c i<c.locks.length∧agN c i<6:=by
 have h:=zpc hc hi ho;have h6:=hc.1.locks6;unfold agN;omega
def zww (c:DCode) (K G:Nat→Nat→Prop) (i l:Nat):Prop:=((zal c i).op=7∧agN c i=l)∨((zal c i).op=4∧¬K (agN c i) l∧¬G (agN c i) l)
def zrZ (c:DCode) (G:Nat→Nat→Prop) (i l:Nat):Prop:=¬((zal c i).op=6∧agN c i=l)∧¬((zal c i).op=4∧G (agN c i) l)
inductive LostP (c:DCode) (K G:Nat→Nat→Prop) (p:Nat) (h:Nat→Prop):Nat→Nat→Prop
 | ent {l:Nat} (h0:¬h l):LostP c K G p h (eN c p) l
 | gen {i j l:Nat} (h0:zaG c p i) (hj:j∈zaC c i) (h1:zww c K G i l):LostP c K G p h j l
 | pass {i j l:Nat} (h0:zaG c p i) (hj:j∈zaC c i) (h1:LostP c K G p h i l) (h2:zrZ c G i l):LostP c K G p h j l
theorem LostP.mono {c:DCode} {K K' G G':Nat→Nat→Prop} {p:Nat} {h h':Nat→Prop} (hK:∀ q l,K' q l→K q l) (hG:∀ q l,G' q l→G q l) (hh:∀ l,h' l→h l) {i l:Nat} (hl:LostP c K G p h i l):LostP c K' G' p h' i l:=by
 induction hl with
 | ent h0=>exact .ent λe=>h0 (hh _ e)
 | gen h0 hj h1=>exact .gen h0 hj (h1.imp id λ⟨a,b,d⟩=>⟨a,λe=>b (hK _ _ e),λe=>d (hG _ _ e)⟩)
 | pass h0 hj _ h2 ih=>exact .pass h0 hj ih ⟨h2.1,λ⟨a,b⟩=>h2.2 ⟨a,hG _ _ b⟩⟩
abbrev Tab:=List (Nat×Nat)
def tbl (T:Tab) (q:Nat):Nat×Nat:=T.getD q (0,0)
def tK (T:Tab) (q l:Nat):Prop:=(tbl T q).1.testBit l=true
def tG (T:Tab) (q l:Nat):Prop:=(tbl T q).2.testBit l=true
theorem zhN {T:Tab} {q:Nat} (h:q<T.length):T[q]=tbl T q:=by unfold tbl;rw [List.getD_eq_getElem?_getD,List.getElem?_eq_getElem h];rfl
theorem zvu {T:Tab} {q r:Nat} {v:Nat×Nat} (h:q<T.length):tbl (T.set q v) r=if q=r then v else tbl T r:=by
 unfold tbl;rw [List.getD_eq_getElem?_getD,List.getD_eq_getElem?_getD,List.getElem?_set];by_cases e:q=r
 · subst e;simp [h]
 simp [e]
def zs7 (c:DCode) (T:Tab):Prop:=T.length=c.procs.length∧∀ q,(tbl T q).1<64∧(tbl T q).2<64
def aft (c:DCode) (T:Tab) (i m:Nat):Nat:=
 if (zal c i).op=6 then m ||| 2^agN c i else if (zal c i).op=7 then zir m (2^agN c i) else if (zal c i).op=4 then (m &&& (tbl T (agN c i)).1) ||| (tbl T (agN c i)).2 else m
theorem zuK {c:DCode} {T:Tab} (hc:CodeR c) (hT:zs7 c T) {i m:Nat} (hi:i<c.ins.length) (hm:m<64):aft c T i m<64:=by
 unfold aft;split
 · rename_i h
   exact zkA hm (zcN hc hi (.inl h)).2.2
 split
 · exact Nat.lt_of_le_of_lt (zgp _ _) hm
 split
 · exact Nat.or_lt_two_pow (n:=6) (Nat.lt_of_le_of_lt Nat.and_le_left hm) (hT.2 _).2
 exact hm
theorem zlD {c:DCode} {T:Tab} {i m l:Nat}:(aft c T i m).testBit l=false↔zww c (tK T) (tG T) i l∨(zrZ c (tG T) i l∧m.testBit l=false):=by
 unfold aft zww zrZ tK tG;split
 · rename_i h
   rw [Nat.testBit_or,Nat.testBit_two_pow];have e6:((zal c i).op=6)=True:=eq_true h;have e4:((zal c i).op=4)=False:=eq_false (by omega);have e7:((zal c i).op=7)=False:=eq_false (by omega);simp only [e6,e4,e7,true_and,false_and,false_or,or_false,not_false_eq_true,and_true,Bool.or_eq_false_iff,decide_eq_false_iff_not];exact ⟨λ⟨a,b⟩=>⟨b,a⟩,λ⟨a,b⟩=>⟨b,a⟩⟩
 rename_i h6
 have e6:((zal c i).op=6)=False:=eq_false h6;split
 · rename_i h
   have e7:((zal c i).op=7)=True:=eq_true h;have e4:((zal c i).op=4)=False:=eq_false (by omega);rw [zcw,Nat.testBit_two_pow];simp only [e6,e4,e7,true_and,false_and,false_or,or_false,not_false_eq_true,and_true,Bool.and_eq_false_iff,Bool.not_eq_false',decide_eq_true_eq];exact ⟨λh=>h.elim .inr .inl,λh=>h.elim .inr .inl⟩
 rename_i h7
 have e7:((zal c i).op=7)=False:=eq_false h7;split
 · rename_i h
   have e4:((zal c i).op=4)=True:=eq_true h;rw [Nat.testBit_or,Nat.testBit_and];simp only [e6,e4,e7,true_and,false_and,false_or,not_false_eq_true];cases (tbl T (agN c i)).1.testBit l<;>cases (tbl T (agN c i)).2.testBit l<;>cases m.testBit l<;>simp
 rename_i h4
 simp [h6,h7,h4]
noncomputable def zcc (c:DCode) (T:Tab) (p h:Nat):List Nat:=(List.range c.ins.length).map λi=>m6 λl=>¬LostP c (tK T) (tG T) p (λl=>h.testBit l=true) i l
theorem zdM (c:DCode) (T:Tab) (p h:Nat):(zcc c T p h).length=c.ins.length:=by simp [zcc]
theorem zix {c:DCode} {T:Tab} {p h i:Nat} (hi:i<c.ins.length):zax (zcc c T p h) i=m6 λl=>¬LostP c (tK T) (tG T) p (λl=>h.testBit l=true) i l:=by
 rw [←za3 (by rw [zdM];exact hi)];simp [zcc]
theorem zhc {c:DCode} {T:Tab} {p h:Nat}:∀ x∈zcc c T p h,x<64:=λx hx=>by
 unfold zcc at hx;obtain ⟨i,_,rfl⟩:=List.mem_map.1 hx;exact zjt
structure FL (c:DCode) (T:Tab) (p h:Nat) (out:List Nat):Prop where
 len:out.length=c.ins.length
 lt:∀ x∈out,x<64
 snd:∀ i l,i<c.ins.length→l<6→(zax out i).testBit l=false→LostP c (tK T) (tG T) p (λl=>h.testBit l=true) i l
 ent:∀ l,l<6→h.testBit l=false→(zax out (eN c p)).testBit l=false
theorem FL.lt0 {c:DCode} {T:Tab} {p h:Nat} {out:List Nat} (h:FL c T p h out) (i:Nat):zax out i<64:=by
 rcases Nat.lt_or_ge i out.length with hi | hi
 · exact h.lt _ (zlB hi)
 unfold zax;rw [List.getD_eq_getElem?_getD,List.getElem?_eq_none hi];simp
theorem zhd {l:Nat} (h:l<6):(63:Nat).testBit l=true:=by
 have:l=0∨l=1∨l=2∨l=3∨l=4∨l=5:=by omega
 rcases this with rfl | rfl | rfl | rfl | rfl | rfl<;>rfl
theorem FL.start {c:DCode} {T:Tab} {p h:Nat} (hc:CodeR c) (hp:p<c.entry.length) (hh:h<64):FL c T p h ((List.replicate c.ins.length 63).set (eN c p) h):=by
 have he:=(zfg hc hp).2.1;have hr:(List.replicate c.ins.length 63).length=c.ins.length:=by simp
 have hg:∀ i,i<c.ins.length→zax (List.replicate c.ins.length 63) i=63:=λi hi=>by rw [←za3 (by rw [hr];exact hi)];simp
 refine ⟨by simp,λx hx=>?_,λi l hi hl hb=>?_,λl hl hb=>?_⟩
 · rcases zjp hx with rfl | hx
   · exact hh
   rw [(List.mem_replicate.1 hx).2];omega
 · rw [zb3 (by rw [hr];exact he)] at hb
   split at hb
   · rename_i e
     subst e;exact .ent (by rw [hb];simp)
   rw [hg i hi,zhd hl] at hb;cases hb
 rw [zb3 (by rw [hr];exact he),if_pos rfl];exact hb
theorem zuL {a b:Nat} (h:a &&& b≠a):a &&& b<a:=by
 have:a &&& b≤a:=Nat.and_le_left;omega
def zwx (c:DCode) (T:Tab) (out:List Nat) (i:Nat):Prop:=∀ j∈zaC c i,zax out j &&& aft c T i (zax out i)=zax out j
theorem FL.fin {c:DCode} {T:Tab} {p h:Nat} {out:List Nat} (hF:FL c T p h out) (hc:CodeR c) (hp:p<c.entry.length) (hs:∀ i,zaG c p i→zwx c T out i):out=zcc c T p h:=by
 refine List.ext_getElem (by rw [hF.len,zdM]) λi h1 h2=>?_;rw [za3 h1,za3 h2,zix (by rw [←hF.len];exact h1)];refine zrX (hF.lt0 i) λl hl=>⟨λhb hn=>?_,λhn=>zeU λhb=>hn (hF.snd i l (by rw [←hF.len];exact h1) hl hb)⟩
 have key:∀ {i l:Nat},LostP c (tK T) (tG T) p (λl=>h.testBit l=true) i l→l<6→(zax out i).testBit l=false:=λ{i l} hn=>by
   induction hn with
   | ent h0=>exact λhl=>hF.ent _ hl (by simpa using h0)
   | gen h0 hj h1=>
     intro hl;rw [←hs _ h0 _ hj,Nat.testBit_and,zlD.2 (.inl h1),Bool.and_false]
   | pass h0 hj _ h2 ih=>
     intro hl;rw [←hs _ h0 _ hj,Nat.testBit_and,zlD.2 (.inr ⟨h2,ih hl⟩),Bool.and_false]
 rw [key hn hl] at hb;cases hb
def FromP (c:DCode) (p q:Nat):Prop:=q=p∨RP (zjs c) p q
theorem FromP.lt {c:DCode} {p q:Nat} (hp:p<c.procs.length) (h:FromP c p q):q<c.procs.length:=by
 rcases h with rfl | h
 · exact hp
 exact h.keeps (p:=λi=>i<c.procs.length) hp λi j _ hj=>(zaJ.1 hj).1
theorem FromP.trans {c:DCode} {p q r:Nat} (h:FromP c p q) (k:FromP c q r):FromP c p r:=by
 rcases h with rfl | h
 · exact k
 rcases k with rfl | k
 · exact .inr h
 exact .inr (h.trans k)
theorem FromP.call {c:DCode} {p q r:Nat} (h:FromP c p q) (hr:r<c.procs.length) (k:zjq c q 4 r):FromP c p r:=h.trans (.inr (.one (zaJ.2 ⟨hr,k⟩)))
noncomputable def zeV (c:DCode) (p:Nat):Nat:=m6 λl=>¬ ∃ q i,q<c.procs.length∧FromP c p q∧zaG c q i∧(zal c i).op=7∧agN c i=l
inductive LostE (c:DCode):Nat→Nat→Nat→Prop
 | ent {p l:Nat}:LostE c p (eN c p) l
 | unl {p i j l:Nat} (h0:zaG c p i) (hj:j∈zaC c i) (ho:(zal c i).op=7) (ha:agN c i=l):LostE c p j l
 | cal {p i j l:Nat} (h0:zaG c p i) (hj:j∈zaC c i) (ho:(zal c i).op=4) (hk:(zeV c (agN c i)).testBit l=false) (h1:LostE c (agN c i) (zN c (agN c i)) l):LostE c p j l
 | bck {p i j l:Nat} (h0:zaG c p i) (hj:j∈zaC c i) (ho:(zal c i).op=4) (h2:LostE c p i l) (h1:LostE c (agN c i) (zN c (agN c i)) l):LostE c p j l
 | pass {p i j l:Nat} (h0:zaG c p i) (hj:j∈zaC c i) (h6:¬((zal c i).op=6∧agN c i=l)) (h4:¬(zal c i).op=4) (h1:LostE c p i l):LostE c p j l
noncomputable def zcV (c:DCode):Tab:=(List.range c.procs.length).map λp=>(zeV c p,m6 λl=>¬LostE c p (zN c p) l)
theorem zlE (c:DCode):(zcV c).length=c.procs.length:=by simp [zcV]
theorem zr0 {c:DCode} {p:Nat} (hp:p<c.procs.length):tbl (zcV c) p=(zeV c p,m6 λl=>¬LostE c p (zN c p) l):=by
 rw [←zhN (by rw [zlE];exact hp)];simp [zcV]
theorem zr1 {c:DCode} {T:Tab} (hl:T.length=c.procs.length) (h:∀ q,q<c.procs.length→(tbl T q).1<64∧(tbl T q).2<64):zs7 c T:=⟨hl,λq=>by
 rcases Nat.lt_or_ge q c.procs.length with hq | hq
 · exact h q hq
 unfold tbl;rw [List.getD_eq_getElem?_getD,List.getElem?_eq_none (by omega)];simp⟩
theorem zf0 (c:DCode):zs7 c (zcV c):=zr1 (zlE c) λq hq=>by rw [zr0 hq];exact ⟨zjt,zjt⟩
noncomputable def zdN (c:DCode) (T:Tab) (p:Nat):Nat:=zax (zcc c T p 0) (zN c p)
theorem zhe {c:DCode} (hc:CodeR c) {T:Tab} {p l:Nat} (hp:p<c.procs.length) (hl:l<6):(zdN c T p).testBit l=false↔LostP c (tK T) (tG T) p (λl=>(0:Nat).testBit l=true) (zN c p) l:=by
 have hz:=(zkf hc (p:=p) (by rw [hc.2.1.1];exact hp)).2.2;unfold zdN;rw [zix hz];constructor
 · intro h
   refine Classical.byContradiction λhn=>?_;rw [zkB.2 ⟨hl,hn⟩] at h;cases h
 intro h;cases e:(m6 λl=>¬LostP c (tK T) (tG T) p (λl=>(0:Nat).testBit l=true) (zN c p) l).testBit l
 · rfl
 exact absurd h (zkB.1 e).2
theorem ziy {c:DCode} (hc:CodeR c) {T:Tab} {p:Nat} (hp:p<c.procs.length):zdN c T p<64:=by
 have hz:=(zkf hc (p:=p) (by rw [hc.2.1.1];exact hp)).2.2;unfold zdN;rw [zix hz];exact zjt
structure EI (c:DCode) (T:Tab):Prop where
 tab:zs7 c T
 keep:∀ p,p<c.procs.length→(tbl T p).1=zeV c p
 snd:∀ p l,p<c.procs.length→l<6→(tbl T p).2.testBit l=false→LostE c p (zN c p) l
 desc:∀ p l,p<c.procs.length→l<6→(tbl T p).2.testBit l=false→(zdN c T p).testBit l=false
theorem EI.lost {c:DCode} (hc:CodeR c) {T:Tab} (h:EI c T) {p i l:Nat} (hp:p<c.procs.length) (hl:l<6) (k:LostP c (tK T) (tG T) p (λl=>(0:Nat).testBit l=true) i l):LostE c p i l:=by
 have he:=hc.2.1.1
 induction k with
 | ent _=>exact .ent
 | gen h0 hj h1=>
   have hi:=(zbJ hc (by rw [he];exact hp) h0).1;rcases h1 with ⟨h1,h2⟩ | ⟨h1,h2,h3⟩
   · exact .unl h0 hj h1 h2
   have hq:=(zbZ hc hi (.inl h1)).2;refine .cal h0 hj h1 ?_ (h.snd _ _ hq hl (by unfold tG at h3;simpa using h3));unfold tK at h2;rw [h.keep _ hq] at h2;simpa using h2
 | @pass i j l h0 hj _ h2 ih=>
   have hi:=(zbJ hc (by rw [he];exact hp) h0).1;by_cases h4:(zal c i).op=4
   · have hq:=(zbZ hc hi (.inl h4)).2
     refine .bck h0 hj h4 (ih hl) (h.snd _ _ hq hl ?_);have:=h2.2;unfold tG at this;simpa [h4] using this
   exact .pass h0 hj h2.1 h4 (ih hl)
theorem EI.start (c:DCode) (hc:CodeR c):EI c ((List.range c.procs.length).map λp=>(zeV c p,63)):=by
 have hl:((List.range c.procs.length).map λp=>(zeV c p,63)).length=c.procs.length:=by simp
 have hat:∀ p,p<c.procs.length→tbl ((List.range c.procs.length).map λp=>(zeV c p,63)) p=(zeV c p,63):=λp hp=>by
   rw [←zhN (by rw [hl];exact hp)];simp
 refine ⟨zr1 hl λq hq=>by rw [hat q hq];exact ⟨zjt,by omega⟩,λp hp=>by rw [hat p hp],λp l hp h6 hb=>?_,λp l hp h6 hb=>?_⟩
 · rw [hat p hp,zhd h6] at hb;cases hb
 rw [hat p hp,zhd h6] at hb;cases hb
theorem EI.upd {c:DCode} (hc:CodeR c) {T:Tab} (h:EI c T) {p:Nat} (hp:p<c.procs.length):EI c (T.set p ((tbl T p).1,zdN c T p)):=by
 have hpl:p<T.length:=by rw [h.tab.1];exact hp
 have hat:=λr=>zvu (T:=T) (q:=p) (r:=r) (v:=((tbl T p).1,zdN c T p)) hpl
 have hle:∀ q l,l<6→(tbl T q).2.testBit l=false→(tbl (T.set p ((tbl T p).1,zdN c T p)) q).2.testBit l=false:=λq l hl hb=>by
   rw [hat];split
   · rename_i e;subst e;exact h.desc p l hp hl hb
   exact hb
 have hmono:∀ {q l:Nat},q<c.procs.length→l<6→(zdN c T q).testBit l=false→(zdN c (T.set p ((tbl T p).1,zdN c T p)) q).testBit l=false:=λ{q l} hq hl hb=>by
   rw [zhe hc hq hl] at hb ⊢
   have key:∀ {i l:Nat},l<6→LostP c (tK T) (tG T) q (λl=>(0:Nat).testBit l=true) i l→LostP c (tK (T.set p ((tbl T p).1,zdN c T p))) (tG (T.set p ((tbl T p).1,zdN c T p))) q (λl=>(0:Nat).testBit l=true) i l:=λ{i l} hl k=>by
     have hK:∀ r l,tK (T.set p ((tbl T p).1,zdN c T p)) r l↔tK T r l:=λr l=>by
       unfold tK;rw [hat];split
       · rename_i e;rw [←e]
       exact Iff.rfl
     have hG:∀ r,tG (T.set p ((tbl T p).1,zdN c T p)) r l→tG T r l:=λr e=>by
       unfold tG at e ⊢;refine zeU λhf=>?_;rw [hle r l hl hf] at e;cases e
     clear hb
     induction k with
     | ent h0=>exact .ent h0
     | gen h0 hj h1=>exact .gen h0 hj (h1.imp id λ⟨a,b,d⟩=>⟨a,λe=>b ((hK _ _).1 e),λe=>d (hG _ e)⟩)
     | pass h0 hj _ h2 ih=>exact .pass h0 hj (ih hl hG) ⟨h2.1,λ⟨a,b⟩=>h2.2 ⟨a,hG _ b⟩⟩
   exact key hl hb
 refine ⟨⟨by simp [h.tab.1],λq=>?_⟩,λq hq=>?_,λq l hq hl hb=>?_,λq l hq hl hb=>?_⟩
 · rw [hat]
   split
   · exact ⟨(h.tab.2 p).1,ziy hc hp⟩
   exact h.tab.2 q
 · rw [hat]
   split
   · rename_i e;subst e;exact h.keep p hp
   exact h.keep q hq
 · rw [hat] at hb
   split at hb
   · rename_i e;subst e
     exact h.lost hc hp hl ((zhe hc hp hl).1 hb)
   exact h.snd q l hq hl hb
 rw [hat] at hb;split at hb
 · rename_i e;subst e
   exact hmono hp hl hb
 exact hmono hq hl (h.desc q l hq hl hb)
theorem EI.le {c:DCode} (hc:CodeR c) {T:Tab} (h:EI c T) {p:Nat} (hp:p<c.procs.length):zdN c T p≤(tbl T p).2:=by
 refine Nat.le_of_testBit λl hb=>?_;have hl:=zfe (ziy hc hp) hb;refine zeU λhf=>?_;rw [h.desc p l hp hl hf] at hb;cases hb
theorem EI.fin {c:DCode} (hc:CodeR c) {T:Tab} (h:EI c T) (hs:∀ p,p<c.procs.length→zdN c T p=(tbl T p).2):T=zcV c:=by
 refine List.ext_getElem (by rw [h.tab.1,zlE]) λp h1 h2=>?_;have hp:p<c.procs.length:=by rw [←h.tab.1];exact h1
 rw [zhN h1,zhN h2,zr0 hp]
 have key:∀ {p i l:Nat},LostE c p i l→p<c.procs.length→l<6→LostP c (tK T) (tG T) p (λl=>(0:Nat).testBit l=true) i l:=λ{p i l} k=>by
   have hz:∀ {i l:Nat},(zal c i).op=4→i<c.ins.length→l<6→(agN c i<c.procs.length→l<6→LostP c (tK T) (tG T) (agN c i) (λl=>(0:Nat).testBit l=true) (zN c (agN c i)) l)→¬tG T (agN c i) l:=λ{i l} ho hi hl k1=>by
     have hq:=(zbZ hc hi (.inl ho)).2;have:=(zhe hc hq hl).2 (k1 hq hl);rw [hs _ hq] at this;unfold tG;rw [this];simp
   induction k with
   | ent=>exact λ_ _=>.ent (by simp)
   | unl h0 hj ho ha=>exact λ_ _=>.gen h0 hj (.inl ⟨ho,ha⟩)
   | cal h0 hj ho hk _ ih=>
     intro hp hl;have hi:=(zbJ hc (by rw [hc.2.1.1];exact hp) h0).1;have hq:=(zbZ hc hi (.inl ho)).2;refine .gen h0 hj (.inr ⟨ho,?_,hz ho hi hl ih⟩);unfold tK;rw [h.keep _ hq,hk];simp
   | bck h0 hj ho _ _ ih2 ih1=>
     intro hp hl;have hi:=(zbJ hc (by rw [hc.2.1.1];exact hp) h0).1;exact .pass h0 hj (ih2 hp hl) ⟨λh=>by omega,λh=>hz ho hi hl ih1 h.2⟩
   | pass h0 hj h6 h4 _ ih=>exact λhp hl=>.pass h0 hj (ih hp hl) ⟨h6,λh=>h4 h.1⟩
 refine Prod.ext (h.keep p hp) (zrX (h.tab.2 p).2 λl hl=>⟨λhb hn=>?_,λhn=>zeU λhb=>hn (h.snd p l hp hl hb)⟩);have:=(zhe hc hp hl).2 (key hn hp hl);rw [hs p hp] at this;rw [this] at hb;cases hb
def zr2 (T:Tab):Nat:=(T.map (·.2)).sum
theorem ztQ {T:Tab} {p:Nat} {v:Nat×Nat} (hp:p<T.length):zr2 (T.set p v)+(tbl T p).2=zr2 T+v.2:=by
 unfold zr2;rw [List.map_set];have:=zhM (l:=T.map (·.2)) (i:=p) (v:=v.2) (by simpa using hp);rw [←za3 (by simpa using hp)] at this;rw [←zhN hp];simpa using this
def zcj (c:DCode):Nat:=(plc zkc c.procs).toNat
inductive RootP (c:DCode):Nat→Prop
 | main:RootP c (zcj c)
 | spawn {r p q:Nat} (h0:RootP c r) (h1:FromP c r p) (h2:zjq c p 5 q) (hq:q<c.procs.length):RootP c q
def UsedP (c:DCode) (p:Nat):Prop:=∃ r,RootP c r∧FromP c r p
theorem zd3 {c:DCode} (hc:CodeR c):plc zkc c.procs=(zcj c:Int)∧zcj c<c.procs.length:=by
 have h:=zvq hc;have h2:=hc.2.1.1;unfold zcj;omega
theorem RootP.lt {c:DCode} (hc:CodeR c) {r:Nat} (h:RootP c r):r<c.procs.length:=by
 cases h with
 | main=>exact (zd3 hc).2
 | spawn _ _ _ hq=>exact hq
theorem UsedP.lt {c:DCode} (hc:CodeR c) {p:Nat} (h:UsedP c p):p<c.procs.length:=by
 obtain ⟨r,h1,h2⟩:=h;exact h2.lt (h1.lt hc)
inductive LostM (c:DCode) (K G:Nat→Nat→Prop):Nat→Option Nat→Nat→Prop
 | root {p l:Nat} (h:RootP c p):LostM c K G p none l
 | call {p i l:Nat} (hu:UsedP c p) (h0:zaG c p i) (ho:(zal c i).op=4) (h:LostM c K G p (some i) l):LostM c K G (agN c i) none l
 | ent {p l:Nat} (h:LostM c K G p none l):LostM c K G p (some (eN c p)) l
 | gen {p i j l:Nat} (h0:zaG c p i) (hj:j∈zaC c i) (h1:zww c K G i l):LostM c K G p (some j) l
 | pass {p i j l:Nat} (h0:zaG c p i) (hj:j∈zaC c i) (h1:LostM c K G p (some i) l) (h2:zrZ c G i l):LostM c K G p (some j) l
noncomputable def zpj (c:DCode) (p:Nat):Nat:=m6 λl=>¬LostM c (tK (zcV c)) (tG (zcV c)) p none l
noncomputable def zvv (c:DCode):List Nat:=(List.range c.procs.length).map (zpj c)
theorem ziz (c:DCode):(zvv c).length=c.procs.length:=by simp [zvv]
theorem zn7 {c:DCode} {p:Nat} (hp:p<c.procs.length):zax (zvv c) p=zpj c p:=by rw [←za3 (by rw [ziz];exact hp)];simp [zvv]
structure BI (c:DCode) (out:List Nat):Prop where
 len:out.length=c.procs.length
 lt:∀ x∈out,x<64
 snd:∀ p l,p<c.procs.length→l<6→(zax out p).testBit l=false→LostM c (tK (zcV c)) (tG (zcV c)) p none l
 root:∀ p l,RootP c p→l<6→(zax out p).testBit l=false
theorem BI.lt0 {c:DCode} {out:List Nat} (h:BI c out) (i:Nat):zax out i<64:=by
 rcases Nat.lt_or_ge i out.length with hi | hi
 · exact h.lt _ (zlB hi)
 unfold zax;rw [List.getD_eq_getElem?_getD,List.getElem?_eq_none hi];simp
theorem zpk {c:DCode} {T:Tab} {p h i l:Nat} (hi:i<c.ins.length) (hl:l<6):(zax (zcc c T p h) i).testBit l=false↔LostP c (tK T) (tG T) p (λl=>h.testBit l=true) i l:=by
 rw [zix hi];constructor
 · intro h
   refine Classical.byContradiction λhn=>?_;rw [zkB.2 ⟨hl,hn⟩] at h;cases h
 intro k;cases e:(m6 λl=>¬LostP c (tK T) (tG T) p (λl=>h.testBit l=true) i l).testBit l
 · rfl
 exact absurd k (zkB.1 e).2
theorem BI.start {c:DCode} (hc:CodeR c) (out:List Nat) (hl:out.length=c.procs.length) (h:∀ p,p<c.procs.length→(RootP c p→zax out p=0)∧(¬RootP c p→zax out p=63)):BI c out:=by
 refine ⟨hl,λx hx=>?_,λp l hp h6 hb=>?_,λp l hr h6=>?_⟩
 · obtain ⟨i,hi,rfl⟩:=List.getElem_of_mem hx
   rw [za3 hi];have:=h i (by omega);by_cases hr:RootP c i
   · rw [this.1 hr];omega
   rw [this.2 hr];omega
 · by_cases hr:RootP c p
   · exact .root hr
   rw [(h p hp).2 hr,zhd h6] at hb;cases hb
 rw [(h p (hr.lt hc)).1 hr];simp
theorem BI.fin {c:DCode} (hc:CodeR c) {out:List Nat} (h:BI c out) (hs:∀ p i,UsedP c p→zaG c p i→(zal c i).op=4→zax out (agN c i) &&& zax (zcc c (zcV c) p (zax out p)) i=zax out (agN c i)):out=zvv c:=by
 refine List.ext_getElem (by rw [h.len,ziz]) λp h1 h2=>?_;have hp:p<c.procs.length:=by rw [←h.len];exact h1
 rw [za3 h1,za3 h2,zn7 hp]
 have key:∀ {p:Nat} {o:Option Nat} {l:Nat},LostM c (tK (zcV c)) (tG (zcV c)) p o l→l<6→match o with
     | none=>(zax out p).testBit l=false
     | some i=>LostP c (tK (zcV c)) (tG (zcV c)) p (λl=>(zax out p).testBit l=true) i l:=λ{p o l} k=>by
   induction k with
   | root hr=>exact λhl=>h.root _ _ hr hl
   | @call p i l hu h0 ho _ ih=>
     intro hl;have hil:=(zbJ hc (by rw [hc.2.1.1];exact hu.lt hc) h0).1;simp only;rw [←hs p i hu h0 ho,Nat.testBit_and,(zpk hil hl).2 (ih hl),Bool.and_false]
   | ent _ ih=>exact λhl=>.ent (by have:=ih hl;simp only at this;rw [this];simp)
   | gen h0 hj h1=>exact λhl=>.gen h0 hj h1
   | pass h0 hj _ h2 ih=>exact λhl=>.pass h0 hj (ih hl) h2
 refine zrX (h.lt0 p) λl hl=>⟨λhb hn=>?_,λhn=>zeU λhb=>hn (h.snd p l hp hl hb)⟩;have:=key hn hl;simp only at this;rw [this] at hb;cases hb
noncomputable def zeW (c:DCode) (i:Nat):Nat:=@ite _ (UsedP c (zaw c i).toNat) (Classical.propDecidable _) (zax (zcc c (zcV c) (zaw c i).toNat (zpj c (zaw c i).toNat)) i) 63
noncomputable def zhO (c:DCode):List Nat:=(List.range c.ins.length).map (zeW c)
theorem zhf (c:DCode):(zhO c).length=c.ins.length:=by simp [zhO]
theorem ztR {c:DCode} {i:Nat} (hi:i<c.ins.length):zax (zhO c) i=zeW c i:=by rw [←za3 (by rw [zhf];exact hi)];simp [zhO]
theorem zcY {l:List Nat} (h:∀ x∈l,x<64) (i:Nat):zax l i<64:=by
 rcases Nat.lt_or_ge i l.length with hi | hi
 · exact h _ (zlB hi)
 unfold zax;rw [List.getD_eq_getElem?_getD,List.getElem?_eq_none hi];simp
theorem zr3 (c:DCode) (i:Nat):zeW c i<64:=by
 unfold zeW;split
 · exact zcY zhc i
 omega
theorem zlF (c:DCode):∀ x∈zhO c,x<64:=λx hx=>by
 obtain ⟨i,_,rfl⟩:=List.mem_map.1 hx;exact zr3 c i
theorem zju {c:DCode} {i p:Nat} (hp:zaw c i=p) (hu:UsedP c p):zeW c i=zax (zcc c (zcV c) p (zpj c p)) i:=by
 unfold zeW;rw [hp,Int.toNat_natCast,if_pos hu]
theorem zkC {c:DCode} {i p:Nat} (hp:zaw c i=p) (hu:¬UsedP c p):zeW c i=63:=by
 unfold zeW;rw [hp,Int.toNat_natCast,if_neg hu]
inductive MetP (c:DCode):Nat→Prop
 | root {p:Nat} (h:RootP c p):MetP c (eN c p)
 | call {i:Nat} (h:MetP c i) (ho:(zal c i).op=4):MetP c (eN c (agN c i))
 | next {i j:Nat} (h:MetP c i) (ho:¬(zal c i).op=4) (hj:j∈zaC c i):MetP c j
 | back {i j:Nat} (h:MetP c i) (ho:(zal c i).op=4) (hz:MetP c (zN c (agN c i))) (hj:j∈zaC c i):MetP c j
theorem MetP.lt {c:DCode} (hc:CodeR c) {i:Nat} (h:MetP c i):i<c.ins.length:=by
 induction h with
 | root h=>exact (zfg hc (by rw [hc.2.1.1];exact h.lt hc)).2.1
 | call _ ho ih=>exact (zfg hc (by rw [hc.2.1.1];exact (zbZ hc ih (.inl ho)).2)).2.1
 | next _ _ hj ih=>exact (zcJ hc ih hj).1
 | back _ _ _ hj ih _=>exact (zcJ hc ih hj).1
inductive MayP (c:DCode):Nat→Nat→Prop
 | lock {i j l:Nat} (h:MetP c i) (ho:(zal c i).op=6) (ha:agN c i=l) (hj:j∈zaC c i):MayP c j l
 | pass {i j l:Nat} (h:MetP c i) (ho:¬(zal c i).op=4) (ha:¬((zal c i).op=7∧agN c i=l)) (hm:MayP c i l) (hj:j∈zaC c i):MayP c j l
 | call {i l:Nat} (h:MetP c i) (ho:(zal c i).op=4) (hm:MayP c i l):MayP c (eN c (agN c i)) l
 | back {i j l:Nat} (h:MetP c i) (ho:(zal c i).op=4) (hz:MetP c (zN c (agN c i))) (hm:MayP c (zN c (agN c i)) l) (hj:j∈zaC c i):MayP c j l
noncomputable def zfq (c:DCode):List Bool:=zby c.ins.length (MetP c)
noncomputable def zmR (c:DCode):List Nat:=(List.range c.ins.length).map λi=>m6 (MayP c i)
theorem ziA (c:DCode):(zmR c).length=c.ins.length:=by simp [zmR]
theorem zn8 {c:DCode} {i:Nat} (hi:i<c.ins.length):zax (zmR c) i=m6 (MayP c i):=by rw [←za3 (by rw [ziA];exact hi)];simp [zmR]
theorem zr4 (c:DCode):∀ x∈zmR c,x<64:=λx hx=>by
 obtain ⟨i,_,rfl⟩:=List.mem_map.1 hx;exact zjt
structure MetC (c:DCode) (M:Nat→Prop):Prop where
 root:∀ p,RootP c p→M (eN c p)
 call:∀ i,M i→(zal c i).op=4→M (eN c (agN c i))
 next:∀ i j,M i→¬(zal c i).op=4→j∈zaC c i→M j
 back:∀ i j,M i→(zal c i).op=4→M (zN c (agN c i))→j∈zaC c i→M j
theorem MetC.all {c:DCode} {M:Nat→Prop} (h:MetC c M) {i:Nat} (k:MetP c i):M i:=by
 induction k with
 | root h1=>exact h.root _ h1
 | call _ ho ih=>exact h.call _ ih ho
 | next _ ho hj ih=>exact h.next _ _ ih ho hj
 | back _ ho _ hj ih1 ih2=>exact h.back _ _ ih1 ho ih2 hj
structure MayC (c:DCode) (H:Nat→Nat→Prop):Prop where
 lock:∀ i j,MetP c i→(zal c i).op=6→j∈zaC c i→H j (agN c i)
 pass:∀ i j l,MetP c i→l<6→¬(zal c i).op=4→¬((zal c i).op=7∧agN c i=l)→H i l→j∈zaC c i→H j l
 call:∀ i l,MetP c i→l<6→(zal c i).op=4→H i l→H (eN c (agN c i)) l
 back:∀ i j l,MetP c i→l<6→(zal c i).op=4→MetP c (zN c (agN c i))→H (zN c (agN c i)) l→j∈zaC c i→H j l
theorem MayC.all {c:DCode} {H:Nat→Nat→Prop} (h:MayC c H) {i l:Nat} (hl:l<6) (k:MayP c i l):H i l:=by
 induction k with
 | lock hm ho ha hj=>exact ha▸h.lock _ _ hm ho hj
 | pass hm ho ha _ hj ih=>exact h.pass _ _ _ hm hl ho ha (ih hl) hj
 | call hm ho _ ih=>exact h.call _ _ hm hl ho (ih hl)
 | back hm ho hz _ hj ih=>exact h.back _ _ _ hm hl ho hz (ih hl) hj
end Go.Proofs.YtifonhplnmpgaaaGreat
namespace Go.Proofs.YtifonhplnmpgaaaGreat
open Go.Shelf
def Tryz.sortRace_ren:Go.Shelf.Ren:=⟨fun | 6=>164 | 15=>142 | 14=>219 | 28=>195 | 29=>196 | 20=>242 | 21=>243 | 22=>244 | 23=>245 | 24=>246 | 25=>247 | 26=>248 | 27=>249 | 46=>259 | 47=>225 | 48=>226 | 49=>260 | 50=>261 | 57=>262 | n=>n,fun | 22=>43 | 24=>79 | 25=>178 | 3=>3 | 39=>121 | 0=>0 | 53=>196 | 55=>120 | 4=>4 | 46=>189 | 45=>188 | 50=>193 | 5=>5 | 9=>9 | 66=>215 | 70=>219 | 76=>237 | 77=>238 | n=>n,fun | n=>n⟩
theorem Tryz.sortRace:SlLaysF0.n6 tp Tryz.sortRace_ren:={
 mixed:=by kernel_rfl,
 f6:=⟨Tryz.f164.name,by kernel_rfl,Tryz.func164.trans (congrArg some (by kernel_rfl))⟩,
 f14:=⟨Tryz.f219.name,by kernel_rfl,Tryz.func219.trans (congrArg some (by kernel_rfl))⟩,
 f15:=Tryz.func142.trans (congrArg some (by kernel_rfl)),
 f20:=⟨Tryz.f242.name,by kernel_rfl,Tryz.func242.trans (congrArg some (by kernel_rfl))⟩,
 f21:=⟨Tryz.f243.name,by kernel_rfl,Tryz.func243.trans (congrArg some (by kernel_rfl))⟩,
 f22:=⟨Tryz.f244.name,by kernel_rfl,Tryz.func244.trans (congrArg some (by kernel_rfl))⟩,
 f23:=⟨Tryz.f245.name,by kernel_rfl,Tryz.func245.trans (congrArg some (by kernel_rfl))⟩,
 f24:=⟨Tryz.f246.name,by kernel_rfl,Tryz.func246.trans (congrArg some (by kernel_rfl))⟩,
 f25:=⟨Tryz.f247.name,by kernel_rfl,Tryz.func247.trans (congrArg some (by kernel_rfl))⟩,
 f26:=⟨Tryz.f248.name,by kernel_rfl,Tryz.func248.trans (congrArg some (by kernel_rfl))⟩,
 f27:=⟨Tryz.f249.name,by kernel_rfl,Tryz.func249.trans (congrArg some (by kernel_rfl))⟩,
 f28:=Tryz.func195.trans (congrArg some (by kernel_rfl)),
 f29:=Tryz.func196.trans (congrArg some (by kernel_rfl)),
 f46:=⟨Tryz.f259.name,by kernel_rfl,Tryz.func259.trans (congrArg some (by kernel_rfl))⟩,
 f47:=Tryz.func225.trans (congrArg some (by kernel_rfl)),
 f48:=Tryz.func226.trans (congrArg some (by kernel_rfl)),
 f49:=⟨Tryz.f260.name,by kernel_rfl,Tryz.func260.trans (congrArg some (by kernel_rfl))⟩,
 f50:=⟨Tryz.f261.name,by kernel_rfl,Tryz.func261.trans (congrArg some (by kernel_rfl))⟩,
 f57:=⟨Tryz.f262.name,by kernel_rfl,Tryz.func262.trans (congrArg some (by kernel_rfl))⟩,
 t0:=Tryz.underlying0,
 a0:=Tryz.isAgg0,
 z0:=Tryz.sizeOf0,
 v0:=Tryz.zeroValue0,
 t3:=Tryz.underlying3,
 a3:=Tryz.isAgg3,
 z3:=Tryz.sizeOf3,
 v3:=Tryz.zeroValue3,
 t4:=Tryz.underlying4,
 a4:=Tryz.isAgg4,
 z4:=Tryz.sizeOf4,
 v4:=Tryz.zeroValue4,
 t5:=Tryz.underlying5,
 a5:=Tryz.isAgg5,
 z5:=Tryz.sizeOf5,
 v5:=Tryz.zeroValue5,
 t9:=Tryz.underlying9,
 a9:=Tryz.isAgg9,
 z9:=Tryz.sizeOf9,
 v9:=Tryz.zeroValue9,
 t22:=Tryz.underlying43,
 a22:=Tryz.isAgg43,
 z22:=Tryz.sizeOf43,
 v22:=Tryz.zeroValue43,
 t25:=Tryz.underlying178,
 a25:=Tryz.isAgg178,
 z25:=Tryz.sizeOf178,
 v25:=Tryz.zeroValue178,
 t39:=Tryz.underlying121,
 a39:=Tryz.isAgg121,
 z39:=Tryz.sizeOf121,
 v39:=Tryz.zeroValue121,
 t45:=Tryz.underlying188,
 a45:=Tryz.isAgg188,
 z45:=Tryz.sizeOf188,
 v45:=Tryz.zeroValue188,
 t46:=Tryz.underlying189,
 a46:=Tryz.isAgg189,
 z46:=Tryz.sizeOf189,
 v46:=Tryz.zeroValue189,
 t50:=Tryz.underlying193,
 a50:=Tryz.isAgg193,
 z50:=Tryz.sizeOf193,
 v50:=Tryz.zeroValue193,
 t53:=Tryz.underlying196,
 a53:=Tryz.isAgg196,
 z53:=Tryz.sizeOf196,
 v53:=Tryz.zeroValue196,
 t55:=Tryz.underlying120,
 a55:=Tryz.isAgg120,
 z55:=Tryz.sizeOf120,
 v55:=Tryz.zeroValue120,
 t66:=Tryz.underlying215,
 a66:=Tryz.isAgg215,
 z66:=Tryz.sizeOf215,
 v66:=Tryz.zeroValue215,
 t70:=Tryz.underlying219,
 a70:=Tryz.isAgg219,
 z70:=Tryz.sizeOf219,
 v70:=Tryz.zeroValue219,
 t76:=Tryz.underlying237,
 a76:=Tryz.isAgg237,
 z76:=Tryz.sizeOf237,
 v76:=Tryz.zeroValue237,
 t77:=Tryz.underlying238,
 a77:=Tryz.isAgg238,
 z77:=Tryz.sizeOf238,
 v77:=Tryz.zeroValue238 }
def Tryz.sortOrder_ren:Go.Shelf.Ren:=⟨fun | 6=>88 | 15=>142 | 14=>146 | 28=>195 | 29=>196 | 20=>197 | 21=>198 | 22=>199 | 23=>200 | 24=>201 | 25=>202 | 26=>203 | 27=>204 | 46=>229 | 47=>225 | 48=>226 | 49=>230 | 50=>231 | 57=>256 | n=>n,fun | 22=>72 | 24=>104 | 25=>126 | 3=>3 | 39=>121 | 0=>0 | 53=>196 | 55=>120 | 4=>4 | 46=>189 | 45=>188 | 50=>193 | 5=>5 | 9=>9 | 66=>215 | 70=>219 | 76=>237 | 77=>238 | n=>n,fun | n=>n⟩
theorem Tryz.sortOrder:SlLaysF0.n6 tp Tryz.sortOrder_ren:={
 mixed:=by kernel_rfl,
 f6:=⟨Tryz.f88.name,by kernel_rfl,Tryz.func88.trans (congrArg some (by kernel_rfl))⟩,
 f14:=⟨Tryz.f146.name,by kernel_rfl,Tryz.func146.trans (congrArg some (by kernel_rfl))⟩,
 f15:=Tryz.func142.trans (congrArg some (by kernel_rfl)),
 f20:=⟨Tryz.f197.name,by kernel_rfl,Tryz.func197.trans (congrArg some (by kernel_rfl))⟩,
 f21:=⟨Tryz.f198.name,by kernel_rfl,Tryz.func198.trans (congrArg some (by kernel_rfl))⟩,
 f22:=⟨Tryz.f199.name,by kernel_rfl,Tryz.func199.trans (congrArg some (by kernel_rfl))⟩,
 f23:=⟨Tryz.f200.name,by kernel_rfl,Tryz.func200.trans (congrArg some (by kernel_rfl))⟩,
 f24:=⟨Tryz.f201.name,by kernel_rfl,Tryz.func201.trans (congrArg some (by kernel_rfl))⟩,
 f25:=⟨Tryz.f202.name,by kernel_rfl,Tryz.func202.trans (congrArg some (by kernel_rfl))⟩,
 f26:=⟨Tryz.f203.name,by kernel_rfl,Tryz.func203.trans (congrArg some (by kernel_rfl))⟩,
 f27:=⟨Tryz.f204.name,by kernel_rfl,Tryz.func204.trans (congrArg some (by kernel_rfl))⟩,
 f28:=Tryz.func195.trans (congrArg some (by kernel_rfl)),
 f29:=Tryz.func196.trans (congrArg some (by kernel_rfl)),
 f46:=⟨Tryz.f229.name,by kernel_rfl,Tryz.func229.trans (congrArg some (by kernel_rfl))⟩,
 f47:=Tryz.func225.trans (congrArg some (by kernel_rfl)),
 f48:=Tryz.func226.trans (congrArg some (by kernel_rfl)),
 f49:=⟨Tryz.f230.name,by kernel_rfl,Tryz.func230.trans (congrArg some (by kernel_rfl))⟩,
 f50:=⟨Tryz.f231.name,by kernel_rfl,Tryz.func231.trans (congrArg some (by kernel_rfl))⟩,
 f57:=⟨Tryz.f256.name,by kernel_rfl,Tryz.func256.trans (congrArg some (by kernel_rfl))⟩,
 t0:=Tryz.underlying0,
 a0:=Tryz.isAgg0,
 z0:=Tryz.sizeOf0,
 v0:=Tryz.zeroValue0,
 t3:=Tryz.underlying3,
 a3:=Tryz.isAgg3,
 z3:=Tryz.sizeOf3,
 v3:=Tryz.zeroValue3,
 t4:=Tryz.underlying4,
 a4:=Tryz.isAgg4,
 z4:=Tryz.sizeOf4,
 v4:=Tryz.zeroValue4,
 t5:=Tryz.underlying5,
 a5:=Tryz.isAgg5,
 z5:=Tryz.sizeOf5,
 v5:=Tryz.zeroValue5,
 t9:=Tryz.underlying9,
 a9:=Tryz.isAgg9,
 z9:=Tryz.sizeOf9,
 v9:=Tryz.zeroValue9,
 t22:=Tryz.underlying72,
 a22:=Tryz.isAgg72,
 z22:=Tryz.sizeOf72,
 v22:=Tryz.zeroValue72,
 t25:=Tryz.underlying126,
 a25:=Tryz.isAgg126,
 z25:=Tryz.sizeOf126,
 v25:=Tryz.zeroValue126,
 t39:=Tryz.underlying121,
 a39:=Tryz.isAgg121,
 z39:=Tryz.sizeOf121,
 v39:=Tryz.zeroValue121,
 t45:=Tryz.underlying188,
 a45:=Tryz.isAgg188,
 z45:=Tryz.sizeOf188,
 v45:=Tryz.zeroValue188,
 t46:=Tryz.underlying189,
 a46:=Tryz.isAgg189,
 z46:=Tryz.sizeOf189,
 v46:=Tryz.zeroValue189,
 t50:=Tryz.underlying193,
 a50:=Tryz.isAgg193,
 z50:=Tryz.sizeOf193,
 v50:=Tryz.zeroValue193,
 t53:=Tryz.underlying196,
 a53:=Tryz.isAgg196,
 z53:=Tryz.sizeOf196,
 v53:=Tryz.zeroValue196,
 t55:=Tryz.underlying120,
 a55:=Tryz.isAgg120,
 z55:=Tryz.sizeOf120,
 v55:=Tryz.zeroValue120,
 t66:=Tryz.underlying215,
 a66:=Tryz.isAgg215,
 z66:=Tryz.sizeOf215,
 v66:=Tryz.zeroValue215,
 t70:=Tryz.underlying219,
 a70:=Tryz.isAgg219,
 z70:=Tryz.sizeOf219,
 v70:=Tryz.zeroValue219,
 t76:=Tryz.underlying237,
 a76:=Tryz.isAgg237,
 z76:=Tryz.sizeOf237,
 v76:=Tryz.zeroValue237,
 t77:=Tryz.underlying238,
 a77:=Tryz.isAgg238,
 z77:=Tryz.sizeOf238,
 v77:=Tryz.zeroValue238 }
def Tryz.sortInts_ren:Go.Shelf.Ren:=⟨fun | 6=>82 | 15=>142 | 14=>141 | 28=>195 | 29=>196 | 20=>187 | 21=>188 | 22=>189 | 23=>190 | 24=>191 | 25=>192 | 26=>193 | 27=>194 | 46=>224 | 47=>225 | 48=>226 | 49=>227 | 50=>228 | 57=>255 | n=>n,fun | 22=>39 | 24=>23 | 25=>117 | 3=>3 | 39=>121 | 0=>0 | 53=>196 | 55=>120 | 4=>4 | 46=>189 | 45=>188 | 50=>193 | 5=>5 | 9=>9 | 66=>215 | 70=>219 | 76=>237 | 77=>238 | n=>n,fun | n=>n⟩
theorem Tryz.sortInts:SlLaysF.n6 tp Tryz.sortInts_ren:={
 mixed:=by kernel_rfl,
 f6:=⟨Tryz.f82.name,by kernel_rfl,Tryz.func82.trans (congrArg some (by kernel_rfl))⟩,
 f14:=⟨Tryz.f141.name,by kernel_rfl,Tryz.func141.trans (congrArg some (by kernel_rfl))⟩,
 f15:=Tryz.func142.trans (congrArg some (by kernel_rfl)),
 f20:=⟨Tryz.f187.name,by kernel_rfl,Tryz.func187.trans (congrArg some (by kernel_rfl))⟩,
 f21:=⟨Tryz.f188.name,by kernel_rfl,Tryz.func188.trans (congrArg some (by kernel_rfl))⟩,
 f22:=⟨Tryz.f189.name,by kernel_rfl,Tryz.func189.trans (congrArg some (by kernel_rfl))⟩,
 f23:=⟨Tryz.f190.name,by kernel_rfl,Tryz.func190.trans (congrArg some (by kernel_rfl))⟩,
 f24:=⟨Tryz.f191.name,by kernel_rfl,Tryz.func191.trans (congrArg some (by kernel_rfl))⟩,
 f25:=⟨Tryz.f192.name,by kernel_rfl,Tryz.func192.trans (congrArg some (by kernel_rfl))⟩,
 f26:=⟨Tryz.f193.name,by kernel_rfl,Tryz.func193.trans (congrArg some (by kernel_rfl))⟩,
 f27:=⟨Tryz.f194.name,by kernel_rfl,Tryz.func194.trans (congrArg some (by kernel_rfl))⟩,
 f28:=Tryz.func195.trans (congrArg some (by kernel_rfl)),
 f29:=Tryz.func196.trans (congrArg some (by kernel_rfl)),
 f46:=⟨Tryz.f224.name,by kernel_rfl,Tryz.func224.trans (congrArg some (by kernel_rfl))⟩,
 f47:=Tryz.func225.trans (congrArg some (by kernel_rfl)),
 f48:=Tryz.func226.trans (congrArg some (by kernel_rfl)),
 f49:=⟨Tryz.f227.name,by kernel_rfl,Tryz.func227.trans (congrArg some (by kernel_rfl))⟩,
 f50:=⟨Tryz.f228.name,by kernel_rfl,Tryz.func228.trans (congrArg some (by kernel_rfl))⟩,
 f57:=⟨Tryz.f255.name,by kernel_rfl,Tryz.func255.trans (congrArg some (by kernel_rfl))⟩,
 t0:=Tryz.underlying0,
 a0:=Tryz.isAgg0,
 z0:=Tryz.sizeOf0,
 v0:=Tryz.zeroValue0,
 t3:=Tryz.underlying3,
 a3:=Tryz.isAgg3,
 z3:=Tryz.sizeOf3,
 v3:=Tryz.zeroValue3,
 t4:=Tryz.underlying4,
 a4:=Tryz.isAgg4,
 z4:=Tryz.sizeOf4,
 v4:=Tryz.zeroValue4,
 t5:=Tryz.underlying5,
 a5:=Tryz.isAgg5,
 z5:=Tryz.sizeOf5,
 v5:=Tryz.zeroValue5,
 t9:=Tryz.underlying9,
 a9:=Tryz.isAgg9,
 z9:=Tryz.sizeOf9,
 v9:=Tryz.zeroValue9,
 t22:=Tryz.underlying39,
 a22:=Tryz.isAgg39,
 z22:=Tryz.sizeOf39,
 v22:=Tryz.zeroValue39,
 a24:=Tryz.isAgg23,
 z24:=Tryz.sizeOf23,
 t25:=Tryz.underlying117,
 a25:=Tryz.isAgg117,
 z25:=Tryz.sizeOf117,
 v25:=Tryz.zeroValue117,
 t39:=Tryz.underlying121,
 a39:=Tryz.isAgg121,
 z39:=Tryz.sizeOf121,
 v39:=Tryz.zeroValue121,
 t45:=Tryz.underlying188,
 a45:=Tryz.isAgg188,
 z45:=Tryz.sizeOf188,
 v45:=Tryz.zeroValue188,
 t46:=Tryz.underlying189,
 a46:=Tryz.isAgg189,
 z46:=Tryz.sizeOf189,
 v46:=Tryz.zeroValue189,
 t50:=Tryz.underlying193,
 a50:=Tryz.isAgg193,
 z50:=Tryz.sizeOf193,
 v50:=Tryz.zeroValue193,
 t53:=Tryz.underlying196,
 a53:=Tryz.isAgg196,
 z53:=Tryz.sizeOf196,
 v53:=Tryz.zeroValue196,
 t55:=Tryz.underlying120,
 a55:=Tryz.isAgg120,
 z55:=Tryz.sizeOf120,
 v55:=Tryz.zeroValue120,
 t66:=Tryz.underlying215,
 a66:=Tryz.isAgg215,
 z66:=Tryz.sizeOf215,
 v66:=Tryz.zeroValue215,
 t70:=Tryz.underlying219,
 a70:=Tryz.isAgg219,
 z70:=Tryz.sizeOf219,
 v70:=Tryz.zeroValue219,
 t76:=Tryz.underlying237,
 a76:=Tryz.isAgg237,
 z76:=Tryz.sizeOf237,
 v76:=Tryz.zeroValue237,
 t77:=Tryz.underlying238,
 a77:=Tryz.isAgg238,
 z77:=Tryz.sizeOf238,
 v77:=Tryz.zeroValue238 }
end Go.Proofs.YtifonhplnmpgaaaGreat
namespace Go.Sh
open Rep (rep)
open Go.Sort Go.Proofs
section
variable {α:Type} [Inhabited α] {enc:α→List Value} {k:Nat}
theorem flat_len (hk:∀ x,(enc x).length=k):∀ (l:List α),(l.flatMap enc).length=l.length*k
 | []=>by simp
 | x :: l=>by rw [List.flatMap_cons,List.length_append,hk,flat_len hk l,List.length_cons,Nat.add_mul];omega
theorem zpl (hk:∀ x,(enc x).length=k) (h0:0<k):∀ {l:List α} {t:Nat},t<l.length*k→(l.flatMap enc)[t]?=some ((enc l[t / k]!)[t%k]!)
 | [],t,h=>by simp at h
 | x :: l,t,h=>by
   rw [List.flatMap_cons];rcases Nat.lt_or_ge t k with ht | ht
   · rw [List.getElem?_append_left (by rw [hk];exact ht),Nat.div_eq_of_lt ht,Nat.mod_eq_of_lt ht]
     have:t<(enc x).length:=by rw [hk];exact ht
     rw [List.getElem?_eq_getElem this];simp [this]
   rw [List.getElem?_append_right (by rw [hk];exact ht),hk];have h':t-k<l.length*k:=by rw [List.length_cons,Nat.add_mul] at h;omega
   rw [zpl hk h0 h']
   have e1:t / k=(t-k) / k+1:=by
     have:t=(t-k)+k:=by omega
     conv=>lhs;rw [this]
     rw [Nat.add_div_right _ h0]
   have e2:t%k=(t-k)%k:=by
     have:t=(t-k)+k:=by omega
     conv=>lhs;rw [this]
     rw [Nat.add_mod_right]
   rw [e1,e2];simp
theorem zmS (hk:∀ x,(enc x).length=k) (h0:0<k) {l:List α} {t:Nat} (h:t<l.length*k):(l.flatMap enc)[t]?=some (flatK enc k l.toArray)[t]!:=by
 rw [zpl hk h0 h,get_flatK enc k l.toArray t (by simpa using h)];simp
end
section
variable {α:Type} [Rep α] [Flat α] [Inhabited α] {w:World} {enc:α→List Value} {b o n cap:Nat} {l:List α}
theorem zmT (henc:∀ {F w cs} {x:α},rep F w cs x→cs=enc x):∀ {l:List α} {F:List Nat} {xs:List Value},Cells F w xs l→xs=l.flatMap enc
 | [],_,_,⟨_,h⟩=>by simp [h]
 | y :: ys,_,_,⟨F1,F2,c1,c2,_,h,h1,h2⟩=>by rw [h,henc h1,zmT henc h2,List.flatMap_cons]
theorem zmU {w':World} (henc:∀ {F w cs} {x:α},rep F w cs x→cs=enc x):∀ {l:List α},(∀ x∈l,∃ F cs,rep F w cs x)→Cells [] w' (l.flatMap enc) l
 | [],_=>⟨rfl,rfl⟩
 | y :: ys,h=>by
   obtain ⟨F,cs,hr⟩:=h y (by simp);have hF:=Flat.flat hr;subst hF;have hc:=henc hr;subst hc;exact ⟨[],[],enc y,ys.flatMap enc,rfl,rfl,Rep.keep hr (by simp),zmU henc λx hx=>h x (by simp [hx])⟩
theorem zmV:∀ {l:List α} {F:List Nat} {xs:List Value},Cells F w xs l→∀ x∈l,∃ F cs,rep F w cs x
 | y :: ys,_,_,⟨F1,F2,c1,c2,_,h,h1,h2⟩,x,hx=>by
   rcases List.mem_cons.1 hx with rfl | hx
   · exact ⟨_,_,h1⟩
   exact zmV h2 x hx
theorem zjv (henc:∀ {F w cs} {x:α},rep F w cs x→cs=enc x) (hk:∀ x,(enc x).length=Rep.size α) (hw:∃ c e,w.heap[b]?=some (.cells c e (0,0))) {xs:List Value} (hc:Cells [] w xs l) (hr:w.rangeAt b o xs):HoldsK enc (Rep.size α) w b o l.toArray:=by
 intro j hj;rw [size_flatK] at hj;have hj':j<l.length*Rep.size α:=by simpa using hj
 have:=zmT henc hc;subst this;have h1:=hr j _ (zmS hk Rep.pos hj');refine ⟨h1,?_⟩;obtain ⟨c,e,he⟩:=hw;simp [World.frozen?,he]
theorem zjw (henc:∀ {F w cs} {x:α},rep F w cs x→cs=enc x) (hk:∀ x,(enc x).length=Rep.size α) {d':Array α} {m:Nat} {os:Array Obj} {w3:World} (hw3:w3=sortWorldK enc (Rep.size α) w b o m d' os) (hw:∃ c e,w.heap[b]?=some (.cells c e (0,0))) {xs:List Value} (hc:Cells [] w xs l) (hr:w.rangeAt b o xs)
   (h1:l.length≤cap) (h2:cap≤maxLen) (hl:d'.size=l.length) (hp:∀ x∈d'.toList,x∈l):Chg [b] w w3∧Mine [b] w3 (.slice (some ⟨b,o,none⟩) l.length cap) d'.toList:=by
 subst hw3;have hH:=zjv henc hk hw hc hr;obtain ⟨c,e,he⟩:=hw;have hb:b<w.heap.size:=(Array.getElem?_eq_some_iff.1 he).1;have hsz:(putRowK enc (Rep.size α) (Sort.ahead w m) b o d').heap.size=w.heap.size:=by simp [putRowK,putRow,mapBlock,Sort.ahead]
 have hblk:∀ i,i<w.heap.size→i≠b→(sortWorldK enc (Rep.size α) w b o m d' os).heap[i]?=w.heap[i]?:=λi hi hne=>by
   unfold sortWorldK;rw [heap_grow_old _ _ (by rw [hsz];exact hi)];simp [putRowK,putRow,mapBlock,Sort.ahead,Array.getElem?_modify,hne.symm]
 have hbb:∃ c',(sortWorldK enc (Rep.size α) w b o m d' os).heap[b]?=some (.cells c' e (0,0)):=by
   unfold sortWorldK;rw [heap_grow_old _ _ (by rw [hsz];exact hb)];exact ⟨_,by simp [putRowK,putRow,mapBlock,Sort.ahead,Array.getElem?_modify,he,onCells];rfl⟩
 have hsz2:w.heap.size≤(sortWorldK enc (Rep.size α) w b o m d' os).heap.size:=by
   unfold sortWorldK grow;rw [Array.size_append,hsz];omega
 refine ⟨⟨rfl,rfl,rfl,hsz2,λi hi hm=>hblk i hi λe=>hm (by simp [e])⟩,⟨⟨_,⟨some ⟨b,o,none⟩,cap,[],d'.toList.flatMap enc,rfl,by simpa [hl] using h1,h2,?_,.inr ⟨b,o,rfl,rfl,?_,by omega⟩⟩,by simp [mkv,Rep.agg,hl]⟩,by simp,λi hi=>?_⟩⟩
 · exact zmU (w:=w) henc λx hx=>zmV hc x (hp x hx)
 · intro j v hv
   have hj:j<d'.toList.length*Rep.size α:=by
     have:=(List.getElem?_eq_some_iff.1 hv).1
     rwa [flat_len hk] at this
   rw [zmS hk Rep.pos hj,Option.some.injEq] at hv;have hj2:j<(flatK enc (Rep.size α) d').size:=by rw [size_flatK];simpa using hj
   have:=cell?_putRow id (Sort.ahead w m) b o (flatK enc (Rep.size α) l.toArray) (flatK enc (Rep.size α) d') hH (by simp [hl]) j hj2;unfold sortWorldK;rw [cell?_grow _ _ _ (by rw [hsz];exact hb)];show (putRow id (Sort.ahead w m) b o (flatK enc (Rep.size α) d')).cell? _=_;rw [this,←hv];simp
 simp only [List.mem_cons,List.not_mem_nil,or_false] at hi;subst hi;obtain ⟨c',hc'⟩:=hbb;exact ⟨c',e,hc'⟩
end
end Go.Sh
namespace Go.Proofs.YtifonhplnmpgaaaGreat
open Go Go.Sh Go.Proofs
open Rep (rep)
def F205 (a0:Value) (w:World) (R:VW):Prop:=
 rB .neq 3 T0 T0 a0 a0 w λx5=>
 R x5 w
theorem F205_call {a0 w R} (h:F205 a0 w R):cL 205 [a0] w R:=co (g:=(kf [] [] [])) Tryz.func205 h
def F147 (a0 a1:Value) (w:World) (R:VW):Prop:=
 cL 205 [a0] w λx8 w=>
 cL 205 [a1] w λx10 w=>
 BR x8
 (BR x10
 (R (iV 0) w)
 (R (iV (-1)) w))
 (BR x10
 (R (iV 1) w)
 (rC a0 a1 w λx16=>
 BR x16
 (R (iV (-1)) w)
 (rB .gtr 3 T0 T0 a0 a1 w λx19=>
 BR x19
 (R (iV 1) w)
 (R (iV 0) w))))
theorem F147_call {a0 a1 w R} (h:F147 a0 a1 w R):cL 147 [a0,a1] w R:=co (g:=(kf [] [] [])) Tryz.func147 h
def F90 (a0 a1:Value) (w:World) (R:VW):Prop:=
 rN 23 3 a0 w λx10=>
 LOOPI [11] [(iV 0)] w λu2 w n2=>
 rC (u2 11) x10 w λx12=>
 BR x12
 (rX 23 a0 (u2 11) w λx14=>
 rL 3 x14 w λx15=>
 rN 23 3 a1 w λx18=>
 rB .geq 3 T0 T0 (u2 11) x18 w λx19=>
 BR x19
 (R (iV 1) w)
 (rX 23 a1 (u2 11) w λx22=>
 rL 3 x22 w λx23=>
 cL 147 [x15,x23] w λx26 w=>
 rB .neq 3 T0 U0 x26 (iV 0) w λx28=>
 BR x28
 (R x26 w)
 (rI (u2 11) w λx30=>
 n2 [x30] w)))
 (rN 23 3 a0 w λx32=>
 rN 23 3 a1 w λx34=>
 rC x32 x34 w λx35=>
 BR x35
 (R (iV (-1)) w)
 (R (iV 0) w))
theorem F90_call {a0 a1 w R} (h:F90 a0 a1 w R):cL 90 [a0,a1] w R:=co (g:=(kf [] [(2,2147482096,[11])] [])) Tryz.func90 h
def F165 (a0 a1:Value) (w:World) (R:VW):Prop:=
 oX 79 a0 w λx2 w=>
 oX 79 a1 w λx3 w=>
 rF 79 x2 0 w λx5=>
 rL 3 x5 w λx6=>
 rF 79 x2 1 w λx7=>
 rL 3 x7 w λx8=>
 rF 79 x2 2 w λx9=>
 rL 3 x9 w λx10=>
 oP (Instr.buildSlice 23 3 #[(0,x6),(1,x8),(2,x10)]) w λx11 w=>
 rF 79 x3 0 w λx12=>
 rL 3 x12 w λx13=>
 rF 79 x3 1 w λx14=>
 rL 3 x14 w λx15=>
 rF 79 x3 2 w λx16=>
 rL 3 x16 w λx17=>
 oP (Instr.buildSlice 23 3 #[(0,x13),(1,x15),(2,x17)]) w λx18 w=>
 cL 90 [x11,x18] w λx19 w=>
 R x19 w
theorem F165_call {a0 a1 w R} (h:F165 a0 a1 w R):cL 165 [a0,a1] w R:=co (g:=(kf [] [] [])) Tryz.func165 h
theorem zwP:zcz tp 3=some [.int .i64 0]:=by kernel_rfl
def zpm (x y:Int):Int:=if x<y then -1 else if y<x then 1 else 0
def zr5:List Int→List Int→Int
 | [],[]=>0
 | [],_ :: _=>-1
 | _ :: _,[]=>1
 | x :: l,y :: m=>if zpm x y≠0 then zpm x y else zr5 l m
theorem isNaN_ok {w:World} {x:Int}:CALL tp 205 [.int .i64 x] w λr w'=>w'=w∧r=.bool false:=by
 refine F205_call ?_;unfold F205;exact zaB ⟨rfl,by simp⟩
theorem compareI_ok {w:World} {x y:Int}:CALL tp 147 [.int .i64 x,.int .i64 y] w λr w'=>w'=w∧r=.int .i64 (zpm x y):=by
 refine F147_call ?_;unfold F147;refine isNaN_ok.mono ?_;rintro _ _ ⟨rfl,rfl⟩;refine isNaN_ok.mono ?_;rintro _ _ ⟨rfl,rfl⟩;refine zbz (λh=>by cases h) (λ_=>?_);refine zbz (λh=>by cases h) (λ_=>?_);refine zag ?_;refine br (λh=>⟨rfl,by rw [zpm,if_pos h]⟩) (λh=>?_);refine zcK ?_;refine br (λh2=>⟨rfl,by rw [zpm,if_neg h,if_pos h2]⟩) (λh2=>⟨rfl,by rw [zpm,if_neg h,if_neg h2]⟩)
theorem zjx {P:Program} {w:World} {K:Value→Prop} {t ty e:TypeId} {a:Option Addr} {n c:Nat} (ht:P.underlying t=some (.slice e)) (k:K (.int .i64 (n:Int))) :
   RD P (Builtin.len_ #[t] ty [Value.slice a n c].toArray) w K:=za7 (λw' _=>by simp [Builtin.len_,run_underlying ht];rfl) k
def vI (l:List Int):List Value:=l.map λx=>.int .i64 x
theorem zuM {l:List Int} {k:Nat} (h:k<l.length):(vI l)[k]?=some (.int .i64 l[k]):=by simp [vI,h]
theorem zr6 {l m:List Int} {k:Nat} (h1:k<l.length) (h2:k<m.length):zr5 (l.drop k) (m.drop k)=if zpm l[k] m[k]≠0 then zpm l[k] m[k] else zr5 (l.drop (k+1)) (m.drop (k+1)):=by
 rw [List.drop_eq_getElem_cons h1,List.drop_eq_getElem_cons h2,zr5]
theorem zjy {w:World} {g1 g2 e1 e2 c1 c2:Nat} {l m:List Int} (h1:Blk g1 e1 w (vI l)) (h2:Blk g2 e2 w (vI m)) (hl:l.length≤1000) (hm:m.length≤1000) :
   CALL tp 90 [.slice (some ⟨g1,0,none⟩) l.length c1,.slice (some ⟨g2,0,none⟩) m.length c2] w λr w'=>w'=w∧r=.int .i64 (zr5 l m):=by
 refine F90_call ?_;unfold F90;refine zjx u23 ?_;refine zam l.length (λk us w'=>us=[.int .i64 (k:Int)]∧w'=w∧k≤m.length∧zr5 l m=zr5 (l.drop k) (m.drop k)) 0 (z0 _) ⟨rfl,rfl,z0 _,rfl⟩ ?_;rintro k mk u w2 hkm ⟨hu,rfl,hkl,hc⟩;try replace hu:=zbi hu
 rw [hu];refine zag ?_;refine br (λhlt=>?_) (λhge=>?_)
 · have hk1:k<l.length:=by omega
   refine zdh u23 ty3 hk1 ?_;rw [Nat.mul_one];refine zaA ty3 h1 (zuM hk1) ?_;refine zjx u23 ?_;refine zb0 ?_;refine br (λhge=>?_) (λhlt2=>?_)
   · refine ⟨rfl,?_⟩
     have e0:m.drop k=[]:=List.drop_eq_nil_of_le (by omega);rw [hc,List.drop_eq_getElem_cons hk1,e0];rfl
   have hk2:k<m.length:=by omega
   refine zdh u23 ty3 hk2 ?_;rw [Nat.mul_one];refine zaA ty3 h2 (zuM hk2) ?_;refine compareI_ok.mono ?_;rintro _ _ ⟨rfl,rfl⟩;have hst:=zr6 hk1 hk2;refine zaB ?_;refine br (λhne=>?_) (λheq=>?_)
   · exact ⟨rfl,by rw [hc,hst,if_pos hne]⟩
   refine zas ?_;exact ⟨mk-1,by omega,k+1,by omega,rfl,rfl,by omega,by rw [hc,hst,if_neg heq]⟩
 have hk:k=l.length:=by omega
 subst hk;refine zjx u23 ?_;refine zjx u23 ?_;refine zag ?_;rw [List.drop_length] at hc;refine br (λhlt2=>⟨rfl,?_⟩) (λhge2=>⟨rfl,?_⟩)
 · rw [hc,List.drop_eq_getElem_cons (by omega)];rfl
 rw [hc,List.drop_eq_nil_of_le (by omega)];rfl
section
variable {P:Program} {w:World} {K:Value→World→Prop}
theorem zlG {t:TypeId} {cs:Array Value} (k:K (.pointer (some ⟨w.heap.size,0,none⟩)) (w.alloc (.cells cs t))):OP P (Instr.box t (.agg cs)) w K:=
 ⟨_,w.alloc (.cells cs t),by simp [Instr.box,newVar,newRow,Value.cells],k⟩
theorem zf1 {t e:TypeId} {by_:Nat} {x y z:Int} (ht:P.underlying t=some (.slice e)) (he:tyI P e=some (1,by_,false)) (hz:zcz P e=some [.int .i64 0])
   (k:K (.slice (some ⟨w.heap.size,0,none⟩) 3 3) (w.alloc (.cells (vI [x,y,z]).toArray e))):OP P (Instr.buildSlice t 3 #[(0,.int .i64 x),(1,.int .i64 y),(2,.int .i64 z)]) w K:=by
 unfold zcz at hz;cases hi:P.info? e with
 | none=>simp [hi] at hz
 | some i=>
   simp only [hi] at hz;obtain ⟨v,hv,hvc⟩:=Option.map_eq_some_iff.1 hz;refine ⟨_,w.alloc (.cells (vI [x,y,z]).toArray e),?_,k⟩;have hvc':v.cells=#[.int .i64 0]:=Array.ext' (by simpa using hvc);have e1:∀ n:Int,(Value.int .i64 n).cells=#[.int .i64 n]:=λ_=>rfl;simp only [Instr.buildSlice,Sem.run_bind,run_underlying ht,Result.andThen_ok,za2 he];have e2:Array.range 3=#[0,1,2]:=by decide
   simp [zeroValue,typeInfo,hi,hv,newRow,Instr.fill,hvc',vI,e1,e2]
end
def i3 (a b c:Int):Array Value:=#[.int .i64 a,.int .i64 b,.int .i64 c]
def zgx (w w':World):Prop:=∃ q os,w'=Go.Sort.grow (w.drewN q) os
theorem zia {w:World} (o1 o2 o3 o4:Obj):zgx w ((((w.alloc o1).alloc o2).alloc o3).alloc o4):=
 ⟨0,#[o1]++#[o2]++#[o3]++#[o4],by
   rw [Go.Sort.alloc_eq_grow,Go.Sort.alloc_eq_grow,Go.Sort.alloc_eq_grow,Go.Sort.alloc_eq_grow,Go.Sort.grow_grow,Go.Sort.grow_grow,Go.Sort.grow_grow];rfl⟩
def zjz (x:DRace):List Int:=[x.g,x.a,x.b]
def ztS (x y:DRace):Int:=zr5 (zjz x) (zjz y)
theorem zjA {w:World} {x y:DRace}:CALL tp 165 [.agg (i3 x.g x.a x.b),.agg (i3 y.g y.a y.b)] w λr w'=>r=.int .i64 (ztS x y)∧zgx w w':=by
 refine F165_call ?_;unfold F165;refine zlG ?_;have hB1:Blk w.heap.size 79 (w.alloc (.cells (i3 x.g x.a x.b) 79)) (vI (zjz x)):=heap_alloc_new w _;refine zlG ?_;generalize hw1:w.alloc (.cells (i3 x.g x.a x.b) 79)=w1 at *;have hB2:Blk w1.heap.size 79 (w1.alloc (.cells (i3 y.g y.a y.b) 79)) (vI (zjz y)):=heap_alloc_new w1 _;have hx2:=zaV w1 (.cells (i3 y.g y.a y.b) 79);generalize hw2:w1.alloc (.cells (i3 y.g y.a y.b) 79)=w2 at *;have hB12:=hB1.ext hx2;refine zab zgc ?_;refine zaA ty3 hB12 rfl ?_;refine zab zfw ?_;refine zaA ty3 hB12 rfl ?_;refine zab zgU ?_;refine zaA ty3 hB12 rfl ?_;refine zf1 u23 ty3 zwP ?_;have hx3:=zaV w2 (.cells (vI [x.g,x.a,x.b]).toArray 3);have hB3:Blk w2.heap.size 3 (w2.alloc (.cells (vI [x.g,x.a,x.b]).toArray 3)) (vI (zjz x)):=heap_alloc_new w2 _;generalize hw3:w2.alloc (.cells (vI [x.g,x.a,x.b]).toArray 3)=w3 at *;have hB23:=hB2.ext hx3;refine zab zgc ?_;refine zaA ty3 hB23 rfl ?_;refine zab zfw ?_;refine zaA ty3 hB23 rfl ?_;refine zab zgU ?_;refine zaA ty3 hB23 rfl ?_;refine zf1 u23 ty3 zwP ?_;have hx4:=zaV w3 (.cells (vI [y.g,y.a,y.b]).toArray 3);have hB4:Blk w3.heap.size 3 (w3.alloc (.cells (vI [y.g,y.a,y.b]).toArray 3)) (vI (zjz y)):=heap_alloc_new w3 _;have hg:zgx w (w3.alloc (.cells (vI [y.g,y.a,y.b]).toArray 3)):=by rw [←hw3,←hw2,←hw1];exact zia _ _ _ _
 refine (zjy (l:=zjz x) (m:=zjz y) (hB3.ext hx4) hB4 (by simp [zjz]) (by simp [zjz])).mono ?_;rintro _ _ ⟨rfl,rfl⟩;exact ⟨rfl,hg⟩
def ltR (x y:DRace):Prop:=x.g<y.g∨(x.g=y.g∧(x.a<y.a∨(x.a=y.a∧x.b<y.b)))
theorem zhP {x y:Int} (h:x<y):zpm x y=-1:=by rw [zpm,if_pos h]
theorem zhQ {x y:Int} (h:y<x):zpm x y=1:=by rw [zpm,if_neg (by omega),if_pos h]
theorem zhR {x y:Int} (h:x=y):zpm x y=0:=by rw [zpm,if_neg (by omega),if_neg (by omega)]
theorem zvw {x y:DRace}:ztS x y<0↔ltR x y:=by
 unfold ztS zjz ltR;simp only [zr5];rcases Int.lt_trichotomy x.g y.g with h | h | h
 · rw [zhP h];simp;omega
 · rw [zhR h]
   rcases Int.lt_trichotomy x.a y.a with h2 | h2 | h2
   · rw [zhP h2];simp;omega
   · rw [zhR h2]
     rcases Int.lt_trichotomy x.b y.b with h3 | h3 | h3
     · rw [zhP h3];simp;omega
     · rw [zhR h3];simp;omega
     rw [zhQ h3];simp;omega
   rw [zhQ h2];simp;omega
 rw [zhQ h];simp;omega
end Go.Proofs.YtifonhplnmpgaaaGreat
namespace Go.Sh
open Rep (rep)
section
variable {P:Program} {w:World} {α:Type} [Rep α] [Flat α] {b o n cap k:Nat} {l:List α}
theorem zda {F:List Nat} {v:Value} (hm:Mine F w v l) (hl:l≠[]):∃ b o cap xs,v=.slice (some ⟨b,o,none⟩) l.length cap∧F=[b]∧l.length≤cap∧cap≤maxLen∧Cells [] w xs l∧w.rangeAt b o xs∧(∃ c e,w.heap[b]?=some (.cells c e (0,0))):=by
 obtain ⟨⟨cs,⟨a,cap,Fi,xs,rfl,h1,h2,hc,h4⟩,rfl⟩,hn,hw⟩:=hm;rcases h4 with ⟨h4,_⟩ | ⟨b,o,rfl,rfl,hr,hb⟩
 · exact absurd h4 hl
 have hFi:=Cells.flat (xs:=xs) hc;subst hFi;exact ⟨b,o,cap,xs,rfl,rfl,h1,h2,hc,hr,hw b (by simp)⟩
theorem zfh {xs:List Value} (h1:l.length≤cap) (h2:cap≤maxLen) (hc:Cells [] w xs l) (hr:w.rangeAt b o xs) (hw:∃ c e,w.heap[b]?=some (.cells c e (0,0))):Mine [b] w (.slice (some ⟨b,o,none⟩) l.length cap) l:=
 ⟨⟨_,⟨some ⟨b,o,none⟩,cap,[],xs,rfl,h1,h2,hc,.inr ⟨b,o,rfl,rfl,hr,by obtain ⟨c,e,h⟩:=hw;exact (Array.getElem?_eq_some_iff.1 h).1⟩⟩,rfl⟩,by simp,λi hi=>by simp at hi;subst hi;exact hw⟩
theorem zr7 {t e:TypeId} {by_:Nat} {K:Value→Prop} (ht:P.underlying t=some (.slice e)) (he:tyI P e=some (Rep.size α,by_,Rep.agg α)) (hk:k≤n) (hn:n≤cap) (kk:K (.slice (some ⟨b,o,none⟩) k cap)) :
   RD P (Instr.sliceAt t (.slice (some ⟨b,o,none⟩) n cap) none (some (.int .i64 (k:Int))) none) w K:=by
 refine za7 (λw' _=>?_) kk
 have hbd:(Instr.sliceBounds true n cap none (some (.int .i64 (k:Int))) none).run P w'=.ok (0,k,cap) w':=by
   have h5:(k:Int)≤(cap:Int):=by omega
   simp [Instr.sliceBounds,Instr.sliceBound,asIntOf,h5];intro h6;omega
 simp only [Instr.sliceAt,Instr.slice,Sem.run_bind,run_underlying ht,Result.andThen_ok,hbd,za2 he];simp [Addr.add_mid]
theorem zpn {t e:TypeId} {by_:Nat} {K:Value→Prop} (ht:P.underlying t=some (.slice e)) (he:tyI P e=some (Rep.size α,by_,Rep.agg α)) (hk:k≤n) (hn:n≤cap) (kk:K (.slice (if cap=k then some ⟨b,o,none⟩ else some ⟨b,o+k*Rep.size α,none⟩) (n-k) (cap-k))) :
   RD P (Instr.sliceAt t (.slice (some ⟨b,o,none⟩) n cap) (some (.int .i64 (k:Int))) none none) w K:=by
 refine za7 (λw' _=>?_) kk
 have hb:(Instr.sliceBounds true n cap (some (.int .i64 (k:Int))) none none).run P w'=.ok (k,n,cap) w':=by
   have:(k:Int)≤(n:Int):=by omega
   simp [Instr.sliceBounds,Instr.sliceBound,asIntOf,this];try (intro h;omega)
 simp [Instr.sliceAt,Instr.slice,run_underlying ht,hb,za2 he,Addr.add_mid]
theorem zpo {t e:TypeId} {by_ j:Nat} {K:Value→Prop} (ht:P.underlying t=some (.slice e)) (he:tyI P e=some (Rep.size α,by_,Rep.agg α)) (hk:k≤j) (hn:j≤cap) {a:Option Addr} (kk:∀ a',(k≠0→a'=a)→K (.slice a' k j)) :
   RD P (Instr.sliceAt t (.slice a n cap) none (some (.int .i64 (k:Int))) (some (.int .i64 (j:Int)))) w K:=by
 have hb:∀ w',(Instr.sliceBounds true n cap none (some (.int .i64 (k:Int))) (some (.int .i64 (j:Int)))).run P w'=.ok (0,k,j) w':=λw'=>by
   have h1:(j:Int)≤(cap:Int):=by omega
   have h2:(k:Int)≤(j:Int):=by omega
   simp [Instr.sliceBounds,Instr.sliceBound,asIntOf,h1,h2];try (intro h;omega)
 have:∃ a',(∀ w',(Instr.sliceAt t (.slice a n cap) none (some (.int .i64 (k:Int))) (some (.int .i64 (j:Int)))).run P w'=.ok (.slice a' k j) w')∧(k≠0→a'=a):=by
   cases a with
   | none=>exact ⟨none,λw'=>by simp [Instr.sliceAt,Instr.slice,run_underlying ht,hb,za2 he],λ_=>rfl⟩
   | some a=>exact ⟨some a,λw'=>by simp [Instr.sliceAt,Instr.slice,run_underlying ht,hb,za2 he,Addr.add],λ_=>rfl⟩
 obtain ⟨a',h1,h2⟩:=this;exact za7 (λw' _=>h1 w') (kk a' h2)
theorem zr8 [RepZ α] {t e ty:TypeId} {K:Value→World→Prop} (ht:P.underlying t=some (.slice e)) (hz:zcz P e=some (RepZ.zc α)) (hm:Mine [b] w (.slice (some ⟨b,o,none⟩) n cap) l) (hl:l.length=n) (hk:k≤n) (hk0:0<k) (hn:n≤cap)
   (kk:∀ w',Chg [b] w w'→Mine [b] w' (.slice (some ⟨b,o,none⟩) k cap) (l.take k)→K (.tuple #[]) w') :
   OP P (Builtin.clear_ #[t] ty [Value.slice (if cap=k then some ⟨b,o,none⟩ else some ⟨b,o+k*Rep.size α,none⟩) (n-k) (cap-k)].toArray) w K:=by
 have hne:l≠[]:=λe=>by rw [e] at hl;simp at hl;omega
 obtain ⟨b',o',cap',xs,hv,hb',h1,h2,hc,hr,hw⟩:=zda hm hne;simp only [Value.slice.injEq,Option.some.injEq,Addr.mk.injEq] at hv;obtain ⟨⟨rfl,rfl,_⟩,hnl,rfl⟩:=hv;have htk:(l.take k).length=k:=by simp;omega
 have e0:l=l.take k++l.drop k:=by simp
 have hc':=hc;rw [e0] at hc';obtain ⟨F1,F2,x1,x2,hFF,rfl,c1,c2⟩:=Cells.split hc';obtain ⟨rfl,rfl⟩:=List.append_eq_nil_iff.1 hFF.symm;have hx1:x1.length=k*Rep.size α:=by rw [Cells.len c1,htk]
 have hr1:=(za1 hr).1;by_cases hnk:n=k
 · subst hnk
   refine ⟨.tuple #[],w,?_,kk w (Chg.refl _ _) ?_⟩
   · rw [Nat.sub_self]
     by_cases hck:cap=n
     · rw [if_pos hck];simp [Builtin.clear_,run_underlying ht]
     rw [if_neg hck];simp [Builtin.clear_,run_underlying ht]
   have:=zfh (l:=l.take n) (cap:=cap) (by omega) h2 c1 hr1 hw
   rwa [htk] at this
 have hck:¬cap=k:=by omega
 rw [if_neg hck];obtain ⟨c,e',he⟩:=hw;unfold zcz at hz;cases hi:P.info? e with
 | none=>simp [hi] at hz
 | some i=>
   simp only [hi] at hz;obtain ⟨z,hzz,hzc⟩:=Option.map_eq_some_iff.1 hz
   have hzl:z.cells.size=Rep.size α:=by
     rw [←Array.length_toList,hzc];exact Rep.len (RepZ.zr (α:=α) w)
   have hpos:=Rep.pos (α:=α);obtain ⟨m,hm'⟩:∃ m,n-k=m+1:=⟨n-k-1,by omega⟩;have hzs:(Builtin.zeroCells z.cells (n-k)).toList.length=(n-k)*Rep.size α:=by simp [Builtin.zeroCells,hzl]
   have hfit:o+(k*Rep.size α)+0+(Builtin.zeroCells z.cells (n-k)).toList.length≤c.size:=by
     rw [hzs];have hx:(x1++x2).length=n*Rep.size α:=by rw [Cells.len hc,hl]
     have hlast:=hr (n*Rep.size α-1) ((x1++x2)[n*Rep.size α-1]'(by rw [hx];have:=Nat.mul_pos (show 0<n by omega) hpos;omega)) (List.getElem?_eq_getElem _);simp only [World.cell?,he] at hlast;have:=(Array.getElem?_eq_some_iff.1 (by simpa using hlast)).1;have h3:(n-k)*Rep.size α+k*Rep.size α=n*Rep.size α:=by rw [←Nat.add_mul];congr 1;omega
     have h4:=Nat.mul_pos (show 0<n by omega) hpos;omega
   have hone:∀ v∈(Builtin.zeroCells z.cells (n-k)).toList,v.oneCell'=true:=λv hv=>by
     simp only [Builtin.zeroCells,Array.toList_map,Array.toList_range,List.mem_map,List.mem_range] at hv;obtain ⟨i,_,rfl⟩:=hv;have hlt:i%z.cells.size<z.cells.size:=Nat.mod_lt _ (by omega);have e3:z.cells[i%z.cells.size]! = z.cells[i%z.cells.size]'hlt:=by simp [hlt]
     rw [e3];refine Rep.one (RepZ.zr (α:=α) w) _ ?_;rw [←hzc];exact Array.getElem_mem_toList hlt
   have hst:=run_storeCells_at (P:=P) b (o+k*Rep.size α) e' (Builtin.zeroCells z.cells (n-k)).toList 0 c w he hfit hone;simp only [Nat.add_zero] at hst;refine ⟨.tuple #[],_,?_,kk _ (zc1 w b (c.toList.take (o+k*Rep.size α)++(Builtin.zeroCells z.cells (n-k)).toList++c.toList.drop (o+k*Rep.size α+(Builtin.zeroCells z.cells (n-k)).toList.length)).toArray) ?_⟩
   · rw [hm'] at hst ⊢
     simp [Builtin.clear_,run_underlying ht,zeroValue,typeInfo,hi,hzz,hst]
   have hB:=setRow_heap w b c (c.toList.take (o+k*Rep.size α)++(Builtin.zeroCells z.cells (n-k)).toList++c.toList.drop (o+k*Rep.size α+(Builtin.zeroCells z.cells (n-k)).toList.length)).toArray e' _ he;have:=zfh (w:=w.setRow b (c.toList.take (o+k*Rep.size α)++(Builtin.zeroCells z.cells (n-k)).toList++c.toList.drop (o+k*Rep.size α+(Builtin.zeroCells z.cells (n-k)).toList.length)).toArray) (b:=b) (o:=o) (l:=l.take k) (cap:=cap) (xs:=x1) (by omega) h2 (c1.keep (by simp)) (λj v hv=>?_) ⟨_,_,hB⟩
   · rwa [htk] at this
   have hj:=(List.getElem?_eq_some_iff.1 hv).1;rw [hx1] at hj;have h5:=hr1 j v hv;simp only [World.cell?,he] at h5;have h6:c[o+j]?=some v:=by simpa using h5
   simp only [World.cell?,hB];simp only [Option.isSome_none,Bool.false_eq_true,if_false,List.getElem?_toArray];rw [List.append_assoc,List.getElem?_append_left (by simp;have:=(Array.getElem?_eq_some_iff.1 h6).1;omega),List.getElem?_take,if_pos (by omega)];simpa using h6
end
end Go.Sh
namespace Go.Proofs.YtifonhplnmpgaaaGreat
open Go Go.Sh Go.Proofs Go.Sort
open Rep (rep)
def F89 (a0 a1:Value) (w:World) (R:VW):Prop:=
 oX 104 a0 w λx2 w=>
 oX 104 a1 w λx3 w=>
 rF 104 x2 0 w λx5=>
 rL 3 x5 w λx6=>
 rF 104 x2 1 w λx7=>
 rL 3 x7 w λx8=>
 rF 104 x2 2 w λx9=>
 rL 3 x9 w λx10=>
 oP (Instr.buildSlice 23 3 #[(0,x6),(1,x8),(2,x10)]) w λx11 w=>
 rF 104 x3 0 w λx12=>
 rL 3 x12 w λx13=>
 rF 104 x3 1 w λx14=>
 rL 3 x14 w λx15=>
 rF 104 x3 2 w λx16=>
 rL 3 x16 w λx17=>
 oP (Instr.buildSlice 23 3 #[(0,x13),(1,x15),(2,x17)]) w λx18 w=>
 cL 90 [x11,x18] w λx19 w=>
 R x19 w
theorem F89_call {a0 a1 w R} (h:F89 a0 a1 w R):cL 89 [a0,a1] w R:=co (g:=(kf [] [] [])) Tryz.func89 h
open Rep (rep)
structure DOrder where
 fr:Int
 to:Int
 at_:Int
theorem DOrder.ext_iff {x y:DOrder}:x=y↔(x.fr=y.fr∧x.to=y.to∧x.at_=y.at_):=⟨λh=>by rw [h];exact ⟨rfl,rfl,rfl⟩,λh=>by obtain ⟨h0,h1,h2⟩:=h;cases x;cases y;simp only at h0 h1 h2;simp only [h0,h1,h2]⟩
instance:DecidableEq DOrder:=λx y=>decidable_of_iff (x.fr=y.fr∧x.to=y.to∧x.at_=y.at_) DOrder.ext_iff.symm
instance:Rep DOrder:=Rep.via λx=>(x.fr,x.to,x.at_)
theorem zjB {w:World} {b o:Nat} {x:DOrder} (h:At w b o x):At w b (o+0) x.fr:=zcQ (α:=Int) (β:=Int×Int) (p:=(x.fr,x.to,x.at_)) h
theorem zjC {w:World} {b o:Nat} {x:DOrder} (h:At w b o x):At w b (o+1) x.to:=zcQ (α:=Int) (β:=Int) (p:=(x.to,x.at_)) (zbp (α:=Int) (β:=Int×Int) (p:=(x.fr,x.to,x.at_)) h)
instance:RepZ DOrder:=⟨⟨(RepZ.zv:Int),(RepZ.zv:Int),(RepZ.zv:Int)⟩,RepZ.zc (Int×Int×Int),λw=>RepZ.zr (α:=Int×Int×Int) w⟩
instance:Flat DOrder:=⟨λh=>Flat.flat (α:=Int×Int×Int) h⟩
def zr9 (x:DOrder):List Int:=[x.fr,x.to,x.at_]
def ztT (x y:DOrder):Int:=zr5 (zr9 x) (zr9 y)
theorem zsa {w:World} {x y:DOrder}:CALL tp 89 [.agg (i3 x.fr x.to x.at_),.agg (i3 y.fr y.to y.at_)] w λr w'=>r=.int .i64 (ztT x y)∧zgx w w':=by
 refine F89_call ?_;unfold F89;refine zlG ?_;have hB1:Blk w.heap.size 104 (w.alloc (.cells (i3 x.fr x.to x.at_) 104)) (vI (zr9 x)):=heap_alloc_new w _;refine zlG ?_;generalize hw1:w.alloc (.cells (i3 x.fr x.to x.at_) 104)=w1 at *;have hB2:Blk w1.heap.size 104 (w1.alloc (.cells (i3 y.fr y.to y.at_) 104)) (vI (zr9 y)):=heap_alloc_new w1 _;have hx2:=zaV w1 (.cells (i3 y.fr y.to y.at_) 104);generalize hw2:w1.alloc (.cells (i3 y.fr y.to y.at_) 104)=w2 at *;have hB12:=hB1.ext hx2;refine zab zk3 ?_;refine zaA ty3 hB12 rfl ?_;refine zab zk4 ?_;refine zaA ty3 hB12 rfl ?_;refine zab zrf ?_;refine zaA ty3 hB12 rfl ?_;refine zf1 u23 ty3 zwP ?_;have hx3:=zaV w2 (.cells (vI [x.fr,x.to,x.at_]).toArray 3);have hB3:Blk w2.heap.size 3 (w2.alloc (.cells (vI [x.fr,x.to,x.at_]).toArray 3)) (vI (zr9 x)):=heap_alloc_new w2 _;generalize hw3:w2.alloc (.cells (vI [x.fr,x.to,x.at_]).toArray 3)=w3 at *;have hB23:=hB2.ext hx3;refine zab zk3 ?_;refine zaA ty3 hB23 rfl ?_;refine zab zk4 ?_;refine zaA ty3 hB23 rfl ?_;refine zab zrf ?_;refine zaA ty3 hB23 rfl ?_;refine zf1 u23 ty3 zwP ?_;have hx4:=zaV w3 (.cells (vI [y.fr,y.to,y.at_]).toArray 3);have hB4:Blk w3.heap.size 3 (w3.alloc (.cells (vI [y.fr,y.to,y.at_]).toArray 3)) (vI (zr9 y)):=heap_alloc_new w3 _;have hg:zgx w (w3.alloc (.cells (vI [y.fr,y.to,y.at_]).toArray 3)):=by rw [←hw3,←hw2,←hw1];exact zia _ _ _ _
 refine (zjy (l:=zr9 x) (m:=zr9 y) (hB3.ext hx4) hB4 (by simp [zr9]) (by simp [zr9])).mono ?_;rintro _ _ ⟨rfl,rfl⟩;exact ⟨rfl,hg⟩
def ltO (x y:DOrder):Prop:=x.fr<y.fr∨(x.fr=y.fr∧(x.to<y.to∨(x.to=y.to∧x.at_<y.at_)))
theorem zvx {x y:DOrder}:ztT x y<0↔ltO x y:=by
 unfold ztT zr9 ltO;simp only [zr5];rcases Int.lt_trichotomy x.fr y.fr with h | h | h
 · rw [zhP h];simp;omega
 · rw [zhR h]
   rcases Int.lt_trichotomy x.to y.to with h2 | h2 | h2
   · rw [zhP h2];simp;omega
   · rw [zhR h2]
     rcases Int.lt_trichotomy x.at_ y.at_ with h3 | h3 | h3
     · rw [zhP h3];simp;omega
     · rw [zhR h3];simp;omega
     rw [zhQ h3];simp;omega
   rw [zhQ h2];simp;omega
 rw [zhQ h];simp;omega
instance (x y:DOrder):Decidable (ltO x y):=by unfold ltO;infer_instance
theorem zf2 (x:DOrder):¬ltO x x:=by unfold ltO;omega
theorem zmW {x y z:DOrder} (h:ltO x y) (k:ltO y z):ltO x z:=by unfold ltO at *;omega
theorem zmX {x y:DOrder} (h:¬ltO x y) (k:¬ltO y x):x=y:=by
 unfold ltO at *;exact DOrder.ext_iff.2 ⟨by omega,by omega,by omega⟩
theorem zjD:∀ {l m:List DOrder},l.Pairwise ltO→m.Pairwise ltO→(∀ x,x∈l↔x∈m)→l=m
 | [],[],_,_,_=>rfl
 | [],y :: m,_,_,h=>by have:=(h y).2 (by simp);cases this
 | x :: l,[],_,_,h=>by have:=(h x).1 (by simp);cases this
 | x :: l,y :: m,h1,h2,h=>by
   rw [List.pairwise_cons] at h1 h2
   have hxy:x=y:=by
     rcases List.mem_cons.1 ((h x).1 (by simp)) with e | hm
     · exact e
     rcases List.mem_cons.1 ((h y).2 (by simp)) with e | hl
     · exact e.symm
     exact absurd (zmW (h1.1 y hl) (h2.1 x hm)) (zf2 x)
   subst hxy;congr 1;refine zjD h1.2 h2.2 λz=>⟨λhz=>?_,λhz=>?_⟩
   · rcases List.mem_cons.1 ((h z).1 (by simp [hz])) with rfl | h'
     · exact absurd (h1.1 z hz) (zf2 z)
     exact h'
   rcases List.mem_cons.1 ((h z).2 (by simp [hz])) with rfl | h'
   · exact absurd (h2.1 z hz) (zf2 z)
   exact h'
instance:Inhabited DOrder:=⟨⟨0,0,0⟩⟩
def zv7 (x:DOrder):List Value:=[.int .i64 x.fr,.int .i64 x.to,.int .i64 x.at_]
theorem ztU:∀ {F:List Nat} {w:World} {cs:List Value} {x:DOrder},Rep.rep F w cs x→cs=zv7 x:=by
 intro F w cs x h;obtain ⟨F1,F2,c1,c2,rfl,rfl,⟨rfl,rfl,_⟩,⟨F3,F4,c3,c4,rfl,rfl,⟨rfl,rfl,_⟩,⟨rfl,rfl,_⟩⟩⟩:=h;rfl
theorem zej {x y:DOrder}:ltOf ztT x y=decide (ltO x y):=by
 unfold ltOf;rw [decide_eq_decide];exact zvx
theorem zvy:SWO (ltOf ztT):=by
 refine ⟨λx=>?_,λx y z h k=>?_,λx y z h k=>?_⟩
 · rw [zej,decide_eq_false_iff_not];exact zf2 x
 · rw [zej,decide_eq_true_eq] at *;exact zmW h k
 rw [zej,decide_eq_false_iff_not] at *;intro hc;unfold ltO at *;omega
def zvz (l:List DOrder):List DOrder:=l.mergeSort λx y=>!(ltOf ztT) y x
theorem zjE (l:List DOrder):(zvz l).Perm l:=List.mergeSort_perm l _
theorem ztV (l:List DOrder):(zvz l).length=l.length:=(zjE l).length_eq
theorem zvA (l:List DOrder):(zvz l).Pairwise λx y=>¬ltO y x:=by
 have:=List.pairwise_mergeSort (le:=λx y=>!(ltOf ztT) y x) (λa b c h1 h2=>by
   simp only [zej,Bool.not_eq_true',decide_eq_false_iff_not] at *;unfold ltO at *;omega) (λa b=>by
   simp only [zej,Bool.or_eq_true,Bool.not_eq_true',decide_eq_false_iff_not];unfold ltO;omega) l
 exact this.imp λh=>by simpa [zej] using h
theorem ztW {w:World} {lo hi:Nat} {v:Value} {l:List DOrder} (h:OwnI lo hi w v l) (hn:l.length≤1073741824) :
   CALL tp 88 [v,.func (.func 89) #[] #[]] w λr w'=>ChgI lo hi w w'∧OwnI lo hi w' v (zvz l):=by
 obtain ⟨F,hM,hF⟩:=h;by_cases hne:l=[]
 · subst hne
   obtain ⟨a,cap,hv⟩:∃ a cap,v=.slice a 0 cap:=by
     obtain ⟨cs,⟨a,cap,G,xs,h,_⟩,hv⟩:=hM.own;exact ⟨a,cap,by rw [hv,h];rfl⟩
   subst hv;refine ⟨(AnyF.slices_SortFunc_none Tryz.sortOrder a cap _ w).mono ?_⟩;rintro e w' ⟨he,rfl⟩;refine ⟨_,he,ChgI.refl _,F,?_,hF⟩;have:zvz []=[]:=List.eq_nil_of_length_eq_zero (by rw [ztV];rfl);rw [this];exact hM
 obtain ⟨b,o,cap,xs,rfl,rfl,h1,h2,hcc,hrr,hww⟩:=zda hM hne;have henc:=@ztU;have hk:∀ x,(zv7 x).length=Rep.size DOrder:=λ_=>rfl;obtain ⟨c,e,hbe⟩:=hww;have hb:b<w.heap.size:=(Array.getElem?_eq_some_iff.1 hbe).1
 have hcmp:CmpLays tp 89 #[] zv7 3 ztT b o l.toArray.size w:=λm os dk _ x y=>by
   have:=zsa (w:=sortWorldK zv7 3 w b o m dk os) (x:=x) (y:=y);obtain ⟨h⟩:=this;refine h.mono ?_;rintro e w' ⟨v,he,hv,q,os',hw'⟩;exact ⟨by rw [he,hv],q,os',hw'⟩
 refine ⟨(AnyQ.slices_SortFunc_total Tryz.sortOrder 3 Tryz.isAgg104 Tryz.sizeOf104 zv7 (λ_=>rfl) (λx v hv=>by
     simp only [zv7,List.mem_cons,List.not_mem_nil,or_false] at hv;rcases hv with rfl | rfl | rfl<;>rfl) ztT zvy 89 #[] b o cap l.toArray w (zdK (ent 89 (by decide) (by kernel_rfl))) hcmp (zjv henc hk ⟨c,e,hbe⟩ hcc hrr) hb (by simp;omega) (λx y h k=>by
     rw [zej,decide_eq_false_iff_not] at *;exact zmX h k)).mono ?_⟩
 rintro ex w' ⟨he,n,os,hw'⟩;have hs:=zjw henc hk (cap:=cap) hw' ⟨c,e,hbe⟩ hcc hrr h1 h2 (by simp) (λx hx=>by simpa [List.mem_mergeSort] using hx);refine ⟨_,he,?_,[b],?_,hF⟩
 · exact hs.1.toI (λi hi=>hF i hi)
 exact hs.2
set_option maxRecDepth 20000 in
theorem zek {w w0 w1:World} {K:Value→Prop} {x y:Operand} {v1 v2:Value} {a b:DRace} (h1:Is w0 v1 a) (h2:Is w1 v2 b) (k:K (.bool (decide (a=b)))):RD tp (bin .eql 79 x y v1 v2) w K:=by
  obtain ⟨rfl,_⟩:=ziX.1 h1;obtain ⟨rfl,_⟩:=ziX.1 h2;refine za7 (λw' _=>?_) k;have hg:tp.eqGuardType tp.depth 79=false:=by kernel_rfl
  have e0:∀ xs ys w,(eqGuard .eql 79 x y (.agg xs) (.agg ys)).run tp w=.ok () w:=λxs ys w=>run_eqGuard_agg (P:=tp) w .eql 79 x y xs ys hg;have e1:∀ xs ys w,(Op.equalIn 10000 79 (.agg xs) (.agg ys)).run tp w=(Op.eqFields 9999 xs ys (tp.fieldsOf 79).toList).run tp w:=λxs ys w=>run_equalIn_struct w 9999 79 xs ys (by kernel_rfl) (by kernel_rfl);have e2:(tp.fieldsOf 79).toList.map (λf=>(f.name,f.type,f.offset))=[("Global", 3,0),("A", 3,1),("B", 3,2)]:=by kernel_rfl
  have e3:∀ (c d:Int) (w:World),(Op.equalIn 9999 3 (.int .i64 c) (.int .i64 d)).run tp w=.ok (c == d) w:=λc d w=>run_equalIn_int w 9998 3 .i64 .i64 c d u3;have hd:(a=b)↔(a.g=b.g∧a.a=b.a∧a.b=b.b):=⟨λe=>by rw [e];exact ⟨rfl,rfl,rfl⟩,λ⟨x,y,z⟩=>by cases a;cases b;simp only at x y z;rw [x,y,z]⟩;generalize hF:(tp.fieldsOf 79).toList=fs at e1 e2
  match fs,e2 with
  | [f0,f1,f2],e2=>
    simp only [List.map_cons,List.map_nil,List.cons.injEq,Prod.mk.injEq,and_true] at e2;obtain ⟨⟨n0,t0,o0⟩,⟨n1,t1,o1⟩,⟨n2,t2,o2⟩⟩:=e2;have p0:∀ (a b c:Value) (w:World),(part 3 #[a,b,c] 0).run tp w=.ok a w:=λa b c w=>by simp [part,zb6 ty3]
    have p1:∀ (a b c:Value) (w:World),(part 3 #[a,b,c] 1).run tp w=.ok b w:=λa b c w=>by simp [part,zb6 ty3]
    have p2:∀ (a b c:Value) (w:World),(part 3 #[a,b,c] 2).run tp w=.ok c w:=λa b c w=>by simp [part,zb6 ty3]
    simp only [bin,Sem.run_bind,e0,Result.andThen_ok,run_eql_struct,e1,Op.eqFields,n0,n1,n2,t0,t1,t2,o0,o1,o2];simp only [ne_eq,String.reduceEq,not_false_eq_true,if_true,Sem.run_bind,p0,p1,p2,Result.andThen_ok,e3,Sem.run_ite,Sem.run_pure,hd];by_cases x0:a.g=b.g<;>by_cases x1:a.a=b.a<;>by_cases x2:a.b=b.b<;>simp [x0,x1,x2]
set_option maxRecDepth 20000 in
theorem zn9 {w w0 w1:World} {K:Value→Prop} {x y:Operand} {v1 v2:Value} {a b:DRace} (h1:Is w0 v1 a) (h2:Is w1 v2 b) (k:K (.bool (decide (a≠b)))):RD tp (bin .neq 79 x y v1 v2) w K:=by
  obtain ⟨rfl,_⟩:=ziX.1 h1;obtain ⟨rfl,_⟩:=ziX.1 h2;refine za7 (λw' _=>?_) k;have hg:tp.eqGuardType tp.depth 79=false:=by kernel_rfl
  have e0:∀ xs ys w,(eqGuard .neq 79 x y (.agg xs) (.agg ys)).run tp w=.ok () w:=λxs ys w=>run_eqGuard_agg (P:=tp) w .neq 79 x y xs ys hg;have e1:∀ xs ys w,(Op.equalIn 10000 79 (.agg xs) (.agg ys)).run tp w=(Op.eqFields 9999 xs ys (tp.fieldsOf 79).toList).run tp w:=λxs ys w=>run_equalIn_struct w 9999 79 xs ys (by kernel_rfl) (by kernel_rfl);have e2:(tp.fieldsOf 79).toList.map (λf=>(f.name,f.type,f.offset))=[("Global", 3,0),("A", 3,1),("B", 3,2)]:=by kernel_rfl
  have e3:∀ (c d:Int) (w:World),(Op.equalIn 9999 3 (.int .i64 c) (.int .i64 d)).run tp w=.ok (c == d) w:=λc d w=>run_equalIn_int w 9998 3 .i64 .i64 c d u3;have hd:(a=b)↔(a.g=b.g∧a.a=b.a∧a.b=b.b):=⟨λe=>by rw [e];exact ⟨rfl,rfl,rfl⟩,λ⟨x,y,z⟩=>by cases a;cases b;simp only at x y z;rw [x,y,z]⟩;generalize hF:(tp.fieldsOf 79).toList=fs at e1 e2
  match fs,e2 with
  | [f0,f1,f2],e2=>
    simp only [List.map_cons,List.map_nil,List.cons.injEq,Prod.mk.injEq,and_true] at e2;obtain ⟨⟨n0,t0,o0⟩,⟨n1,t1,o1⟩,⟨n2,t2,o2⟩⟩:=e2;have p0:∀ (a b c:Value) (w:World),(part 3 #[a,b,c] 0).run tp w=.ok a w:=λa b c w=>by simp [part,zb6 ty3]
    have p1:∀ (a b c:Value) (w:World),(part 3 #[a,b,c] 1).run tp w=.ok b w:=λa b c w=>by simp [part,zb6 ty3]
    have p2:∀ (a b c:Value) (w:World),(part 3 #[a,b,c] 2).run tp w=.ok c w:=λa b c w=>by simp [part,zb6 ty3]
    simp only [bin,Sem.run_bind,e0,Result.andThen_ok,run_neq_struct,e1,Op.eqFields,n0,n1,n2,t0,t1,t2,o0,o1,o2];simp only [ne_eq,String.reduceEq,not_false_eq_true,if_true,Sem.run_bind,p0,p1,p2,Result.andThen_ok,e3,Sem.run_ite,Sem.run_pure,hd];by_cases x0:a.g=b.g<;>by_cases x1:a.a=b.a<;>by_cases x2:a.b=b.b<;>simp [x0,x1,x2,hd]
def F167 (a0:Value) (w:World) (R:VW):Prop:=
 rN 43 3 a0 w λx7=>
 rB .lss 3 T0 U0 x7 (iV 2) w λx8=>
 BR x8
 (R a0 w)
 (LOOPI [3] [(iV 1)] w λu4 w n4=>
 rN 43 3 a0 w λx12=>
 rC (u4 3) x12 w λx13=>
 BR x13
 ((λw=>rX 43 a0 (u4 3) w λx18=>
 rL 79 x18 w λx19=>
 rB .sub 3 T0 U0 (u4 3) (iV 1) w λx22=>
 rX 43 a0 x22 w λx23=>
 rL 79 x23 w λx24=>
 rB .eql 79 T0 T0 x19 x24 w λx25=>
 BR x25
 (rD (Instr.sliceAt 43 a0 (some (u4 3)) none none) w λx28=>
 LOOPI [3,5] [(u4 3),(iV 1)] w λu9 w n9=>
 rN 43 3 x28 w λx31=>
 rC (u9 5) x31 w λx32=>
 BR x32
 ((λw=>rX 43 x28 (u9 5) w λx37=>
 rL 79 x37 w λx38=>
 rB .sub 3 T0 U0 (u9 5) (iV 1) w λx41=>
 rX 43 x28 x41 w λx42=>
 rL 79 x42 w λx43=>
 rB .neq 79 T0 T0 x38 x43 w λx44=>
 BR x44
 (rX 43 x28 (u9 5) w λx49=>
 rL 79 x49 w λx50=>
 rX 43 a0 (u9 3) w λx51=>
 oS 79 x51 x50 w λw=>
 rI (u9 3) w λx53=>
 rI (u9 5) w λx34=>
 n9 [x53,x34] w)
 (rI (u9 5) w λx34=>
 n9 [(u9 3),x34] w)) (World.drew1 w))
 (rD (Instr.sliceAt 43 a0 (some (u9 3)) none none) w λx56=>
 oP (Builtin.clear_ #[43] 0 [x56].toArray) w λ_ w=>
 rD (Instr.sliceAt 43 a0 none (some (u9 3)) none) w λx59=>
 R x59 w))
 (rI (u4 3) w λx15=>
 n4 [x15] w)) (World.drew1 w))
 (R a0 w))
theorem F167_call {a0 w R} (h:F167 a0 w R):cL 167 [a0] w R:=co (g:=(kf [] [(4,1152921504606846012,[3]),(9,18014397972611112,[3,5])] [(6,[0,1,2,3,4,5,6,7,8,9],0),(11,[0,1,2,3,4,5,6,7,8,9],0)])) Tryz.func167 h
def F163 (a0:Value) (w:World) (R:VW):Prop:=
 rB .eql 43 T0 U0 a0 (Value.slice none 0 0) w λx4=>
 BR x4
 (R (Value.slice none 0 0) w)
 (oP (Instr.buildSlice 43 0 #[]) w λx5 w=>
 oP (aP 43 x5 a0) w λx7 w=>
 R x7 w)
theorem F163_call {a0 w R} (h:F163 a0 w R):cL 163 [a0] w R:=co (g:=(kf [] [] [])) Tryz.func163 h
def F166 (a0:Value) (w:World) (R:VW):Prop:=
 rN 43 3 a0 w λx5=>
 rN 43 3 a0 w λx7=>
 rD (Instr.sliceAt 43 a0 none (some x5) (some x7)) w λx8=>
 R x8 w
theorem F166_call {a0 w R} (h:F166 a0 w R):cL 166 [a0] w R:=co (g:=(kf [] [] [])) Tryz.func166 h
theorem zoa {P:Program} {w:World} {t e:TypeId} {b a n cap sz by_ k:Nat} {ag:Bool} {u:Value} {K:Value→Prop} (ht:P.underlying t=some (.slice e)) (he:tyI P e=some (sz,by_,ag)) (hu:u=.slice (some ⟨b,a,none⟩) n cap) (hk:k<n) (kk:K (.pointer (some ⟨b,a+k*sz,none⟩))) :
   RD P (Instr.indexAt t u (.int .i64 (k:Int))) w K:=by
 subst hu;exact za7 (λw' _=>by rw [zc0 ht he (by omega) (by omega)];simp) kk
instance:Flat DRace:=⟨λh=>by obtain ⟨F1,F2,c1,c2,rfl,rfl,⟨rfl,_⟩,⟨F3,F4,c3,c4,rfl,rfl,⟨rfl,_⟩,⟨rfl,_⟩⟩⟩:=h;rfl⟩
section
variable {α:Type} [DecidableEq α]
def ddg (x:α):List α→List α
 | []=>[]
 | y :: l=>if y=x then ddg x l else y :: ddg y l
def ddp:List α→List α
 | []=>[]
 | x :: l=>x :: ddg x l
theorem zlH (y:α):∀ (l:List α) (x:α),ddg x (l++[y])=if y=l.getLastD x then ddg x l else ddg x l++[y]
 | [],x=>rfl
 | a :: l,x=>by
   rw [List.cons_append,ddg,ddg,List.getLastD_cons];by_cases h:a=x
   · rw [if_pos h,if_pos h,zlH y l x,h]
   rw [if_neg h,if_neg h,zlH y l a];split<;>rfl
theorem zlI {l:List α} {k:Nat} (h0:0<k) (hk:k<l.length):ddp (l.take (k+1))=if l[k]=l[k-1] then ddp (l.take k) else ddp (l.take k)++[l[k]]:=by
 rw [tk hk];cases l with
 | nil=>simp at hk
 | cons x l=>
   obtain ⟨j,rfl⟩:∃ j,k=j+1:=⟨k-1,by omega⟩;have hj:j<l.length:=by simpa using hk
   have e:(l.take j).getLastD x=(x :: l)[j+1-1]:=by
     rw [List.getLastD_eq_getLast?,List.getLast?_eq_getElem?,List.length_take,Nat.min_eq_left (by omega)];cases j with
     | zero=>simp
     | succ j=>simp [List.getElem?_take];rw [List.getElem?_eq_getElem (by omega)];rfl
   rw [List.take_succ_cons,List.cons_append,ddp,ddp,zlH,e];split<;>rfl
end
theorem zkD {w:World} {lo hi:Nat} {v:Value} {l:List DRace} (h:OwnI lo hi w v l) (hn:l.length≤1073741824) :
   CALL tp 167 [v] w λr w'=>ChgI lo hi w w'∧OwnI lo hi w' r (ddp l):=by
 obtain ⟨F,hM,hF⟩:=h;refine F167_call ?_;unfold F167;refine zae u43 hM.is ?_;refine zag ?_;refine br (λhlt=>?_) (λhge=>?_)
 · refine ⟨ChgI.refl w,F,?_,hF⟩
   have:ddp l=l:=by
     match l,hlt with
     | [],_=>rfl
     | [x],_=>rfl
     | _ :: _ :: _,h=>simp only [List.length_cons] at h;omega
   rw [this];exact hM
 have hne:l≠[]:=λe=>by rw [e] at hge;simp at hge
 obtain ⟨b,o,cap,xs,rfl,rfl,h1,h2,hcc,hrr,hww⟩:=zda hM hne;have hln:=hM.is;refine zam l.length (λk us w'=>us=[.int .i64 (k:Int)]∧Ext w w'∧1≤k∧k≤l.length∧ddp (l.take k)=l.take k) 1 (by omega) ⟨rfl,Ext.refl w,lr _,by omega,?_⟩ ?_
 · cases l with
   | nil=>exact absurd rfl hne
   | cons x l=>rfl
 rintro k0 mk u w1 hkm ⟨hu,hx1,hk1,hkl,hd0⟩;try replace hu:=zbi hu
 rw [hu];refine zae u43 hln ?_;refine zag ?_;refine br (λhlt=>?_) (λhge1=>?_)
 case refine_2=>
   have:k0=l.length:=by omega
   subst this;rw [List.take_length] at hd0;rw [hd0];exact ⟨hx1.toI,[b],hM.ext hx1,hF⟩
 have hk:k0<l.length:=by omega
 have hx2:=zaj w1;have hx12:=hx1.t hx2;generalize World.drew1 w1=w2 at *;refine zac u43 zbX hln hk λb1 o1 hA1=>?_;refine zaa zbX hA1 hx12 λv19 h19=>?_;refine zbd (by unfold I64;omega) ?_;rw [show ((k0:Int)-1)=((k0-1:Nat):Int) by omega];refine zac (i:=k0-1) u43 zbX hln (by omega) λb2 o2 hA2=>?_;refine zaa zbX hA2 hx12 λv24 h24=>?_;refine zek h19 h24 ?_;refine br (λheq=>?_) (λhneq=>?_)
 case refine_2=>refine zas ?_;refine ⟨mk-1,by omega,k0+1,by omega,rfl,hx12,by omega,by omega,?_⟩;rw [zlI (by omega) hk,if_neg hneq,hd0,←tk hk]
 refine zpn (α:=DRace) u43 zbX (by omega) h1 ?_;rw [if_neg (by omega)];have e3:Rep.size DRace=3:=rfl;rw [e3]
 refine zam (l.length-k0) (λk2 us w'=>∃ (k:Nat) (cur:List DRace),us=[.int .i64 (k:Int),.int .i64 (k2:Int)]∧Chg [b] w w'∧Mine [b] w' (.slice (some ⟨b,o,none⟩) l.length cap) cur∧cur.length=l.length∧1≤k2∧k2≤l.length-k0∧k0≤k∧k+1≤k0+k2 ∧
     cur.take k=ddp (l.take (k0+k2))∧∀ j,k≤j→cur[j]?=l[j]?) 1 (by omega)
   ⟨k0,l,rfl,hx12.chg _,hM.ext hx12,rfl,lr _,by omega,lr _,by omega,by rw [zlI (by omega) hk,if_pos heq,hd0],λ_ _=>rfl⟩ ?_
 rintro k2 mk2 u9 w3 hkm2 ⟨k,cur,hu9,hc3,hm3,hl3,hk21,hk22,hk0,hkk,htk,hrest⟩;obtain ⟨hu91,hu92⟩:=zbL hu9;rw [hu91,hu92];refine za7 (v:=.int .i64 ((l.length-k0:Nat):Int)) (λw' _=>by simp [Builtin.len_,run_underlying u43];rfl) ?_;refine zag ?_;refine br (λhlt2=>?_) (λhge2=>?_)
 · have hp:k0+k2<l.length:=by omega
   have hx4:=zaj w3;have hm4:=hm3.ext hx4;have hc4:=hc3.trans (hx4.chg _);generalize World.drew1 w3=w4 at *;have hcne:cur≠[]:=λe=>by rw [e] at hl3;simp at hl3;omega
   obtain ⟨b',o',cap',xs',hv',hb',_,_,hcc',hrr',hww'⟩:=zda hm4 hcne;simp only [Value.slice.injEq,Option.some.injEq,Addr.mk.injEq] at hv';obtain ⟨⟨rfl,rfl,_⟩,_,rfl⟩:=hv';have hat:∀ i (hi:i<cur.length),At w4 b (o+i*3) cur[i]:=λi hi=>hcc'.at hrr' hi
   have hget:∀ i (hi:i<l.length) (hki:k≤i),cur[i]'(by omega)=l[i]:=λi hi hki=>by
     have:=hrest i hki;rw [List.getElem?_eq_getElem (by omega),List.getElem?_eq_getElem hi] at this;exact Option.some.inj this
   have hA3:=hat (k0+k2) (by omega);have hA4:=hat (k0+k2-1) (by omega);rw [hget _ hp (by omega)] at hA3;rw [hget _ (by omega) (by omega)] at hA4;refine zoa (k:=k2) u43 zbX rfl (by omega) ?_;rw [show o+k0*3+k2*3=o+(k0+k2)*3 by omega];refine zaa zbX hA3 (Ext.refl _) λv38 h38=>?_;refine zbd (by unfold I64;omega) ?_;rw [show ((k2:Int)-1)=((k2-1:Nat):Int) by omega];refine zoa (k:=k2-1) u43 zbX rfl (by omega) ?_;rw [show o+k0*3+(k2-1)*3=o+(k0+k2-1)*3 by omega];refine zaa zbX hA4 (Ext.refl _) λv43 h43=>?_;refine zn9 h38 h43 ?_;have hdt:=zlI (l:=l) (k:=k0+k2) (by omega) hp;refine br (λhne2=>?_) (λheq2=>?_)
   · refine zoa (k:=k2) u43 zbX rfl (by omega) ?_
     rw [show o+k0*3+k2*3=o+(k0+k2)*3 by omega];refine zaa zbX hA3 (Ext.refl _) λv50 h50=>?_;obtain ⟨F5,cs5,hr5,hv5⟩:=h50;have hF5:=Flat.flat hr5;subst hF5;refine zoR (α:=DRace) u43 zbX hm4 (k:=k) (by omega) ⟨cs5,hr5,hv5⟩ λw5 hc5 hm5=>?_;refine zas ?_;refine zas ?_;refine ⟨mk2-1,by omega,k2+1,by omega,k+1,_,rfl,hc4.trans hc5,hm5,by simp [hl3],by omega,by omega,by omega,by omega,?_,λj hj=>?_⟩
     · rw [show k0+(k2+1)=k0+k2+1 by omega,hdt,if_neg hne2,←htk]
       rw [tk (by simp;omega),List.getElem_set_self,List.take_set_of_le (lr _)]
     rw [List.getElem?_set_ne (by omega)];exact hrest j (by omega)
   have heq2:=Decidable.not_not.1 heq2;refine zas ?_;refine ⟨mk2-1,by omega,k2+1,by omega,k,cur,rfl,hc4,hm4,hl3,by omega,by omega,hk0,by omega,?_,hrest⟩;rw [show k0+(k2+1)=k0+k2+1 by omega,hdt,if_pos heq2,htk]
 have hk2:k0+k2=l.length:=by omega
 rw [hk2,List.take_length] at htk;refine zpn (α:=DRace) u43 zbX (by omega) h1 ?_;refine zr8 (α:=DRace) u43 zwM hm3 hl3 (by omega) (by omega) h1 λw5 hc5 hm5=>?_;refine zr7 (α:=DRace) u43 zbX (by omega) h1 ?_;rw [htk] at hm5;exact ⟨(hc3.trans hc5).toI hF,[b],hm5,hF⟩
theorem zmY {w W:World} {v:Value} {l:List DRace} (h:Is W v l) (e:Ext W w) (hn:l.length≤1073741824) :
   CALL tp 163 [v] w λr w'=>Ext w w'∧Own w.heap.size w' r l:=by
 refine F163_call ?_;unfold F163;obtain ⟨a,cap,Fi,xs,rfl,h1,h2,h3,h4⟩:=zdt h;refine zl8 u43 ?_;refine zbz (λhnil=>?_) (λ_=>?_)
 · have:l=[]:=by
     rcases h4 with h4 | ⟨b,o,rfl,_⟩
     · exact h4
     simp at hnil
   subst this;exact ⟨Ext.refl w,zkZ rfl⟩
 refine zaH (α:=DRace) u43 zbX λa5 w1 hx1 r5=>?_;have hs1:=hx1.size;refine zc6 (α:=DRace) u43 zbX zre r5 (lr _) h (e.trans hx1) (by rw [zan];simp;omega) (by simp;omega) λv7 w2 hc2 r7=>?_;rw [List.nil_append] at r7;exact ⟨Ext.chgI hx1 hc2 (by omega),r7.own.own.mono (by omega)⟩
theorem zpp {w:World} {lo hi:Nat} {v:Value} {l:List DRace} (h:OwnI lo hi w v l) :
   CALL tp 166 [v] w λr w'=>Ext w w'∧OwnI lo hi w' r l:=by
 obtain ⟨F,hM,hF⟩:=h;refine F166_call ?_;unfold F166;refine zae u43 hM.is ?_;refine zae u43 hM.is ?_;by_cases hne:l=[]
 · subst hne
   obtain ⟨a,cap,Fi,xs,rfl,h1,h2,h3,h4⟩:=zdt hM.is;refine zpo (α:=DRace) (k:=0) (j:=0) u43 zbX (lr _) h1 λa' _=>⟨Ext.refl w,zgW a'⟩
 obtain ⟨b,o,cap,xs,rfl,rfl,h1,h2,hc,hr,hw⟩:=zda hM hne;refine zpo (α:=DRace) (k:=l.length) (j:=l.length) u43 zbX (lr _) h1 λa' ha=>?_;rw [ha (λe=>hne (List.eq_nil_of_length_eq_zero e))];exact ⟨Ext.refl w,[b],zfh (lr _) (by omega) hc hr hw,hF⟩
end Go.Proofs.YtifonhplnmpgaaaGreat
