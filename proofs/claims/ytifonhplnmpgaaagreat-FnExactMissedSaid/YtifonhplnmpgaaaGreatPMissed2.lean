/-
  Parts of the proof, put together by program.
-/
import Derived.Test.YtifonhplnmpgaaaGreatPMissed1
set_option linter.unusedVariables false
set_option linter.unusedSimpArgs false
set_option linter.unusedSectionVars false
namespace Go.Sh
open Go.RowKit (Below)
open Rep (rep)
def OAt {α:Type} [Rep α] (G:List Nat) (w:World) (b o:Nat) (x:α):Prop:=
 ∃ cs,rep G w cs x∧w.rangeAt b o cs∧G.Nodup∧Wr G w∧b∉G∧∃ c e,w.heap[b]?=some (.cells c e (0,0))
structure ChgAt (b o n:Nat) (G:List Nat) (w w':World):Prop where
 chg:Chg (b :: G) w w'
 cell:∀ c e,w.heap[b]?=some (.cells c e (0,0))→∃ c',w'.heap[b]?=some (.cells c' e (0,0))∧∀ j,(j<o∨o+n≤j)→c'[j]?=c[j]?
theorem ChgAt.mono {b o n o' n':Nat} {G G':List Nat} {w w':World} (h:ChgAt b o n G w w') (ho:o'≤o) (hn:o+n≤o'+n') (hG:∀ c∈G,c∈G'):ChgAt b o' n' G' w w':=
 ⟨h.chg.mono λx hx=>by
   rcases List.mem_cons.1 hx with rfl | hx
   · simp
   · exact List.mem_cons_of_mem _ (hG x hx),λc e hc=>by
   obtain ⟨c',h1,h2⟩:=h.cell c e hc;exact ⟨c',h1,λj hj=>h2 j (by omega)⟩⟩
section
variable {P:Program} {w w0:World} {α β:Type} [Rep α] [Rep β]
theorem ChgAt.range {b o n o':Nat} {G:List Nat} {w':World} {cs:List Value} (h:ChgAt b o n G w w') (hw:∃ c e,w.heap[b]?=some (.cells c e (0,0))) (hr:w.rangeAt b o' cs) (hd:o'+cs.length≤o∨o+n≤o'):w'.rangeAt b o' cs:=by
 obtain ⟨c,e,hc⟩:=hw;obtain ⟨c',h1,h2⟩:=h.cell c e hc;intro j v hv;have hj:j<cs.length:=(List.getElem?_eq_some_iff.1 hv).1;have:=hr j v hv;simp only [World.cell?,hc,h1] at this ⊢;simp only [Option.isSome_none,Bool.false_eq_true,if_false] at this ⊢;rw [h2 (o'+j) (by omega)];exact this
theorem OAt.at {G:List Nat} {b o:Nat} {x:α} (h:OAt G w b o x):At w b o x:=by
 obtain ⟨cs,hr,ha,_⟩:=h;exact ⟨G,cs,hr,ha⟩
theorem OAt.lt {G:List Nat} {b o:Nat} {x:α} (h:OAt G w b o x):b<w.heap.size:=by
 obtain ⟨cs,_,_,_,_,_,c,e,hc⟩:=h;exact (Array.getElem?_eq_some_iff.1 hc).1
structure Lens (H:List Nat→World→α→Prop) (S:List Nat) (w:World) (b o:Nat) (G:List Nat) (y:β) (upd:β→α):Prop where
 here:OAt G w b o y
 sub:∀ c∈b :: G,c∈S
 back:∀ w' G' y',ChgAt b o (Rep.size β) G w w'→OAt G' w' b o y'→(∀ c∈G',c∈G∨c∉S)→∃ F',H F' w' (upd y')∧∀ c∈F',c∈S∨c∈G'
abbrev MH (v:Value):List Nat→World→α→Prop:=λF w x=>Mine F w v x
abbrev VH (g:Nat):List Nat→World→α→Prop:=λF w x=>OAt F w g 0 x
theorem Lens.var {F:List Nat} {g:Nat} {x:α} (h:OAt F w g 0 x):Lens (VH g) (g :: F) w g 0 F x (λy=>y):=
 ⟨h,λ_ h=>h,λw' G' y' _ hO _=>⟨G',hO,λc hc=>.inr hc⟩⟩
theorem zra {F1 F2 G G':List Nat} {b:Nat} (h:(b :: (F1++(G++F2))).Nodup) (hG:G'.Nodup) (hs:∀ c∈G',c∈G∨c∉b :: (F1++(G++F2))):(b :: (F1++(G'++F2))).Nodup:=by
 rw [List.nodup_cons] at h ⊢;obtain ⟨hb,h⟩:=h;rw [List.nodup_append] at h ⊢;obtain ⟨h1,h2,h3⟩:=h;rw [List.nodup_append] at h2 ⊢;obtain ⟨h4,h5,h6⟩:=h2;refine ⟨λhm=>?_,h1,⟨hG,h5,λa ha c hc e=>?_⟩,λa ha c hc e=>?_⟩
 · rcases List.mem_append.1 hm with hm | hm
   · exact hb (by simp [hm])
   rcases List.mem_append.1 hm with hm | hm
   · rcases hs _ hm with h' | h'
     · exact hb (by simp [h'])
     exact h' (by simp)
   exact hb (by simp [hm])
 · subst e
   rcases hs _ ha with h' | h'
   · exact h6 a h' a hc rfl
   exact h' (by simp [hc])
 subst e;rcases List.mem_append.1 hc with hc | hc
 · rcases hs _ hc with h' | h'
   · exact h3 a ha a (by simp [h']) rfl
   exact h' (by simp [ha])
 exact h3 a ha a (by simp [hc]) rfl
theorem zvd {F:List Nat} {v:Value} {l:List α} {k:Nat} (hm:Mine F w v l) (hk:k<l.length) :
   ∃ b a cap G,v=.slice (some ⟨b,a,none⟩) l.length cap∧Lens (MH v) F w b (a+k*Rep.size α) G l[k] (λy=>l.set k y):=by
 obtain ⟨⟨cs,⟨a,cap,Fi,xs,rfl,h1,h2,hc,h4⟩,rfl⟩,hn,hw⟩:=hm;rcases h4 with ⟨rfl,_⟩ | ⟨b,o,rfl,rfl,hra,hb⟩
 · simp at hk
 have e:l=l.take k++(l[k] :: l.drop (k+1)):=by simp
 have hc':=hc;rw [e] at hc';obtain ⟨F1,F2',x1,x2',hFi,hxs,c1,c2'⟩:=Cells.split hc';obtain ⟨G,F2,cg,x2,rfl,rfl,hg,c2⟩:=c2';subst hFi hxs;have hl1:x1.length=k*Rep.size α:=by rw [Cells.len c1,List.length_take];congr 1;omega
 have hlg:=Rep.len hg;have hn':=hn;rw [List.nodup_cons] at hn;obtain ⟨hbn,hn⟩:=hn;rw [List.nodup_append] at hn;obtain ⟨hn1,hn2,hn3⟩:=hn;rw [List.nodup_append] at hn2;obtain ⟨hnG,hnF2,hn4⟩:=hn2;obtain ⟨r1,r2⟩:=za1 hra;obtain ⟨rg,r3⟩:=za1 r2;rw [hl1] at rg r3;have hwb:∃ c e,w.heap[b]?=some (.cells c e (0,0)):=hw b (by simp);refine ⟨b,o,cap,G,rfl,⟨cg,hg,rg,hnG,hw.sub (by simp +contextual),λh=>hbn (by simp [h]),hwb⟩,by simp +contextual,λw' G' y' hch hO hs=>?_⟩;obtain ⟨cg',hg',rg',hnG',hwG',hbG',hwb'⟩:=hO;have hlg':=Rep.len hg'
 have keep1:∀ c∈F1,w'.heap[c]?=w.heap[c]?:=λc hc1=>by
   refine hch.chg.block c (Cells.lt c1 c hc1) λhm=>?_;rcases List.mem_cons.1 hm with rfl | hm
   · exact hbn (by simp [hc1])
   exact hn3 c hc1 c (by simp [hm]) rfl
 have keep2:∀ c∈F2,w'.heap[c]?=w.heap[c]?:=λc hc1=>by
   refine hch.chg.block c (Cells.lt c2 c hc1) λhm=>?_;rcases List.mem_cons.1 hm with rfl | hm
   · exact hbn (by simp [hc1])
   exact hn4 c hm c hc1 rfl
 refine ⟨b :: (F1++(G'++F2)),⟨⟨_,⟨some ⟨b,o,none⟩,cap,F1++(G'++F2),x1++(cg'++x2),by simp,by simpa using h1,h2,?_,.inr ⟨b,o,rfl,rfl,?_,?_⟩⟩,rfl⟩,zra hn' hnG' hs,?_⟩,?_⟩
 · have:l.set k y'=l.take k++(y' :: l.drop (k+1)):=by rw [List.set_eq_take_append_cons_drop];simp [hk]
   rw [this];exact Cells.append (Cells.keep c1 keep1) ⟨G',F2,cg',x2,rfl,rfl,hg',Cells.keep c2 keep2⟩
 · refine zet (hch.range hwb r1 (.inl (by omega))) (zet (by rw [hl1];exact rg') ?_)
   have e3:o+x1.length+cg'.length=o+k*Rep.size α+cg.length:=by omega
   rw [e3];exact hch.range hwb r3 (.inr (by omega))
 · obtain ⟨c,e,h⟩:=hwb';exact (Array.getElem?_eq_some_iff.1 h).1
 · intro c hcm
   rcases List.mem_cons.1 hcm with rfl | hcm
   · exact hwb'
   rcases List.mem_append.1 hcm with hcm | hcm
   · exact (hw.sub (G:=F1) (by simp +contextual)).keep keep1 c hcm
   rcases List.mem_append.1 hcm with hcm | hcm
   · exact hwG' c hcm
   exact (hw.sub (G:=F2) (by simp +contextual)).keep keep2 c hcm
 intro c hcm;rcases List.mem_cons.1 hcm with rfl | hcm
 · exact .inl (by simp)
 rcases List.mem_append.1 hcm with hcm | hcm
 · exact .inl (by simp [hcm])
 rcases List.mem_append.1 hcm with hcm | hcm
 · exact .inr hcm
 exact .inl (by simp [hcm])
section pair
variable {γ:Type}
theorem Lens.fst {H:List Nat→World→γ→Prop} {F:List Nat} {b o:Nat} {G:List Nat} {p:α×β} {upd:α×β→γ} (h:Lens H F w b o G p upd) :
   ∃ G1,Lens H F w b o G1 p.1 (λy=>upd (y,p.2)):=by
 obtain ⟨⟨cs,⟨G1,G2,c1,c2,rfl,rfl,h1,h2⟩,hr,hn,hw,hb,hwb⟩,hsub,hback⟩:=h;obtain ⟨r1,r2⟩:=za1 hr;have hl1:=Rep.len h1;have hl2:=Rep.len h2;have hn':=hn;rw [List.nodup_append] at hn;obtain ⟨hn1,hn2,hn3⟩:=hn;simp only [List.mem_append,not_or] at hb;refine ⟨G1,⟨c1,h1,r1,hn1,hw.sub (by simp +contextual),hb.1,hwb⟩,λc hc=>hsub c (by rcases List.mem_cons.1 hc with rfl | hc<;>simp_all),λw' G' y' hch hO hs=>?_⟩;obtain ⟨c1',h1',r1',hn1',hw1',hb1',hwb'⟩:=hO
 have keep2:∀ c∈G2,w'.heap[c]?=w.heap[c]?:=λc hc=>by
   refine hch.chg.block c (Rep.lt h2 c hc) λhm=>?_;rcases List.mem_cons.1 hm with rfl | hm
   · exact hb.2 hc
   exact hn3 c hm c hc rfl
 have hs':∀ c∈G'++G2,c∈G1++G2∨c∉F:=λc hc=>by
   rcases List.mem_append.1 hc with hc | hc
   · rcases hs c hc with h | h
     · exact .inl (by simp [h])
     exact .inr h
   exact .inl (by simp [hc])
 have hnG:(G'++G2).Nodup:=by
   rw [List.nodup_append];refine ⟨hn1',hn2,λa ha c hc e=>?_⟩;subst e;rcases hs a ha with h | h
   · exact hn3 a h a hc rfl
   exact h (hsub a (by simp [hc]))
 obtain ⟨F',hM,hF'⟩:=hback w' (G'++G2) (y',p.2) (hch.mono (lr _) (by simp only [Rep.size];omega) (by simp +contextual))
   ⟨c1'++c2,⟨G',G2,c1',c2,rfl,rfl,h1',Rep.keep h2 keep2⟩,zet r1' (by
     rw [Rep.len h1',←hl1];exact hch.range hwb r2 (.inr (by rw [hl1];exact Nat.le_refl _))),hnG,hw1'.append ((hw.sub (by simp +contextual)).keep keep2),by simp [hb1',hb.2],hwb'⟩ hs'
 refine ⟨F',hM,λc hc=>?_⟩;rcases hF' c hc with h | h
 · exact .inl h
 rcases List.mem_append.1 h with h | h
 · exact .inr h
 exact .inl (hsub c (by simp [h]))
theorem Lens.snd {H:List Nat→World→γ→Prop} {F:List Nat} {b o:Nat} {G:List Nat} {p:α×β} {upd:α×β→γ} (h:Lens H F w b o G p upd) :
   ∃ G1,Lens H F w b (o+Rep.size α) G1 p.2 (λy=>upd (p.1,y)):=by
 obtain ⟨⟨cs,⟨G1,G2,c1,c2,rfl,rfl,h1,h2⟩,hr,hn,hw,hb,hwb⟩,hsub,hback⟩:=h;obtain ⟨r1,r2⟩:=za1 hr;have hl1:=Rep.len h1;have hl2:=Rep.len h2;have hn':=hn;rw [List.nodup_append] at hn;obtain ⟨hn1,hn2,hn3⟩:=hn;simp only [List.mem_append,not_or] at hb;rw [hl1] at r2;refine ⟨G2,⟨c2,h2,r2,hn2,hw.sub (by simp +contextual),hb.2,hwb⟩,λc hc=>hsub c (by rcases List.mem_cons.1 hc with rfl | hc<;>simp_all),λw' G' y' hch hO hs=>?_⟩;obtain ⟨c2',h2',r2',hn2',hw2',hb2',hwb'⟩:=hO
 have keep1:∀ c∈G1,w'.heap[c]?=w.heap[c]?:=λc hc=>by
   refine hch.chg.block c (Rep.lt h1 c hc) λhm=>?_;rcases List.mem_cons.1 hm with rfl | hm
   · exact hb.1 hc
   exact hn3 c hc c hm rfl
 have hs':∀ c∈G1++G',c∈G1++G2∨c∉F:=λc hc=>by
   rcases List.mem_append.1 hc with hc | hc
   · exact .inl (by simp [hc])
   rcases hs c hc with h | h
   · exact .inl (by simp [h])
   exact .inr h
 have hnG:(G1++G').Nodup:=by
   rw [List.nodup_append];refine ⟨hn1,hn2',λa ha c hc e=>?_⟩;subst e;rcases hs a hc with h | h
   · exact hn3 a ha a h rfl
   exact h (hsub a (by simp [ha]))
 obtain ⟨F',hM,hF'⟩:=hback w' (G1++G') (p.1,y') (hch.mono (by omega) (by simp only [Rep.size];omega) (by simp +contextual))
   ⟨c1++c2',⟨G1,G',c1,c2',rfl,rfl,Rep.keep h1 keep1,h2'⟩,zet (hch.range hwb r1 (.inl (by rw [hl1];exact Nat.le_refl _))) (by rw [hl1];exact r2'),hnG,((hw.sub (by simp +contextual)).keep keep1).append hw2',by simp [hb.1,hb2'],hwb'⟩ hs'
 refine ⟨F',hM,λc hc=>?_⟩;rcases hF' c hc with h | h
 · exact .inl h
 rcases List.mem_append.1 h with h | h
 · exact .inl (hsub c (by simp [h]))
 exact .inr h
theorem Lens.row {H:List Nat→World→γ→Prop} {F:List Nat} {b o:Nat} {G:List Nat} {l:List β} {upd:List β→γ} (h:Lens H F w b o G l upd) :
   ∃ u,Mine G w u l∧w.rangeAt b o [u]∧(∀ c∈G,c∈F) ∧
     ∀ w' G' l',Chg G w w'→Mine G' w' u l'→(∀ c∈G',c∈G∨c∉F)→∃ F',H F' w' (upd l')∧∀ c∈F',c∈F∨c∈G':=by
 obtain ⟨⟨cs,hrep,hr,hn,hw,hb,hwb⟩,hsub,hback⟩:=h;have hcs:∃ u,cs=[u]:=by obtain ⟨a,cap,Fi,xs,rfl,_⟩:=hrep;exact ⟨_,rfl⟩
 obtain ⟨u,rfl⟩:=hcs;refine ⟨u,⟨⟨_,hrep,rfl⟩,hn,hw⟩,hr,λc hc=>hsub c (by simp [hc]),λw' G' l' hch hM hs=>?_⟩;have hbl:b<w.heap.size:=by obtain ⟨c,e,h⟩:=hwb;exact (Array.getElem?_eq_some_iff.1 h).1
 have hbk:w'.heap[b]?=w.heap[b]?:=hch.block b hbl hb;obtain ⟨⟨cs',hrep',hv'⟩,hn',hw'⟩:=hM
 have hcs':cs'=[u]:=by
   obtain ⟨a,cap,Fi,xs,rfl,_⟩:=hrep';simp only [mkv,Rep.agg,cond_false,List.headD_cons] at hv';rw [hv']
 subst hcs'
 have hbG':b∉G':=λhm=>by
   rcases hs b hm with h | h
   · exact hb h
   exact h (hsub b (by simp))
 exact hback w' G' l' ⟨hch.mono (by simp +contextual),λc e hc=>⟨c,by rw [hbk];exact hc,λ_ _=>rfl⟩⟩
   ⟨_,hrep',zcZ hr hbk,hn',hw',hbG',by obtain ⟨c,e,h⟩:=hwb;exact ⟨c,e,by rw [hbk];exact h⟩⟩ hs
end pair
theorem zrb {t by_ b o:Nat} {G:List Nat} {y y':β} {u:Value} {G':List Nat} {K:World→Prop} (ht:tyI P t=some (Rep.size β,by_,Rep.agg β)) (h:OAt G w b o y)
   (hu:OwnF G' w u y') (hn:G'.Nodup) (hwr:Wr G' w) (hb:b∉G') (k:∀ w',ChgAt b o (Rep.size β) [] w w'→OAt G' w' b o y'→K w'):OPU P (Instr.storeAt t (.pointer (some ⟨b,o,none⟩)) u) w K:=by
 obtain ⟨us,hr,rfl⟩:=hu;obtain ⟨cs,hr0,ha,hn0,hw0,hb0,c,e,hc⟩:=h;have hl0:=Rep.len hr0;have hlu:=Rep.len hr;have hpos:=Rep.pos (α:=β)
 have hcell:∀ j,j<cs.length→c[o+j]?=cs[j]?:=by
   intro j hj;have:=ha j cs[j] (by simp [hj]);simpa [World.cell?,hc,hj] using this
 have hfit:o+Rep.size β≤c.size:=by
   have hj:cs.length-1<cs.length:=by omega
   have:=hcell (cs.length-1) hj;rw [List.getElem?_eq_getElem hj] at this;have:=(Array.getElem?_eq_some_iff.1 this).1;omega
 have hst:=zc2 (P:=P) (e:=e) (cur:=c) ht hr hc hfit;have hset:=setRow_heap w b c ((c.toList.take o++us++c.toList.drop (o+us.length)).toArray) e _ hc;refine ⟨_,hst,k _ ⟨(zc1 w b _).mono (by simp),λc1 e1 hc1=>?_⟩ ?_⟩
 · rw [hc] at hc1
   simp only [Option.some.injEq,Obj.cells.injEq,and_true] at hc1;obtain ⟨rfl,rfl⟩:=hc1;refine ⟨_,hset,λj hj=>?_⟩;simp only [List.getElem?_toArray];rcases hj with hj | hj
   · rw [List.append_assoc,List.getElem?_append_left (by simp only [List.length_take,Array.length_toList];omega),List.getElem?_take,if_pos hj,Array.getElem?_toList]
   rw [List.getElem?_append_right (by simp only [List.length_append,List.length_take,Array.length_toList];omega),List.getElem?_drop,Array.getElem?_toList];congr 1;simp only [List.length_append,List.length_take,Array.length_toList];omega
 have hkeep:∀ x∈G',(w.setRow b ((c.toList.take o++us++c.toList.drop (o+us.length)).toArray)).heap[x]?=w.heap[x]?:=λx hx=>
   (zc1 w b _).block x (hwr.lt x hx) (by simp;exact λe=>hb (e▸hx))
 refine ⟨us,Rep.keep hr hkeep,λj v hv=>?_,hn,hwr.keep hkeep,hb,_,e,hset⟩;have hj:j<us.length:=(List.getElem?_eq_some_iff.1 hv).1;simp only [World.cell?,hset];simp only [Option.isSome_none,Bool.false_eq_true,if_false,List.getElem?_toArray];rw [List.append_assoc,List.getElem?_append_right (by simp only [List.length_take,Array.length_toList];omega),List.getElem?_append_left (by simp only [List.length_take,Array.length_toList];omega),←hv];congr 1;simp only [List.length_take,Array.length_toList];omega
theorem zoT {t by_ b o:Nat} {H:List Nat→World→α→Prop} {F G:List Nat} {y y':β} {upd:β→α} {u:Value} {G':List Nat} {K:World→Prop} (ht:tyI P t=some (Rep.size β,by_,Rep.agg β)) (h:Lens H F w b o G y upd)
   (hu:Mine G' w u y') (hs:∀ c∈G',c∈G∨c∉F) (k:∀ w',Chg F w w'→(∃ F',H F' w' (upd y')∧∀ c∈F',c∈F∨c∈G')→K w'):OPU P (Instr.storeAt t (.pointer (some ⟨b,o,none⟩)) u) w K:=by
 have hbG':b∉G':=λhm=>by
   rcases hs b hm with h' | h'
   · obtain ⟨cs,_,_,_,_,hb,_⟩:=h.here;exact hb h'
   exact h' (h.sub b (by simp))
 refine zrb ht h.here hu.own hu.nodup hu.wr hbG' λw' hch hO=>k w' (hch.chg.mono λc hc=>h.sub c (by simp at hc;simp [hc])) ?_;obtain ⟨F',h1,h2⟩:=h.back w' G' y' (hch.mono (lr _) (lr _) (by simp)) hO hs;exact ⟨F',h1,h2⟩
end
class RepZ (α:Type) [Rep α] where
 zv:α
 zc:List Value
 zr:∀ w,rep [] w zc zv
instance:RepZ Int:=⟨0,[.int .i64 0],λ_=>⟨rfl,rfl,by unfold I64;omega⟩⟩
instance:RepZ Bool:=⟨false,[.bool false],λ_=>⟨rfl,rfl⟩⟩
instance:RepZ ByteArray:=⟨ByteArray.empty,[.string ByteArray.empty],λ_=>⟨rfl,rfl,Nat.zero_le _⟩⟩
instance {α:Type} [Rep α]:RepZ (List α):=⟨[],[.slice none 0 0],λ_=>⟨none,0,[],[],rfl,lr _,z0 _,⟨rfl,rfl⟩,.inl ⟨rfl,rfl⟩⟩⟩
instance {α β:Type} [Rep α] [Rep β] [RepZ α] [RepZ β]:RepZ (α×β):=⟨((RepZ.zv:α),(RepZ.zv:β)),RepZ.zc α++RepZ.zc β,λw=>⟨[],[],_,_,rfl,rfl,RepZ.zr w,RepZ.zr w⟩⟩
def OwnI {α:Type} [Rep α] (lo hi:Nat) (w:World) (v:Value) (x:α):Prop:=∃ F,Mine F w v x∧∀ b∈F,lo≤b∧b<hi
structure ChgI (lo hi:Nat) (w w':World):Prop where
 os:w'.os=w.os
 tape:w'.tape=w.tape
 output:w'.output=w.output
 size:w.heap.size≤w'.heap.size
 block:∀ b,b<w.heap.size→(b<lo∨hi≤b)→w'.heap[b]?=w.heap[b]?
section
variable {w w':World} {α:Type} [Rep α] {lo hi a b:Nat} {v:Value} {x:α}
theorem Chg.toI {F:List Nat} (h:Chg F w w') (hF:∀ b∈F,lo≤b∧b<hi):ChgI lo hi w w':=
 ⟨h.os,h.tape,h.output,h.size,λi hi' ho=>h.block i hi' λe=>by have:=hF i e;omega⟩
theorem Ext.toI (h:Ext w w'):ChgI lo hi w w':=⟨h.os,h.tape,h.output,h.size,λi hi' _=>h.block i hi'⟩
theorem ChgI.refl (w:World):ChgI lo hi w w:=⟨rfl,rfl,rfl,lr _,λ_ _ _=>rfl⟩
theorem ChgI.trans {w'':World} (h:ChgI lo hi w w') (k:ChgI lo hi w' w''):ChgI lo hi w w'':=
 ⟨k.os.trans h.os,k.tape.trans h.tape,k.output.trans h.output,Nat.le_trans h.size k.size,λi hi' ho=>(k.block i (Nat.lt_of_lt_of_le hi' h.size) ho).trans (h.block i hi' ho)⟩
theorem ChgI.mono {lo' hi':Nat} (h:ChgI lo hi w w') (h1:lo'≤lo) (h2:hi≤hi'):ChgI lo' hi' w w':=
 ⟨h.os,h.tape,h.output,h.size,λi hi' ho=>h.block i hi' (by omega)⟩
theorem Ext.chgI {c:World} (h:Ext w w') (k:ChgI lo hi w' c) (hl:w.heap.size≤lo):Ext w c:=
 ⟨k.os.trans h.os,k.tape.trans h.tape,k.output.trans h.output,Nat.le_trans h.size k.size,λi hi'=>(k.block i (Nat.lt_of_lt_of_le hi' h.size) (by omega)).trans (h.block i hi')⟩
theorem Own.toI (h:Own lo w v x):OwnI lo w.heap.size w v x:=by
 obtain ⟨F,hm,hl⟩:=h;exact ⟨F,hm,λb hb=>⟨hl b hb,hm.lt b hb⟩⟩
theorem OwnI.own (h:OwnI lo hi w v x):Own lo w v x:=by
 obtain ⟨F,hm,hl⟩:=h;exact ⟨F,hm,λb hb=>(hl b hb).1⟩
theorem OwnI.is (h:OwnI lo hi w v x):Is w v x:=by obtain ⟨F,hm,_⟩:=h;exact hm.is
theorem OwnI.ext (h:OwnI lo hi w v x) (hx:Ext w w'):OwnI lo hi w' v x:=by obtain ⟨F,hm,hl⟩:=h;exact ⟨F,hm.ext hx,hl⟩
theorem OwnI.chg (h:OwnI lo hi w v x) (hc:ChgI a b w w') (hd:hi≤a∨b≤lo):OwnI lo hi w' v x:=by
 obtain ⟨F,hm,hl⟩:=h;exact ⟨F,hm.keep λc hcm=>hc.block c (hm.lt c hcm) (by have:=hl c hcm;omega),hl⟩
theorem OwnI.mono {lo' hi':Nat} (h:OwnI lo hi w v x) (h1:lo'≤lo) (h2:hi≤hi'):OwnI lo' hi' w v x:=by
 obtain ⟨F,hm,hl⟩:=h;exact ⟨F,hm,λb hb=>by have:=hl b hb;omega⟩
def VarI {α:Type} [Rep α] (lo hi:Nat) (w:World) (g:Nat) (x:α):Prop:=∃ F,OAt F w g 0 x∧∀ b∈F,lo≤b∧b<hi
theorem OAt.keep {F:List Nat} {g o:Nat} (h:OAt F w g o x) (hk:∀ c∈g :: F,w'.heap[c]?=w.heap[c]?):OAt F w' g o x:=by
 obtain ⟨cs,hr,ha,hn,hw,hb,c,e,hc⟩:=h;have hg:=hk g (by simp);exact ⟨cs,Rep.keep hr λb hb=>hk b (by simp [hb]),zcZ ha hg,hn,hw.keep λb hb=>hk b (by simp [hb]),hb,c,e,by rw [hg];exact hc⟩
theorem VarI.lt {g:Nat} (h:VarI lo hi w g x):g<w.heap.size:=by obtain ⟨F,h,_⟩:=h;exact h.lt
theorem OAt.lts {F:List Nat} {g o:Nat} (h:OAt F w g o x):∀ c∈g :: F,c<w.heap.size:=by
 intro c hc;rcases List.mem_cons.1 hc with rfl | hc
 · exact h.lt
 obtain ⟨cs,hr,_⟩:=h;exact Rep.lt hr c hc
theorem VarI.ext {g:Nat} (h:VarI lo hi w g x) (hx:Ext w w'):VarI lo hi w' g x:=by
 obtain ⟨F,h,hl⟩:=h;exact ⟨F,h.keep λc hc=>hx.heap (h.lts c hc),hl⟩
theorem VarI.chg {g:Nat} (h:VarI lo hi w g x) (hc:ChgI a b w w') (hd:hi≤a∨b≤lo) (hg:g<a∨b≤g):VarI lo hi w' g x:=by
 obtain ⟨F,h,hl⟩:=h;refine ⟨F,h.keep λc hcm=>hc.block c (h.lts c hcm) ?_,hl⟩;rcases List.mem_cons.1 hcm with rfl | hcm
 · omega
 have:=hl c hcm;omega
theorem VarI.at {g:Nat} (h:VarI lo hi w g x):At w g 0 x:=by obtain ⟨F,h,_⟩:=h;exact h.at
theorem VarI.own {g:Nat} (h:VarI lo hi w g x):∃ v,OwnI lo hi w v x∧∃ cs F,Rep.rep F w cs x∧w.rangeAt g 0 cs∧v=mkv α cs:=by
 obtain ⟨F,⟨cs,hr,ha,hn,hw,_⟩,hl⟩:=h;exact ⟨mkv α cs,⟨F,⟨⟨cs,hr,rfl⟩,hn,hw⟩,hl⟩,cs,F,hr,ha,rfl⟩
section
variable {P:Program} {w0:World}
theorem zeD [RepZ α] {e:TypeId} {K:Value→World→Prop} (hz:zcz P e=some (RepZ.zc α))
   (k:∀ w',Ext w w'→VarI w'.heap.size w'.heap.size w' w.heap.size ((RepZ.zv:α))→K (.pointer (some ⟨w.heap.size,0,none⟩)) w'):OP P (Instr.alloc e true (.tuple #[])) w K:=
 zin hz λw' hx hB=>k w' hx ⟨[],⟨RepZ.zc α,RepZ.zr w',hB.range,List.nodup_nil,Wr.nil _,by simp,_,_,hB⟩,by simp⟩
theorem ze4 {t by_ g:Nat} {K:Value→Prop} (ht:tyI P t=some (Rep.size α,by_,Rep.agg α)) (h:VarI lo hi w0 g x) (hx:Ext w0 w) (k:∀ v,OwnI lo hi w0 v x→K v) :
   RD P (Instr.loadAt t (.pointer (some ⟨g,0,none⟩))) w K:=by
 obtain ⟨v,ho,cs,F,hr,ha,rfl⟩:=h.own;exact za7 (λw' hx'=>zdu ht (zb5 hr (hx.t hx')) (zbr ha (hx.t hx'))) (k _ ho)
theorem zip {t by_ g:Nat} {K:Value→Prop} (ht:tyI P t=some (Rep.size α,by_,Rep.agg α)) (h:VarI lo hi w0 g x) (hx:Ext w0 w) (k:∀ v,OwnI lo hi w0 v x→K v) :
   RD P (zea t (.pointer (some ⟨g,0,none⟩))) w K:=by
 obtain ⟨v,ho,cs,F,hr,ha,rfl⟩:=h.own;refine za7 (λw' hx'=>?_) (k _ ho);have:=zdu ht (zb5 hr (hx.t hx')) (zbr ha (hx.t hx'));simpa [zea,asAddr,Instr.loadAt,Instr.sureAddr] using this
theorem zcH {β:Type} [Rep β] {t by_ g o:Nat} {F G:List Nat} {y y':β} {upd:β→α} {u:Value} {lo2 hi2:Nat} {K:World→Prop} (ht:tyI P t=some (Rep.size β,by_,Rep.agg β)) (hL:Lens (VH g) (g :: F) w g o G y upd) (hF:∀ b∈F,lo≤b∧b<hi)
   (hu:OwnI lo2 hi2 w u y') (h1:hi≤lo2) (h2:g<lo2) (k:∀ w',ChgI g (g+1) w w'→(∀ lo',lo'≤lo→lo'≤lo2→∀ hi',hi≤hi'→hi2≤hi'→VarI lo' hi' w' g (upd y'))→K w'):OPU P (Instr.storeAt t (.pointer (some ⟨g,o,none⟩)) u) w K:=by
 obtain ⟨G',hM,hG'⟩:=hu
 have hs:∀ c∈G',c∈G∨c∉g :: F:=λc hc=>.inr λhm=>by
   have:=hG' c hc;rcases List.mem_cons.1 hm with rfl | hm
   · omega
   have:=hF c hm;omega
 have hgG':g∉G':=λh=>by have:=hG' g h;omega
 refine zrb ht hL.here hM.own hM.nodup hM.wr hgG' λw' hch hO=>k w' (hch.chg.toI (by simp)) ?_;obtain ⟨F',h3,h4⟩:=hL.back w' G' y' (hch.mono (lr _) (lr _) (by simp)) hO hs;intro lo' hl1 hl2 hi' hh1 hh2;refine ⟨F',h3,λc hc=>?_⟩;rcases h4 c hc with h | h
 · rcases List.mem_cons.1 h with rfl | h
   · obtain ⟨_,_,_,_,_,hn,_⟩:=h3;exact absurd hc hn
   have:=hF c h;omega
 have:=hG' c h;omega
theorem ze5 {t by_ g:Nat} {x0:α} {lo0 hi0:Nat} {u:Value} {K:World→Prop} (ht:tyI P t=some (Rep.size α,by_,Rep.agg α)) (hv:VarI lo0 hi0 w g x0) (hu:OwnI lo hi w u x) (hg:g<lo∨hi≤g)
   (k:∀ w',ChgI g (g+1) w w'→VarI lo hi w' g x→K w'):OPU P (Instr.storeAt t (.pointer (some ⟨g,0,none⟩)) u) w K:=by
 obtain ⟨F,hO,_⟩:=hv;obtain ⟨G',hM,hG'⟩:=hu;have hgG':g∉G':=λh=>by have:=hG' g h;omega
 exact zrb ht hO hM.own hM.nodup hM.wr hgG' λw' hch hO'=>k w' (hch.chg.toI (by simp)) ⟨G',hO',hG'⟩
end
theorem ownI_int {x:Int} (h:I64 x):OwnI lo hi w (.int .i64 x) x:=⟨[],⟨⟨_,⟨rfl,rfl,h⟩,rfl⟩,List.nodup_nil,Wr.nil w⟩,by simp⟩
theorem ztk {x:ByteArray} (h:x.size≤maxLen):OwnI lo hi w (.string x) x:=⟨[],⟨⟨_,⟨rfl,rfl,h⟩,rfl⟩,List.nodup_nil,Wr.nil w⟩,by simp⟩
theorem zk2:OwnI (α:=List α) lo hi w (.slice none 0 0) []:=by
 obtain ⟨F,hm,_⟩:=zkZ (w:=w) (lo:=0) (α:=α) rfl
 have:F=[]:=by
   obtain ⟨⟨cs,⟨a,cap,Fi,xs,rfl,_,_,_,h⟩,hv⟩,_⟩:=hm;rcases h with ⟨_,h⟩ | ⟨b,o,ha,_⟩
   · exact h
   subst ha;simp [mkv,Rep.agg] at hv
 subst this;exact ⟨[],hm,by simp⟩
end
end Go.Sh
namespace Go.Proofs.YtifonhplnmpgaaaGreat
open Go Go.Sh Go.Proofs
open Rep (rep)
def extL:List Nat:=[0,1,263,264,265,266,267,268,269,270,271,272,273,274,275,276,277,278]
set_option maxRecDepth 100000 in
theorem zwh:((List.range 279).all λf=>extL.elem f || zes Tryz.prog f)=true:=by kernel_rfl
theorem ent:∀ f,f<279→extL.elem f=false→zes Tryz.prog f=true:=λf hf hx=>by
 have:=List.all_eq_true.1 zwh f (List.mem_range.2 hf);rw [hx,Bool.false_or] at this;exact this
theorem mixed:Tryz.prog.follows .mixedOrders=true:=by kernel_rfl
end Go.Proofs.YtifonhplnmpgaaaGreat
namespace Go.Proofs.YtifonhplnmpgaaaGreat
open Go Go.Sh Go.Proofs
abbrev VW:=Value→World→Prop
noncomputable abbrev tp:Program:=Tryz.prog
abbrev T0:Operand:=.tmp 0
abbrev U0:Operand:=.const undef
abbrev ln (t y:Nat) (x:Value):Sem Value:=Builtin.len_ #[t] y [x].toArray
theorem zbi {u:Nat→Value} {a:Nat} {x:Value} (h:[a].map u=[x]):u a=x:=by simpa using h
theorem zbL {u:Nat→Value} {a b:Nat} {x y:Value} (h:[a,b].map u=[x,y]):u a=x∧u b=y:=by simpa using h
theorem zwi {u:Nat→Value} {a b c:Nat} {x y z:Value} (h:[a,b,c].map u=[x,y,z]):u a=x∧u b=y∧u c=z:=by simpa using h
abbrev iV (x:Int):Value:=.int .i64 x
abbrev cL (f:Nat) (a:List Value) (w:World) (R:Value→World→Prop):Prop:=CALL tp f a w R
abbrev rD (m:Sem Value) (w:World) (K:Value→Prop):Prop:=RD tp m w K
abbrev oP (m:Sem Value) (w:World) (K:Value→World→Prop):Prop:=OP tp m w K
abbrev rL (t:Nat) (x:Value) (w:World) (K:Value→Prop):Prop:=RD tp (Instr.loadAt t x) w K
abbrev rF (t:Nat) (x:Value) (i:Nat) (w:World) (K:Value→Prop):Prop:=RD tp (Instr.fieldAt t x i) w K
abbrev rX (t:Nat) (x i:Value) (w:World) (K:Value→Prop):Prop:=RD tp (Instr.indexAt t x i) w K
abbrev rN (t y:Nat) (x:Value) (w:World) (K:Value→Prop):Prop:=RD tp (ln t y x) w K
abbrev rC (a b:Value) (w:World) (K:Value→Prop):Prop:=RD tp (bin .lss 3 T0 T0 a b) w K
abbrev rA (a b:Value) (w:World) (K:Value→Prop):Prop:=RD tp (bin .add 3 T0 U0 a b) w K
abbrev rB (o:BinOp) (t:Nat) (x y:Operand) (a b:Value) (w:World) (K:Value→Prop):Prop:=RD tp (bin o t x y a b) w K
abbrev oS (t:Nat) (x v:Value) (w:World) (K:World→Prop):Prop:=OPU tp (Instr.storeAt t x v) w K
abbrev oU (m:Sem Unit) (w:World) (K:World→Prop):Prop:=OPU tp m w K
abbrev rE (x:Value) (i:Nat) (w:World) (K:Value→Prop):Prop:=RD tp (Instr.extract x i) w K
def kf (j:List (Nat×Nat×List Nat)) (l:List (Nat×Nat×List Nat)) (d:List (Nat×List Nat×Nat)):Cfg:=⟨extL,j,l,d,[],[],[]⟩
theorem zas {P:Program} {w:World} {K:Value→Prop} {t:TypeId} {x y:Operand} {n:Nat} (k:K (.int .i64 ((n+1:Nat):Int))) (h:n<9223372036854775807:=by omega):RD P (bin .add t x y (.int .i64 (n:Int)) (.int .i64 1)) w K:=ziK h k
abbrev vF:Value:=.bool false
abbrev vT:Value:=.bool true
abbrev aL (t:Nat):Sem Value:=Instr.alloc t true (.tuple #[])
abbrev aP (t:Nat) (a b:Value):Sem Value:=Builtin.append_ #[t,t] t [a,b].toArray
abbrev bS (t:Nat) (a:Value):Sem Value:=Instr.buildSlice t 1 #[(0,a)]
abbrev oX (t:Nat) (x:Value) (w:World) (K:Value→World→Prop):Prop:=OP tp (Instr.box t x) w K
abbrev rI (a:Value) (w:World) (K:Value→Prop):Prop:=RD tp (bin .add 3 T0 U0 a (.int .i64 1)) w K
abbrev rT (a:Value) (w:World) (K:Value→Prop):Prop:=RD tp (Op.unary .not a) w K
abbrev rQ (a b:Value) (w:World) (K:Value→Prop):Prop:=RD tp (bin .eql 3 T0 U0 a b) w K
theorem co {g:Cfg} {f:FuncId} {fn:Func} {args:List Value} {w:World} {R:VW} {F:Prop} (hf:tp.funcs[f]?=some fn) (h:F) (hl:args.length.ble fn.ntmps=true:=by kernel_rfl) (hok:okF g 279 fn=true:=by kernel_rfl) (e:vcF tp g fn args w R=F:=by kernel_rfl) (hg:g.ext=extL:=by rfl):CALL tp f args w R:=
 zu9 (hg▸ent) mixed hf (Nat.le_of_ble_eq_true hl) hok (e▸h)
def F40 (a0:Value) (w:World) (R:VW):Prop:=
 rN 23 3 a0 w λx6=>
 oP (Instr.makeSlice 23 x6 x6) w λx7 w=>
 LOOPI [4] [(iV 0)] w λu3 w n3=>
 rN 23 3 a0 w λx10=>
 rC (u3 4) x10 w λx11=>
 BR x11
 (rX 23 a0 (u3 4) w λx18=>
 rL 3 x18 w λx19=>
 rX 23 x7 (u3 4) w λx20=>
 oS 3 x20 x19 w λw=>
 rI (u3 4) w λx13=>
 n3 [x13] w)
 (R x7 w)
theorem F40_call {a0 w R} (h:F40 a0 w R):cL 40 [a0] w R:=co (g:=(kf [] [(3,2096912,[4])] [])) Tryz.func40 h
def F11 (a0 a1:Value) (w:World) (R:VW):Prop:=
 rN 23 3 a0 w λx7=>
 rN 23 3 a1 w λx9=>
 rB .neq 3 T0 T0 x7 x9 w λx10=>
 BR x10
 (R vF w)
 (LOOPI [5] [(iV 0)] w λu4 w n4=>
 rN 23 3 a0 w λx13=>
 rC (u4 5) x13 w λx14=>
 BR x14
 ((λw=>rX 23 a0 (u4 5) w λx19=>
 rL 3 x19 w λx20=>
 rX 23 a1 (u4 5) w λx23=>
 rL 3 x23 w λx24=>
 rB .neq 3 T0 T0 x20 x24 w λx25=>
 BR x25
 (R vF w)
 (rI (u4 5) w λx16=>
 n4 [x16] w)) (World.drew1 w))
 (R vT w))
theorem F11_call {a0 a1 w R} (h:F11 a0 a1 w R):cL 11 [a0,a1] w R:=co (g:=(kf [] [(4,67106864,[5])] [(6,[0,1,2,3,4,5,6,7,8],0)])) Tryz.func11 h
def F14 (a0 a1:Value) (w:World) (R:VW):Prop:=
 LOOPI [1,5] [a1,(iV 0)] w λu2 w n2=>
 rN 23 3 a0 w λx8=>
 rC (u2 5) x8 w λx9=>
 BR x9
 (rX 23 a0 (u2 5) w λx15=>
 oS 3 x15 (u2 1) w λw=>
 rI (u2 1) w λx17=>
 rI (u2 5) w λx11=>
 n2 [x17,x11] w)
 (R (u2 1) w)
theorem F14_call {a0 a1 w R} (h:F14 a0 a1 w R):cL 14 [a0,a1] w R:=co (g:=(kf [] [(2,262114,[1,5])] [])) Tryz.func14 h
def F15 (a0 a1:Value) (w:World) (R:VW):Prop:=
 LOOPI [1,5] [a1,(iV 0)] w λu2 w n2=>
 rN 23 3 a0 w λx8=>
 rC (u2 5) x8 w λx9=>
 BR x9
 (rX 23 a0 (u2 5) w λx14=>
 rL 3 x14 w λx15=>
 rB .neq 3 T0 T0 x15 (u2 1) w λx17=>
 BR x17
 (R (iV (-1)) w)
 (rI (u2 1) w λx19=>
 rI (u2 5) w λx11=>
 n2 [x19,x11] w))
 (R (u2 1) w)
theorem F15_call {a0 a1 w R} (h:F15 a0 a1 w R):cL 15 [a0,a1] w R:=co (g:=(kf [] [(2,1048562,[1,5])] [])) Tryz.func15 h
theorem zij:tyI tp 3=some (1,8,false):=by kernel_rfl
theorem zxj:zbO tp 3=true:=by kernel_rfl
theorem zgR:tp.underlying 23=some (.slice 3):=by kernel_rfl
theorem zrc {w:World} {x:Int} (h:I64 x):Mine [] w (.int .i64 x) x:=⟨⟨_,⟨rfl,rfl,h⟩,rfl⟩,List.nodup_nil,Wr.nil w⟩
theorem zgS {w:World} {v:Value} {l:List Int} (h:Is w v l) (hn:l.length≤1048576) :
   CALL tp 40 [v] w λr w'=>Ext w w'∧Own w.heap.size w' r l:=by
 refine F40_call ?_;unfold F40;refine zae zgR h ?_;refine ziM (α:=Int) zgR zij zxj (by omega) (by omega) λw1 hx1 hf=>?_;refine zam l.length (λk us w'=>us=[.int .i64 (k:Int)]∧Ext w w'∧Fill w.heap.size 3 l.length [] w' (l.take k)) 0 (z0 _) ⟨rfl,hx1,by simpa using hf⟩ ?_;rintro k m u w2 hkm ⟨hu,hx2,hf2⟩;try replace hu:=zbi hu
 rw [hu];refine zae zgR h ?_;refine zag ?_;refine br (λhlt=>?_) (λhge=>?_)
 · have hk:k<l.length:=by omega
   refine zac zgR zij h hk λb o hA=>?_;refine zad zij hA hx2 λhI=>?_;refine zdh zgR zij hk ?_;refine zgM (α:=Int) zij hf2 (by simp [Rep.size];omega) (by simp;omega) (zrc hI) (by simp) λw3 hc3 hf3=>?_;refine ziK (by have:=zah h;omega) ?_;refine ⟨m-1,by omega,k+1,by omega,rfl,hx2.chg_trans hc3 (by simp),?_⟩;rw [tk hk];simpa using hf3
 have hk:k=l.length:=by omega
 subst hk;rw [List.take_length] at hf2;exact ⟨hx2,_,hf2.own rfl (by rw [zan];omega),by simp⟩
theorem zrd {w w1 w2:World} {v1 v2:Value} {l1 l2:List Int} (h1:Is w1 v1 l1) (h2:Is w2 v2 l2) (hx1:Ext w1 w) (hx2:Ext w2 w) :
   CALL tp 11 [v1,v2] w λr w'=>Ext w w'∧r=.bool (decide (l1=l2)):=by
 refine F11_call ?_;unfold F11;refine zae zgR h1 ?_;refine zae zgR h2 ?_;refine zaB ?_;refine br (λhne=>?_) (λheq=>?_)
 · refine ⟨Ext.refl w,?_⟩
   have:l1≠l2:=λe=>hne (by rw [e]);simp [this]
 have hl:l1.length=l2.length:=by omega
 refine zam l1.length (λk us w'=>us=[.int .i64 (k:Int)]∧Ext w w'∧l1.take k=l2.take k) 0 (z0 _) ⟨rfl,Ext.refl w,by simp⟩ ?_;rintro k m u w3 hkm ⟨hu,hx3,heq3⟩;try replace hu:=zbi hu
 rw [hu];refine zae zgR h1 ?_;refine zag ?_;refine br (λhlt=>?_) (λhge=>?_)
 · have hk:k<l1.length:=by omega
   have hk2:k<l2.length:=by omega
   have hx4:=hx3.t (zaj w3);refine zac zgR zij h1 hk λb o hA=>?_;refine zad zij hA (hx1.t hx4) λhI=>?_;refine zac zgR zij h2 hk2 λb o hA=>?_;refine zad zij hA (hx2.t hx4) λhI=>?_;refine zaB ?_;refine br (λhne=>?_) (λhe=>?_)
   · refine ⟨hx4,?_⟩
     have:l1≠l2:=λe=>hne (by subst e;rfl);simp [this]
   refine ziK (by have:=zah h1;omega) ?_;refine ⟨m-1,by omega,k+1,by omega,rfl,hx4,?_⟩;rw [tk hk,tk hk2,heq3,Decidable.not_not.1 he]
 refine ⟨hx3,?_⟩;have hk:l1.length≤k:=by omega
 rw [List.take_of_length_le hk,List.take_of_length_le (by omega)] at heq3;simp [heq3]
def cnt (k:Int) (n:Nat):List Int:=(List.range n).map λi:Nat=>k+(i:Int)
theorem zhx (k:Int) (n:Nat):(cnt k n).length=n:=by simp [cnt]
theorem ztl (k:Int) (n:Nat):cnt k (n+1)=cnt k n++[k+n]:=by simp [cnt,List.range_succ]
theorem zec {w:World} {F:List Nat} {v:Value} {l:List Int} {k:Int} (h:Mine F w v l) (hn:l.length≤1073741824) (hk0:0≤k) (hk1:k≤4611686018427387904) :
   CALL tp 14 [v,.int .i64 k] w λr w'=>r=.int .i64 (k+l.length)∧Chg F w w'∧Mine F w' v (cnt k l.length):=by
 refine F14_call ?_;unfold F14;refine zam l.length (λi us w'=>us=[.int .i64 (k+i),.int .i64 (i:Int)]∧Chg F w w'∧Mine F w' v (cnt k i++l.drop i)) 0 (z0 _) ⟨by simp,Chg.refl _ _,by simpa [cnt] using h⟩ ?_;rintro i m u w2 hkm ⟨hu,hc2,hm2⟩;obtain ⟨hu1,hu2⟩:=zbL hu;rw [hu1,hu2];have hlen:(cnt k i++l.drop i).length=l.length:=by simp [zhx];omega
 refine zae zgR hm2.is ?_;rw [hlen];refine zag ?_;refine br (λhlt=>?_) (λhge=>?_)
 · have hi:i<l.length:=by omega
   refine zoR (α:=Int) zgR zij hm2 (by omega) (zrc (w:=w2) (x:=k+i) (by unfold I64;omega)).own λw3 hc3 hm3=>?_;refine zcL (by unfold I64;omega) ?_;refine zas ?_;refine ⟨m-1,by omega,i+1,by omega,by simp [Int.add_assoc],hc2.trans hc3,?_⟩
   have:(cnt k i++l.drop i).set i (k+i)=cnt k (i+1)++l.drop (i+1):=by
     rw [List.drop_eq_getElem_cons hi,List.set_append_right _ _ (by simp [zhx]),zhx,Nat.sub_self,List.set_cons_zero,ztl];simp
   rw [←this];exact hm3
 have:i=l.length:=by omega
 subst this;exact ⟨rfl,hc2,by simpa using hm2⟩
theorem znI {w w0:World} {v:Value} {n:Nat} {k:Int} (h:Is w0 v (cnt k n)) (hx:Ext w0 w) (hn:n≤1073741824) (hk0:0≤k) (hk1:k≤4611686018427387904) :
   CALL tp 15 [v,.int .i64 k] w λr w'=>r=.int .i64 (k+n)∧Ext w w':=by
 refine F15_call ?_;unfold F15;refine zam n (λi us w'=>us=[.int .i64 (k+i),.int .i64 (i:Int)]∧Ext w w') 0 (z0 _) ⟨by simp,Ext.refl w⟩ ?_;rintro i m u w2 hkm ⟨hu,hx2⟩;obtain ⟨hu1,hu2⟩:=zbL hu;rw [hu1,hu2];refine zae zgR h ?_;rw [zhx];refine zag ?_;refine br (λhlt=>?_) (λhge=>?_)
 · have hi:i<n:=by omega
   refine zac zgR zij h (by rw [zhx];exact hi) λb o hA=>?_;refine zad zij hA (hx.t hx2) λhI=>?_;refine zaB ?_;have e:(cnt k n)[i]'(by rw [zhx];exact hi)=k+i:=by simp [cnt]
   rw [e];refine br (λhne=>absurd rfl hne) (λ_=>?_);refine zcL (by unfold I64;omega) ?_;refine zas ?_;exact ⟨m-1,by omega,i+1,by omega,by simp [Int.add_assoc],hx2⟩
 have:i=n:=by omega
 subst this;exact ⟨rfl,hx2⟩
theorem u2:tp.underlying 2=some (TypeDesc.int IntKind.i64):=by kernel_rfl
theorem ty3:tyI tp 3=some (1,8,false):=by kernel_rfl
theorem u3:tp.underlying 3=some (TypeDesc.int IntKind.i64):=by kernel_rfl
theorem z3:zbO tp 3=true:=by kernel_rfl
theorem zc3:(tp.info? 3).map (λi=>(i.zero.map (·.cells.size)))=some (some 1):=by kernel_rfl
theorem ty4:tyI tp 4=some (1,1,false):=by kernel_rfl
theorem u4:tp.underlying 4=some TypeDesc.bool:=by kernel_rfl
theorem z4:zbO tp 4=true:=by kernel_rfl
theorem zc4:(tp.info? 4).map (λi=>(i.zero.map (·.cells.size)))=some (some 1):=by kernel_rfl
theorem ty5:tyI tp 5=some (1,1,false):=by kernel_rfl
theorem u5:tp.underlying 5=some (TypeDesc.int IntKind.u8):=by kernel_rfl
theorem z5:zbO tp 5=true:=by kernel_rfl
theorem u6:tp.underlying 6=some (TypeDesc.int IntKind.u8):=by kernel_rfl
theorem ty9:tyI tp 9=some (1,16,false):=by kernel_rfl
theorem u9:tp.underlying 9=some TypeDesc.string:=by kernel_rfl
theorem z9:zbO tp 9=true:=by kernel_rfl
theorem zc9:(tp.info? 9).map (λi=>(i.zero.map (·.cells.size)))=some (some 1):=by kernel_rfl
theorem u10:tp.underlying 10=some TypeDesc.string:=by kernel_rfl
theorem u11:tp.underlying 11=some TypeDesc.string:=by kernel_rfl
theorem u12:tp.underlying 12=some (TypeDesc.int IntKind.u64):=by kernel_rfl
theorem u21:tp.underlying 21=some (TypeDesc.int IntKind.i32):=by kernel_rfl
theorem zb1:tyI tp 22=some (1,24,false):=by kernel_rfl
theorem u22:tp.underlying 22=some (TypeDesc.slice 9):=by kernel_rfl
theorem z22:zbO tp 22=true:=by kernel_rfl
theorem za4:tyI tp 23=some (1,24,false):=by kernel_rfl
theorem u23:tp.underlying 23=some (TypeDesc.slice 3):=by kernel_rfl
theorem z23:zbO tp 23=true:=by kernel_rfl
theorem zwL:(tp.info? 23).map (λi=>(i.zero.map (·.cells.size)))=some (some 1):=by kernel_rfl
theorem zw4:tyI tp 24=some (1,24,false):=by kernel_rfl
theorem u24:tp.underlying 24=some (TypeDesc.slice 95):=by kernel_rfl
theorem z24:zbO tp 24=true:=by kernel_rfl
theorem z25:zbO tp 25=true:=by kernel_rfl
theorem zwT:tyI tp 26=some (5,120,true):=by kernel_rfl
theorem zw5:tp.underlying 26=some (TypeDesc.struct (Array.mk [Field.mk "Globals" 22 0 false "" "" 0,Field.mk "Locks" 22 1 false "" "" 24,Field.mk "Procs" 22 2 false "" "" 48,Field.mk "Entry" 23 3 false "" "" 72,Field.mk "Ins" 24 4 false "" "" 96])):=by kernel_rfl
theorem zuo:zdd tp 26 0=some 0:=by kernel_rfl
theorem zup:zdd tp 26 1=some 1:=by kernel_rfl
theorem zuq:zdd tp 26 2=some 2:=by kernel_rfl
theorem zur:zdd tp 26 3=some 3:=by kernel_rfl
theorem zus:zdd tp 26 4=some 4:=by kernel_rfl
theorem zcu:tyI tp 30=some (1,24,false):=by kernel_rfl
theorem u30:tp.underlying 30=some (TypeDesc.slice 111):=by kernel_rfl
theorem zbq:tyI tp 32=some (5,120,true):=by kernel_rfl
theorem zwU:zcz tp 32=some [.slice none 0 0,.slice none 0 0,.slice none 0 0,.slice none 0 0,.slice none 0 0]:=by kernel_rfl
theorem zdi:zdd tp 32 0=some 0:=by kernel_rfl
theorem zc5:zdd tp 32 1=some 1:=by kernel_rfl
theorem zbf:zdd tp 32 2=some 2:=by kernel_rfl
theorem za6:zdd tp 32 3=some 3:=by kernel_rfl
theorem zaD:zdd tp 32 4=some 4:=by kernel_rfl
theorem zhy:tyI tp 39=some (1,24,false):=by kernel_rfl
theorem u39:tp.underlying 39=some (TypeDesc.slice 23):=by kernel_rfl
theorem z39:zbO tp 39=true:=by kernel_rfl
theorem u43:tp.underlying 43=some (TypeDesc.slice 79):=by kernel_rfl
theorem zw6:tyI tp 49=some (3,72,true):=by kernel_rfl
theorem zw7:tp.underlying 49=some (TypeDesc.struct (Array.mk [Field.mk "Vars" 23 0 false "" "" 0,Field.mk "Owner" 23 1 false "" "" 24,Field.mk "Stacks" 39 2 false "" "" 48])):=by kernel_rfl
theorem zut:zdd tp 49 0=some 0:=by kernel_rfl
theorem zuu:zdd tp 49 1=some 1:=by kernel_rfl
theorem zuv:zdd tp 49 2=some 2:=by kernel_rfl
theorem zik:tyI tp 53=some (3,72,true):=by kernel_rfl
theorem z53:zbO tp 53=true:=by kernel_rfl
theorem zxk:zcz tp 53=some [.slice none 0 0,.slice none 0 0,.slice none 0 0]:=by kernel_rfl
theorem zgT:zdd tp 53 0=some 0:=by kernel_rfl
theorem zeN:zdd tp 53 1=some 1:=by kernel_rfl
theorem zcl:zdd tp 53 2=some 2:=by kernel_rfl
theorem u62:tp.underlying 62=some (TypeDesc.slice 106):=by kernel_rfl
theorem u72:tp.underlying 72=some (TypeDesc.slice 104):=by kernel_rfl
theorem zbX:tyI tp 79=some (3,24,true):=by kernel_rfl
theorem z79:zbO tp 79=true:=by kernel_rfl
theorem zre:(tp.info? 79).map (λi=>(i.zero.map (·.cells.size)))=some (some 3):=by kernel_rfl
theorem zwM:zcz tp 79=some [.int .i64 0,.int .i64 0,.int .i64 0]:=by kernel_rfl
theorem zgc:zdd tp 79 0=some 0:=by kernel_rfl
theorem zfw:zdd tp 79 1=some 1:=by kernel_rfl
theorem zgU:zdd tp 79 2=some 2:=by kernel_rfl
theorem zw8:tyI tp 91=some (1,24,false):=by kernel_rfl
theorem u91:tp.underlying 91=some (TypeDesc.slice 93):=by kernel_rfl
theorem zuw:tyI tp 93=some (4,56,true):=by kernel_rfl
theorem zxl:tp.underlying 93=some (TypeDesc.struct (Array.mk [Field.mk "Kind" 3 0 false "" "" 0,Field.mk "Num" 3 1 false "" "" 8,Field.mk "Name" 9 2 false "" "" 16,Field.mk "Kids" 91 3 false "" "" 32])):=by kernel_rfl
theorem zwj:zdd tp 93 0=some 0:=by kernel_rfl
theorem zwk:zdd tp 93 1=some 1:=by kernel_rfl
theorem zux:zdd tp 93 2=some 2:=by kernel_rfl
theorem zuy:zdd tp 93 3=some 3:=by kernel_rfl
theorem zv3:tyI tp 95=some (7,80,true):=by kernel_rfl
theorem zxm:tp.underlying 95=some (TypeDesc.struct (Array.mk [Field.mk "Op" 3 0 false "" "" 0,Field.mk "Arg" 3 1 false "" "" 8,Field.mk "Term" 93 2 false "" "" 16,Field.mk "To" 3 6 false "" "" 72])):=by kernel_rfl
theorem zwl:zdd tp 95 0=some 0:=by kernel_rfl
theorem zwm:zdd tp 95 1=some 1:=by kernel_rfl
theorem zuz:zdd tp 95 2=some 2:=by kernel_rfl
theorem zwn:zdd tp 95 3=some 6:=by kernel_rfl
theorem u99:tp.underlying 99=some (TypeDesc.slice 101):=by kernel_rfl
theorem zcd:tyI tp 101=some (1,24,false):=by kernel_rfl
theorem zcy:tp.underlying 101=some (TypeDesc.slice 4):=by kernel_rfl
theorem zwV:zbO tp 101=true:=by kernel_rfl
theorem zve:(tp.info? 101).map (λi=>(i.zero.map (·.cells.size)))=some (some 1):=by kernel_rfl
theorem zmf:tyI tp 104=some (3,24,true):=by kernel_rfl
theorem zw9:zbO tp 104=true:=by kernel_rfl
theorem zwo:(tp.info? 104).map (λi=>(i.zero.map (·.cells.size)))=some (some 3):=by kernel_rfl
theorem zwW:zcz tp 104=some [.int .i64 0,.int .i64 0,.int .i64 0]:=by kernel_rfl
theorem zk3:zdd tp 104 0=some 0:=by kernel_rfl
theorem zk4:zdd tp 104 1=some 1:=by kernel_rfl
theorem zrf:zdd tp 104 2=some 2:=by kernel_rfl
theorem zdQ:tyI tp 106=some (2,16,true):=by kernel_rfl
theorem zxa:zbO tp 106=true:=by kernel_rfl
theorem zwp:(tp.info? 106).map (λi=>(i.zero.map (·.cells.size)))=some (some 2):=by kernel_rfl
theorem ztm:zcz tp 106=some [.int .i64 0,.int .i64 0]:=by kernel_rfl
theorem ziT:zdd tp 106 0=some 0:=by kernel_rfl
theorem ziU:zdd tp 106 1=some 1:=by kernel_rfl
theorem zdw:tyI tp 107=some (1,24,false):=by kernel_rfl
theorem zfp:tp.underlying 107=some (TypeDesc.slice 109):=by kernel_rfl
theorem zbB:tyI tp 109=some (4,56,true):=by kernel_rfl
theorem zxn:zbO tp 109=true:=by kernel_rfl
theorem zwX:tp.underlying 109=some (TypeDesc.struct (Array.mk [Field.mk "Kind" 3 0 false "" "" 0,Field.mk "Num" 3 1 false "" "" 8,Field.mk "Name" 9 2 false "" "" 16,Field.mk "Kids" 107 3 false "" "" 32])):=by kernel_rfl
theorem zrg:zcz tp 109=some [.int .i64 0,.int .i64 0,.string ByteArray.empty,.slice none 0 0]:=by kernel_rfl
theorem zdj:zdd tp 109 0=some 0:=by kernel_rfl
theorem zcX:zdd tp 109 1=some 1:=by kernel_rfl
theorem zcA:zdd tp 109 2=some 2:=by kernel_rfl
theorem zbs:zdd tp 109 3=some 3:=by kernel_rfl
theorem zaO:tyI tp 111=some (7,80,true):=by kernel_rfl
theorem zxo:zbO tp 111=true:=by kernel_rfl
theorem zfx:zcz tp 111=some [.int .i64 0,.int .i64 0,.int .i64 0,.int .i64 0,.string ByteArray.empty,.slice none 0 0,.int .i64 0]:=by kernel_rfl
theorem zaM:zdd tp 111 0=some 0:=by kernel_rfl
theorem zaK:zdd tp 111 1=some 1:=by kernel_rfl
theorem zcf:zdd tp 111 2=some 2:=by kernel_rfl
theorem zcB:zdd tp 111 3=some 6:=by kernel_rfl
theorem zaZ:zdd tp 114 0=some 0:=by kernel_rfl
theorem zk5:zdd tp 114 1=some 5:=by kernel_rfl
theorem zk6:zdd tp 114 2=some 6:=by kernel_rfl
theorem znJ:zdd tp 114 3=some 7:=by kernel_rfl
theorem ziV:zdd tp 114 4=some 8:=by kernel_rfl
theorem zgj:zdd tp 114 5=some 9:=by kernel_rfl
theorem zgk:zdd tp 114 6=some 10:=by kernel_rfl
theorem zv4:tp.underlying 118=some (TypeDesc.slice 120):=by kernel_rfl
theorem znK:tyI tp 120=some (1,8,false):=by kernel_rfl
theorem ziq:tp.underlying 121=some (TypeDesc.int IntKind.u64):=by kernel_rfl
theorem zmg:tyI tp 130=some (1,24,false):=by kernel_rfl
theorem zhr:tp.underlying 130=some (TypeDesc.slice 134):=by kernel_rfl
theorem zb2:tyI tp 134=some (4,32,true):=by kernel_rfl
theorem zwN:zbO tp 134=true:=by kernel_rfl
theorem zpX:(tp.info? 134).map (λi=>(i.zero.map (·.cells.size)))=some (some 4):=by kernel_rfl
theorem zpY:zcz tp 134=some [.int .i64 0,.int .i64 0,.bool false,.int .i64 0]:=by kernel_rfl
theorem zeE:zdd tp 134 0=some 0:=by kernel_rfl
theorem ze6:zdd tp 134 1=some 1:=by kernel_rfl
theorem zhz:zdd tp 134 2=some 2:=by kernel_rfl
theorem zhA:zdd tp 134 3=some 3:=by kernel_rfl
theorem zv5:tp.underlying 147=some (TypeDesc.slice 130):=by kernel_rfl
theorem zgl:zdd tp 159 1=some 5:=by kernel_rfl
theorem ze7:zdd tp 159 2=some 6:=by kernel_rfl
theorem zk7:zdd tp 159 3=some 7:=by kernel_rfl
theorem zxb:tp.underlying 170=some (TypeDesc.slice 5):=by kernel_rfl
theorem zrh:tp.underlying 204=some (TypeDesc.slice 225):=by kernel_rfl
theorem zj8:tyI tp 225=some (2,16,true):=by kernel_rfl
theorem zxc:zbO tp 225=true:=by kernel_rfl
theorem zwq:(tp.info? 225).map (λi=>(i.zero.map (·.cells.size)))=some (some 2):=by kernel_rfl
theorem zri:zdd tp 225 0=some 0:=by kernel_rfl
theorem ziW:zdd tp 225 1=some 1:=by kernel_rfl
end Go.Proofs.YtifonhplnmpgaaaGreat
namespace Go.Sh
open Rep (rep)
section
variable {w:World} {b o:Nat}
theorem zmh {α β:Type} [Rep α] [Rep β] {F G:List Nat} {c1 c2:List Value} {x:α} {y:β} (h1:rep F w c1 x) (h2:rep G w c2 y):rep (F++G) w (c1++c2) (x,y):=⟨F,G,c1,c2,rfl,rfl,h1,h2⟩
theorem zeO {α:Type} [Rep α] (ha:Rep.agg α=false) {F:List Nat} {v:Value} {x:α} (h:OwnF F w v x):rep F w [v] x:=by
 obtain ⟨cs,hr,rfl⟩:=h;have hl:=Rep.len hr;rw [Rep.sz ha] at hl;obtain ⟨c,rfl⟩:=List.length_eq_one_iff.1 hl;simpa [mkv,ha] using hr
end
structure DRace where
 g:Int
 a:Int
 b:Int
theorem DRace.ext_iff {x y:DRace}:x=y↔(x.g=y.g∧x.a=y.a∧x.b=y.b):=⟨λh=>by rw [h];exact ⟨rfl,rfl,rfl⟩,λh=>by obtain ⟨h0,h1,h2⟩:=h;cases x;cases y;simp only at h0 h1 h2;simp only [h0,h1,h2]⟩
instance:DecidableEq DRace:=λx y=>decidable_of_iff (x.g=y.g∧x.a=y.a∧x.b=y.b) DRace.ext_iff.symm
instance:Rep DRace:=Rep.via λx=>(x.g,x.a,x.b)
theorem zdx {w:World} {b o:Nat} {x:DRace} (h:At w b o x):At w b (o+0) x.g:=zcQ (α:=Int) (β:=Int×Int) (p:=(x.g,x.a,x.b)) h
theorem zdy {w:World} {b o:Nat} {x:DRace} (h:At w b o x):At w b (o+1) x.a:=zcQ (α:=Int) (β:=Int) (p:=(x.a,x.b)) (zbp (α:=Int) (β:=Int×Int) (p:=(x.g,x.a,x.b)) h)
theorem zeP {w:World} {b o:Nat} {x:DRace} (h:At w b o x):At w b (o+2) x.b:=zbp (α:=Int) (β:=Int) (p:=(x.a,x.b)) (zbp (α:=Int) (β:=Int×Int) (p:=(x.g,x.a,x.b)) h)
instance:RepZ DRace:=⟨⟨(RepZ.zv:Int),(RepZ.zv:Int),(RepZ.zv:Int)⟩,RepZ.zc (Int×Int×Int),λw=>RepZ.zr (α:=Int×Int×Int) w⟩
theorem zmi {γ:Type} {H:List Nat→World→γ→Prop} {F:List Nat} {w:World} {b o:Nat} {G:List Nat} {x:DRace} {upd:DRace→γ} (h:Lens H F w b o G x upd) :
   ∃ G1,Lens H F w b (o+0) G1 x.g (λy=>upd ⟨y,x.a,x.b⟩):=by
 have h':Lens H F w b o G (x.g,x.a,x.b) (λp:Int×Int×Int=>upd ⟨p.1,p.2.1,p.2.2⟩):=⟨h.here,h.sub,λw' G' y' hc hO hs=>h.back w' G' _ hc hO hs⟩;obtain ⟨G0,h'⟩:=h'.fst;exact ⟨_,h'⟩
theorem zh4 {γ:Type} {H:List Nat→World→γ→Prop} {F:List Nat} {w:World} {b o:Nat} {G:List Nat} {x:DRace} {upd:DRace→γ} (h:Lens H F w b o G x upd) :
   ∃ G1,Lens H F w b (o+1) G1 x.a (λy=>upd ⟨x.g,y,x.b⟩):=by
 have h':Lens H F w b o G (x.g,x.a,x.b) (λp:Int×Int×Int=>upd ⟨p.1,p.2.1,p.2.2⟩):=⟨h.here,h.sub,λw' G' y' hc hO hs=>h.back w' G' _ hc hO hs⟩;obtain ⟨G0,h'⟩:=h'.snd;obtain ⟨G1,h'⟩:=h'.fst;exact ⟨_,h'⟩
theorem zh5 {γ:Type} {H:List Nat→World→γ→Prop} {F:List Nat} {w:World} {b o:Nat} {G:List Nat} {x:DRace} {upd:DRace→γ} (h:Lens H F w b o G x upd) :
   ∃ G1,Lens H F w b (o+2) G1 x.b (λy=>upd ⟨x.g,x.a,y⟩):=by
 have h':Lens H F w b o G (x.g,x.a,x.b) (λp:Int×Int×Int=>upd ⟨p.1,p.2.1,p.2.2⟩):=⟨h.here,h.sub,λw' G' y' hc hO hs=>h.back w' G' _ hc hO hs⟩;obtain ⟨G0,h'⟩:=h'.snd;obtain ⟨G1,h'⟩:=h'.snd;exact ⟨_,h'⟩
instance:Flat DRace:=⟨λh=>Flat.flat (α:=Int×Int×Int) h⟩
structure DState where
 vars:List Int
 owner:List Int
 stacks:List (List Int)
theorem DState.ext_iff {x y:DState}:x=y↔(x.vars=y.vars∧x.owner=y.owner∧x.stacks=y.stacks):=⟨λh=>by rw [h];exact ⟨rfl,rfl,rfl⟩,λh=>by obtain ⟨h0,h1,h2⟩:=h;cases x;cases y;simp only at h0 h1 h2;simp only [h0,h1,h2]⟩
instance:DecidableEq DState:=λx y=>decidable_of_iff (x.vars=y.vars∧x.owner=y.owner∧x.stacks=y.stacks) DState.ext_iff.symm
instance:Rep DState:=Rep.via λx=>(x.vars,x.owner,x.stacks)
theorem zcg {w:World} {b o:Nat} {x:DState} (h:At w b o x):At w b (o+0) x.vars:=zcQ (α:=List Int) (β:=(List Int)×(List (List Int))) (p:=(x.vars,x.owner,x.stacks)) h
theorem zbt {w:World} {b o:Nat} {x:DState} (h:At w b o x):At w b (o+1) x.owner:=zcQ (α:=List Int) (β:=(List (List Int))) (p:=(x.owner,x.stacks)) (zbp (α:=List Int) (β:=(List Int)×(List (List Int))) (p:=(x.vars,x.owner,x.stacks)) h)
theorem zaE {w:World} {b o:Nat} {x:DState} (h:At w b o x):At w b (o+2) x.stacks:=zbp (α:=List Int) (β:=(List (List Int))) (p:=(x.owner,x.stacks)) (zbp (α:=List Int) (β:=(List Int)×(List (List Int))) (p:=(x.vars,x.owner,x.stacks)) h)
instance:RepZ DState:=⟨⟨(RepZ.zv:List Int),(RepZ.zv:List Int),(RepZ.zv:List (List Int))⟩,RepZ.zc ((List Int)×(List Int)×(List (List Int))),λw=>RepZ.zr (α:=(List Int)×(List Int)×(List (List Int))) w⟩
theorem zpZ {w:World} {F:List Nat} {cs:List Value} {x:DState} (h:rep F w cs x):∃ F0 c0 F1 c1 F2 c2,F=(F0++(F1++F2))∧cs=(c0++(c1++c2))∧rep F0 w c0 x.vars∧rep F1 w c1 x.owner∧rep F2 w c2 x.stacks:=by
 obtain ⟨F0,G0,c0,d0,rfl,rfl,h0,h⟩:=h;obtain ⟨F1,G1,c1,d1,rfl,rfl,h1,h⟩:=h;exact ⟨_,_,_,_,_,_,rfl,rfl,h0,h1,h⟩
section
variable {w:World} {b o:Nat}
theorem ziX {v:Value} {x:DRace}:Is w v x↔v=.agg #[.int .i64 x.g,.int .i64 x.a,.int .i64 x.b]∧I64 x.g∧I64 x.a∧I64 x.b:=by
 constructor
 · rintro ⟨F,cs,⟨F1,F2,c1,c2,rfl,rfl,⟨rfl,rfl,h1⟩,⟨F3,F4,c3,c4,rfl,rfl,⟨rfl,rfl,h2⟩,⟨rfl,rfl,h3⟩⟩⟩,rfl⟩
   exact ⟨rfl,h1,h2,h3⟩
 rintro ⟨rfl,h1,h2,h3⟩;exact ⟨[],[.int .i64 x.g,.int .i64 x.a,.int .i64 x.b],⟨[],[],[.int .i64 x.g],[.int .i64 x.a,.int .i64 x.b],rfl,rfl,⟨rfl,rfl,h1⟩,[],[],[.int .i64 x.a],[.int .i64 x.b],rfl,rfl,⟨rfl,rfl,h2⟩,⟨rfl,rfl,h3⟩⟩,rfl⟩
theorem zmj {x:DRace} (h1:I64 x.g) (h2:I64 x.a) (h3:I64 x.b):Mine [] w (.agg #[.int .i64 x.g,.int .i64 x.a,.int .i64 x.b]) x:=
 ⟨⟨[.int .i64 x.g,.int .i64 x.a,.int .i64 x.b],⟨[],[],[.int .i64 x.g],[.int .i64 x.a,.int .i64 x.b],rfl,rfl,⟨rfl,rfl,h1⟩,[],[],[.int .i64 x.a],[.int .i64 x.b],rfl,rfl,⟨rfl,rfl,h2⟩,⟨rfl,rfl,h3⟩⟩,rfl⟩,List.nodup_nil,Wr.nil w⟩
theorem zkq {F G H:List Nat} {a b c:Value} {s:DState} (h1:Mine F w a s.vars) (h2:Mine G w b s.owner) (h3:Mine H w c s.stacks) (hn:(F++(G++H)).Nodup):Mine (F++(G++H)) w (.agg #[a,b,c]) s:=
 ⟨⟨[a,b,c],zmh (zeO rfl h1.own) (zmh (zeO rfl h2.own) (zeO rfl h3.own)),rfl⟩,hn,h1.wr.append (h2.wr.append h3.wr)⟩
end
end Go.Sh
namespace Go.Proofs.YtifonhplnmpgaaaGreat
open Go Go.Sh Go.Proofs
open Rep (rep)
theorem zvf {P:Program} {w:World} {K:Value→Prop} {t:TypeId} {x y:Operand} {a b:Bool} (ht:P.underlying t=some .bool) (k:K (.bool (decide (a≠b)))):RD P (bin .neq t x y (.bool a) (.bool b)) w K:=
 za7 (λw' _=>by
   have:=run_neq_bool (P:=P) w' t a b ht;cases a<;>cases b<;>simp_all [bin,eqGuard]) k
def sm {α:Type} (f:α→Nat) (l:List α):Nat:=(l.map f).sum
theorem zhB {α:Type} (f:α→Nat) {l:List α} {k:Nat} (h:k<l.length):sm f (l.take (k+1))=sm f (l.take k)+f l[k]:=by
 unfold sm;rw [tk h,List.map_append,List.sum_append];simp
theorem zuA {α:Type} (f:α→Nat) {l:List α} {x:α} (h:x∈l):f x≤sm f l:=by
 unfold sm
 induction l with
 | nil=>cases h
 | cons y l ih=>
   rw [List.map_cons,List.sum_cons];rcases List.mem_cons.1 h with rfl | h
   · omega
   have:=ih h;omega
def nLL (l:List (List Int)):Nat:=sm List.length l
theorem zoU {l:List (List Int)} {i:Nat} (hi:i<l.length):nLL (l.take (i+1))=nLL (l.take i)+l[i].length:=zhB _ hi
theorem zwr {l:List (List Int)} (i:Nat):nLL (l.take i)≤nLL l:=by
 conv=>rhs;rw [←List.take_append_drop i l]
 unfold nLL sm;rw [List.map_append,List.sum_append];omega
theorem zdz {w w1 w2:World} {v1 v2:Value} {l1 l2:List Int} (h1:Is w1 v1 l1) (hx1:Ext w1 w) (h2:Is w2 v2 l2) (hx2:Ext w2 w) :
   CALL tp 11 [v1,v2] w λr w'=>Ext w w'∧r=.bool (decide (l1=l2)):=zrd h1 h2 hx1 hx2
def F18 (a0 a1:Value) (w:World) (R:VW):Prop:=
 rN 39 3 a0 w λx7=>
 rN 39 3 a1 w λx9=>
 rB .neq 3 T0 T0 x7 x9 w λx10=>
 BR x10
 (R vF w)
 (LOOPI [5] [(iV 0)] w λu4 w n4=>
 rN 39 3 a0 w λx13=>
 rC (u4 5) x13 w λx14=>
 BR x14
 ((λw=>rX 39 a0 (u4 5) w λx19=>
 rL 23 x19 w λx20=>
 rX 39 a1 (u4 5) w λx23=>
 rL 23 x23 w λx24=>
 cL 11 [x20,x24] w λx25 w=>
 rT x25 w λx26=>
 BR x26
 (R vF w)
 (rI (u4 5) w λx16=>
 n4 [x16] w)) (World.drew1 w))
 (R vT w))
theorem F18_call {a0 a1 w R} (h:F18 a0 a1 w R):cL 18 [a0,a1] w R:=co (g:=(kf [] [(4,134215728,[5])] [(6,[0,1,2,3,4,5,6,7,8,9],0)])) Tryz.func18 h
theorem zp0 {w:World} {v0:Value} {W0:World} {l1:(List (List Int))} {v1:Value} {W1:World} {l2:(List (List Int))}  (h0:Is W0 v0 l1) (e0:Ext W0 w) (h1:Is W1 v1 l2) (e1:Ext W1 w)  :
   CALL tp 18 [v0,v1] w λr w'=>Ext w w'∧(r=.bool (decide (l1=l2))):=by
 refine F18_call ?_;unfold F18;have hl1:=zah h0;have hln7:=zah h0;refine zae u39 h0 ?_;have hln9:=zah h1;refine zae u39 h1 ?_;refine zaB ?_;refine br (λc1=>?_) (λc1=>?_)
 · refine ⟨Ext.refl w,?_⟩
   have:l1≠l2:=λe=>c1 (by rw [e]);simp [this]
 refine zam (l1.length) (λk us w'=>us=[.int .i64 (k:Int)]∧Ext w w'∧(l1.take k=l2.take k)) (0) (by omega) ⟨by simp,Ext.refl w,by simp⟩ ?_;rintro k m4 uu4 w1_ hk4 ⟨hu,η1,hinv⟩;try replace hu:=zbi hu
 try rw [hu]
 try clear hu
 have hln13:=zah h0;refine zae u39 h0 ?_;refine zag ?_;refine br (λc2=>?_) (λc2=>?_)
 · have η2:=zaj w1_
   refine zac u39 za4 h0 (by omega) λb19 o19 h19=>?_;refine zaa za4 h19 (e0.t (η1.t η2)) λv20 h20=>?_;refine zac u39 za4 h1 (by omega) λb23 o23 h23=>?_;refine zaa za4 h23 (e1.trans (η1.t η2)) λv24 h24=>?_;refine (zdz h20 (e0.t (η1.t η2)) h24 (e1.trans (η1.t η2))).mono ?_;rintro _ w3_ ⟨η3,rfl⟩;refine zaq ?_;refine br (λc3=>?_) (λc3=>?_)
   · refine ⟨(η1.t (η2.t η3)),?_⟩
     have:l1≠l2:=λe=>c3 (by subst e;rfl);simp [this]
   refine zas ?_;refine ⟨m4-1,by omega,k+1,by omega,by simp,(η1.t (η2.t η3)),?_⟩;rw [tk (by omega),tk (by omega),hinv,Decidable.not_not.1 c3]
 refine ⟨η1,?_⟩;rw [List.take_of_length_le (by omega),List.take_of_length_le (by omega)] at hinv;simp [hinv]
def F33 (a0 a1:Value) (w:World) (R:VW):Prop:=
 rN 23 3 a0 w λx7=>
 rB .sub 3 T0 T0 a1 x7 w λx8=>
 rB .lss 3 T0 U0 x8 (iV 0) w λx10=>
 BR x10
 (R (iV (-1)) w)
 (R x8 w)
theorem F33_call {a0 a1 w R} (h:F33 a0 a1 w R):cL 33 [a0,a1] w R:=co (g:=(kf [] [] [])) Tryz.func33 h
theorem zgV {w:World} {v0:Value} {W0:World} {l:(List Int)} {left:Int}  (h0:Is W0 v0 l) (e0:Ext W0 w) (hl0:-1≤left) (hl1:left≤1048576) :
   CALL tp 33 [v0,.int .i64 left] w λr w'=>Ext w w'∧(∃ n:Int,r=.int .i64 n∧-1≤n∧n≤left∧(0≤n→n+l.length≤left)):=by
 refine F33_call ?_;unfold F33;have hl:=zah h0;have hln7:=zah h0;refine zae u23 h0 ?_;refine zbd (by unfold I64;omega) ?_;refine zag ?_;refine br (λc1=>?_) (λc1=>?_)
 · refine ⟨Ext.refl w,?_⟩
   exact ⟨-1,rfl,by omega,by omega,by omega⟩
 refine ⟨Ext.refl w,?_⟩;exact ⟨_,rfl,by omega,by omega,by omega⟩
def F54 (a0 a1:Value) (w:World) (R:VW):Prop:=
 rN 39 3 a0 w λx8=>
 rB .sub 3 T0 T0 a1 x8 w λx9=>
 rB .lss 3 T0 U0 x9 (iV 0) w λx11=>
 BR x11
 (R (iV (-1)) w)
 (LOOPI [1,5] [x9,(iV 0)] w λu5 w n5=>
 rN 39 3 a0 w λx14=>
 rC (u5 5) x14 w λx15=>
 BR x15
 (rX 39 a0 (u5 5) w λx20=>
 rL 23 x20 w λx21=>
 cL 33 [x21,(u5 1)] w λx23 w=>
 rB .lss 3 T0 U0 x23 (iV 0) w λx25=>
 BR x25
 (R (iV (-1)) w)
 (rI (u5 5) w λx17=>
 n5 [x23,x17] w))
 (R (u5 1) w))
theorem F54_call {a0 a1 w R} (h:F54 a0 a1 w R):cL 54 [a0,a1] w R:=co (g:=(kf [] [(5,67104818,[1,5])] [])) Tryz.func54 h
theorem zp1 {w:World} {v0:Value} {W0:World} {l:(List (List Int))} {left:Int}  (h0:Is W0 v0 l) (e0:Ext W0 w) (hl0:-1≤left) (hl1:left≤1048576) :
   CALL tp 54 [v0,.int .i64 left] w λr w'=>Ext w w'∧(∃ n:Int,r=.int .i64 n∧-1≤n∧n≤left∧(0≤n→l.length≤left∧(∀ x∈l,(x.length:Int)≤left)∧n+l.length+nLL l≤left)):=by
 refine F54_call ?_;unfold F54;have hl:=zah h0;have hln8:=zah h0;refine zae u39 h0 ?_;refine zbd (by unfold I64;omega) ?_;refine zag ?_;refine br (λc1=>?_) (λc1=>?_)
 · refine ⟨Ext.refl w,?_⟩
   exact ⟨-1,rfl,by omega,by omega,by omega⟩
 refine zam (l.length) (λk us w'=>∃ q:Int,us=[.int .i64 q,.int .i64 (k:Int)]∧Ext w w'∧(0≤q∧q≤left∧(∀ x∈l.take k,(x.length:Int)≤left)∧q+l.length+nLL (l.take k)≤left)) (0) (by omega) ⟨left-l.length,by simp,Ext.refl w,by omega,by omega,by simp,by simp [nLL,sm]⟩ ?_;rintro k m5 uu5 w1_ hk5 ⟨q,hu,η1,hq0,hq1,hq2,hq3⟩;obtain ⟨hu0,hu1⟩:=zbL hu;try rw [hu0]
 try rw [hu1]
 try clear hu0 hu1
 have hln14:=zah h0;refine zae u39 h0 ?_;refine zag ?_;refine br (λc2=>?_) (λc2=>?_)
 · refine zac u39 za4 h0 (by omega) λb20 o20 h20=>?_
   refine zaa za4 h20 (e0.t η1) λv21 h21=>?_;refine (zgV h21 (e0.t η1) (by omega) (by omega)).mono ?_;rintro _ w2_ ⟨η2,n23,rfl,hn23⟩;refine zag ?_;refine br (λc3=>?_) (λc3=>?_)
   · refine ⟨(η1.t η2),?_⟩
     exact ⟨-1,rfl,by omega,by omega,by omega⟩
   refine zas ?_;refine ⟨m5-1,by omega,k+1,by omega,n23,by simp,(η1.t η2),?_⟩;refine ⟨by omega,by omega,λx hx=>?_,by rw [zoU (by omega)];have:=hn23.2.2 (by omega);omega⟩;rw [tk (by omega)] at hx;rcases List.mem_append.1 hx with hx | hx
   · exact hq2 x hx
   simp only [List.mem_cons,List.not_mem_nil,or_false] at hx;subst hx;have:=hn23.2.2 (by omega);omega
 refine ⟨η1,?_⟩;rw [List.take_of_length_le (by omega)] at hq2 hq3;exact ⟨q,rfl,by omega,by omega,λ_=>⟨by omega,hq2,hq3⟩⟩
def F26 (a0 a1:Value) (w:World) (R:VW):Prop:=
 oX 49 a0 w λx2 w=>
 rF 49 x2 0 w λx5=>
 rL 23 x5 w λx6=>
 cL 33 [x6,a1] w λx8 w=>
 rB .lss 3 T0 U0 x8 (iV 0) w λx10=>
 BR x10
 (R (iV (-1)) w)
 (rF 49 x2 1 w λx11=>
 rL 23 x11 w λx12=>
 cL 33 [x12,x8] w λx14 w=>
 rB .lss 3 T0 U0 x14 (iV 0) w λx16=>
 BR x16
 (R (iV (-1)) w)
 (rF 49 x2 2 w λx17=>
 rL 39 x17 w λx18=>
 cL 54 [x18,x14] w λx20 w=>
 rB .lss 3 T0 U0 x20 (iV 0) w λx22=>
 BR x22
 (R (iV (-1)) w)
 (R x20 w)))
theorem F26_call {a0 a1 w R} (h:F26 a0 a1 w R):cL 26 [a0,a1] w R:=co (g:=(kf [] [] [])) Tryz.func26 h
theorem zp2 {w:World} {v0:Value} {W0:World} {s:DState} {left:Int}  (h0:Is W0 v0 s) (e0:Ext W0 w) (hl0:-1≤left) (hl1:left≤1048576) :
   CALL tp 26 [v0,.int .i64 left] w λr w'=>Ext w w'∧(∃ n:Int,r=.int .i64 n∧-1≤n∧n≤left∧(0≤n→(s.vars.length:Int)≤left∧(s.owner.length:Int)≤left∧(s.stacks.length:Int)≤left∧(∀ x∈s.stacks,(x.length:Int)≤left)∧n+s.vars.length+s.owner.length+s.stacks.length+nLL s.stacks≤left)):=by
 refine F26_call ?_;unfold F26;refine zar zw6 rfl h0 e0 λw1_ η1 hA2 hV2=>?_;refine zab zut ?_;refine zaa za4 (zcg hA2) (Ext.refl w1_) λv6 h6=>?_;refine (zgV h6 (Ext.refl w1_) (by omega) (by omega)).mono ?_;rintro _ w2_ ⟨η2,n8,rfl,hn8⟩;refine zag ?_;refine br (λc1=>?_) (λc1=>?_)
 · refine ⟨(η1.t η2),?_⟩
   exact ⟨-1,rfl,by omega,by omega,by omega⟩
 refine zab zuu ?_;refine zaa za4 (zbt hA2) η2 λv12 h12=>?_;refine (zgV h12 η2 (by omega) (by omega)).mono ?_;rintro _ w3_ ⟨η3,n14,rfl,hn14⟩;refine zag ?_;refine br (λc2=>?_) (λc2=>?_)
 · refine ⟨(η1.t (η2.t η3)),?_⟩
   exact ⟨-1,rfl,by omega,by omega,by omega⟩
 refine zab zuv ?_;refine zaa zhy (zaE hA2) (η2.t η3) λv18 h18=>?_;refine (zp1 h18 (η2.t η3) (by omega) (by omega)).mono ?_;rintro _ w4_ ⟨η4,n20,rfl,hn20⟩;refine zag ?_;refine br (λc3=>?_) (λc3=>?_)
 · refine ⟨(η1.t (η2.t (η3.t η4))),?_⟩
   exact ⟨-1,rfl,by omega,by omega,by omega⟩
 refine ⟨(η1.t (η2.t (η3.t η4))),?_⟩;obtain ⟨hA1,hA2,hA3⟩:=hn8;obtain ⟨hB1,hB2,hB3⟩:=hn14;obtain ⟨hC1,hC2,hC3⟩:=hn20;have h1:=hA3 (by omega);have h2:=hB3 (by omega);have h3:=hC3 (by omega);exact ⟨_,rfl,by omega,by omega,λ_=>⟨by omega,by omega,by omega,λx hx=>by have:=h3.2.1 x hx;omega,by have:=h3.2.2;omega⟩⟩
def F30 (a0 a1:Value) (w:World) (R:VW):Prop:=
 oX 53 a0 w λx2 w=>
 oX 53 a1 w λx3 w=>
 rF 53 x2 0 w λx5=>
 rL 23 x5 w λx6=>
 rF 53 x3 0 w λx7=>
 rL 23 x7 w λx8=>
 cL 11 [x6,x8] w λx9 w=>
 rT x9 w λx10=>
 BR x10
 (R vF w)
 (rF 53 x2 1 w λx11=>
 rL 23 x11 w λx12=>
 rF 53 x3 1 w λx13=>
 rL 23 x13 w λx14=>
 cL 11 [x12,x14] w λx15 w=>
 rT x15 w λx16=>
 BR x16
 (R vF w)
 (rF 53 x2 2 w λx17=>
 rL 39 x17 w λx18=>
 rF 53 x3 2 w λx19=>
 rL 39 x19 w λx20=>
 cL 18 [x18,x20] w λx21 w=>
 rT x21 w λx22=>
 BR x22
 (R vF w)
 (R vT w)))
theorem F30_call {a0 a1 w R} (h:F30 a0 a1 w R):cL 30 [a0,a1] w R:=co (g:=(kf [] [] [])) Tryz.func30 h
theorem zp3 {w:World} {v0:Value} {W0:World} {s1:DState} {v1:Value} {W1:World} {s2:DState}  (h0:Is W0 v0 s1) (e0:Ext W0 w) (h1:Is W1 v1 s2) (e1:Ext W1 w)  :
   CALL tp 30 [v0,v1] w λr w'=>Ext w w'∧(r=.bool (decide (s1=s2))):=by
 refine F30_call ?_;unfold F30;refine zar zik rfl h0 e0 λw1_ η1 hA2 hV2=>?_;refine zar zik rfl h1 (e1.trans η1) λw2_ η2 hA3 hV3=>?_;refine zab zgT ?_;refine zaa za4 (zcg hA2) η2 λv6 h6=>?_;refine zab zgT ?_;refine zaa za4 (zcg hA3) (Ext.refl w2_) λv8 h8=>?_;refine (zdz h6 η2 h8 (Ext.refl w2_)).mono ?_;rintro _ w3_ ⟨η3,rfl⟩;refine zaq ?_;refine br (λc1=>?_) (λc1=>?_)
 · refine ⟨(η1.t (η2.t η3)),?_⟩
   have:s1≠s2:=λe=>c1 (by rw [e]);simp [this]
 refine zab zeN ?_;refine zaa za4 (zbt hA2) (η2.t η3) λv12 h12=>?_;refine zab zeN ?_;refine zaa za4 (zbt hA3) η3 λv14 h14=>?_;refine (zdz h12 (η2.t η3) h14 η3).mono ?_;rintro _ w4_ ⟨η4,rfl⟩;refine zaq ?_;refine br (λc2=>?_) (λc2=>?_)
 · refine ⟨(η1.t (η2.t (η3.t η4))),?_⟩
   have:s1≠s2:=λe=>c2 (by rw [e]);simp [this]
 refine zab zcl ?_;refine zaa zhy (zaE hA2) (η2.t (η3.t η4)) λv18 h18=>?_;refine zab zcl ?_;refine zaa zhy (zaE hA3) (η3.t η4) λv20 h20=>?_;refine (zp0 h18 (η2.t (η3.t η4)) h20 (η3.t η4)).mono ?_;rintro _ w5_ ⟨η5,rfl⟩;refine zaq ?_;refine br (λc3=>?_) (λc3=>?_)
 · refine ⟨(η1.t (η2.t (η3.t (η4.t η5)))),?_⟩
   have:s1≠s2:=λe=>c3 (by rw [e]);simp [this]
 refine ⟨(η1.t (η2.t (η3.t (η4.t η5)))),?_⟩
 have:s1=s2:=by
   cases s1;cases s2;simp only [Decidable.not_not] at c1 c2 c3;rw [c1,c2,c3]
 simp [this]
def F53 (a0 a1:Value) (w:World) (R:VW):Prop:=
 oX 79 a0 w λx2 w=>
 oX 79 a1 w λx3 w=>
 rF 79 x2 0 w λx5=>
 rL 3 x5 w λx6=>
 rF 79 x3 0 w λx7=>
 rL 3 x7 w λx8=>
 rB .neq 3 T0 T0 x6 x8 w λx9=>
 BR x9
 (R vF w)
 (rF 79 x2 1 w λx10=>
 rL 3 x10 w λx11=>
 rF 79 x3 1 w λx12=>
 rL 3 x12 w λx13=>
 rB .neq 3 T0 T0 x11 x13 w λx14=>
 BR x14
 (R vF w)
 (rF 79 x2 2 w λx15=>
 rL 3 x15 w λx16=>
 rF 79 x3 2 w λx17=>
 rL 3 x17 w λx18=>
 rB .neq 3 T0 T0 x16 x18 w λx19=>
 BR x19
 (R vF w)
 (R vT w)))
theorem F53_call {a0 a1 w R} (h:F53 a0 a1 w R):cL 53 [a0,a1] w R:=co (g:=(kf [] [] [])) Tryz.func53 h
theorem zrj {w:World} {v0:Value} {W0:World} {s1:DRace} {v1:Value} {W1:World} {s2:DRace}  (h0:Is W0 v0 s1) (e0:Ext W0 w) (h1:Is W1 v1 s2) (e1:Ext W1 w)  :
   CALL tp 53 [v0,v1] w λr w'=>Ext w w'∧(r=.bool (decide (s1=s2))):=by
 refine F53_call ?_;unfold F53;refine zar zbX rfl h0 e0 λw1_ η1 hA2 hV2=>?_;refine zar zbX rfl h1 (e1.trans η1) λw2_ η2 hA3 hV3=>?_;refine zab zgc ?_;refine zad ty3 (zdx hA2) η2 λhI6=>?_;refine zab zgc ?_;refine zad ty3 (zdx hA3) (Ext.refl w2_) λhI8=>?_;refine zaB ?_;refine br (λc1=>?_) (λc1=>?_)
 · refine ⟨(η1.t η2),?_⟩
   have:s1≠s2:=λe=>c1 (by rw [e]);simp [this]
 refine zab zfw ?_;refine zad ty3 (zdy hA2) η2 λhI11=>?_;refine zab zfw ?_;refine zad ty3 (zdy hA3) (Ext.refl w2_) λhI13=>?_;refine zaB ?_;refine br (λc2=>?_) (λc2=>?_)
 · refine ⟨(η1.t η2),?_⟩
   have:s1≠s2:=λe=>c2 (by rw [e]);simp [this]
 refine zab zgU ?_;refine zad ty3 (zeP hA2) η2 λhI16=>?_;refine zab zgU ?_;refine zad ty3 (zeP hA3) (Ext.refl w2_) λhI18=>?_;refine zaB ?_;refine br (λc3=>?_) (λc3=>?_)
 · refine ⟨(η1.t η2),?_⟩
   have:s1≠s2:=λe=>c3 (by rw [e]);simp [this]
 refine ⟨(η1.t η2),?_⟩
 have:s1=s2:=by
   cases s1;cases s2;simp only [ne_eq,Decidable.not_not] at c1 c2 c3;rw [c1,c2,c3]
 simp [this]
def F23 (a0 a1:Value) (w:World) (R:VW):Prop:=
 rN 43 3 a0 w λx7=>
 rN 43 3 a1 w λx9=>
 rB .neq 3 T0 T0 x7 x9 w λx10=>
 BR x10
 (R vF w)
 (LOOPI [5] [(iV 0)] w λu4 w n4=>
 rN 43 3 a0 w λx13=>
 rC (u4 5) x13 w λx14=>
 BR x14
 ((λw=>rX 43 a0 (u4 5) w λx19=>
 rL 79 x19 w λx20=>
 rX 43 a1 (u4 5) w λx23=>
 rL 79 x23 w λx24=>
 cL 53 [x20,x24] w λx25 w=>
 rT x25 w λx26=>
 BR x26
 (R vF w)
 (rI (u4 5) w λx16=>
 n4 [x16] w)) (World.drew1 w))
 (R vT w))
theorem F23_call {a0 a1 w R} (h:F23 a0 a1 w R):cL 23 [a0,a1] w R:=co (g:=(kf [] [(4,134215728,[5])] [(6,[0,1,2,3,4,5,6,7,8,9],0)])) Tryz.func23 h
theorem zhC {w:World} {v0:Value} {W0:World} {l1:(List DRace)} {v1:Value} {W1:World} {l2:(List DRace)}  (h0:Is W0 v0 l1) (e0:Ext W0 w) (h1:Is W1 v1 l2) (e1:Ext W1 w)  :
   CALL tp 23 [v0,v1] w λr w'=>Ext w w'∧(r=.bool (decide (l1=l2))):=by
 refine F23_call ?_;unfold F23;have hl1:=zah h0;have hln7:=zah h0;refine zae u43 h0 ?_;have hln9:=zah h1;refine zae u43 h1 ?_;refine zaB ?_;refine br (λc1=>?_) (λc1=>?_)
 · refine ⟨Ext.refl w,?_⟩
   have:l1≠l2:=λe=>c1 (by rw [e]);simp [this]
 refine zam (l1.length) (λk us w'=>us=[.int .i64 (k:Int)]∧Ext w w'∧(l1.take k=l2.take k)) (0) (by omega) ⟨by simp,Ext.refl w,by simp⟩ ?_;rintro k m4 uu4 w1_ hk4 ⟨hu,η1,hinv⟩;try replace hu:=zbi hu
 try rw [hu]
 try clear hu
 have hln13:=zah h0;refine zae u43 h0 ?_;refine zag ?_;refine br (λc2=>?_) (λc2=>?_)
 · have η2:=zaj w1_
   refine zac u43 zbX h0 (by omega) λb19 o19 h19=>?_;refine zaa zbX h19 (e0.t (η1.t η2)) λv20 h20=>?_;refine zac u43 zbX h1 (by omega) λb23 o23 h23=>?_;refine zaa zbX h23 (e1.trans (η1.t η2)) λv24 h24=>?_;refine (zrj h20 (e0.t (η1.t η2)) h24 (e1.trans (η1.t η2))).mono ?_;rintro _ w3_ ⟨η3,rfl⟩;refine zaq ?_;refine br (λc3=>?_) (λc3=>?_)
   · refine ⟨(η1.t (η2.t η3)),?_⟩
     have:l1≠l2:=λe=>c3 (by subst e;rfl);simp [this]
   refine zas ?_;refine ⟨m4-1,by omega,k+1,by omega,by simp,(η1.t (η2.t η3)),?_⟩;rw [tk (by omega),tk (by omega),hinv,Decidable.not_not.1 c3]
 refine ⟨η1,?_⟩;rw [List.take_of_length_le (by omega),List.take_of_length_le (by omega)] at hinv;simp [hinv]
def F125 (a0 a1 a2:Value) (w:World) (R:VW):Prop:=
 rB .geq 3 T0 T0 a0 a1 w λx9=>
 BR x9
 (rB .leq 3 T0 T0 a0 a2 w λx13=>
 R x13 w)
 (R vF w)
theorem F125_call {a0 a1 a2 w R} (h:F125 a0 a1 a2 w R):cL 125 [a0,a1,a2] w R:=co (g:=(kf [] [] [])) Tryz.func125 h
theorem l01In_ok {w:World} {a:Int} {b:Int} {c:Int}    :
   CALL tp 125 [.int .i64 a,.int .i64 b,.int .i64 c] w λr w'=>Ext w w'∧(r=.bool (decide (b≤a∧a≤c))):=by
 refine F125_call ?_;unfold F125;refine zb0 ?_;refine br (λc1=>?_) (λc1=>?_)
 · refine zdV ?_
   refine ⟨Ext.refl w,?_⟩;simp [c1]
 refine ⟨Ext.refl w,?_⟩;simp [c1]
def zd7 (s:DState) (t:Int):Int:=if h:0≤t∧t.toNat<s.stacks.length then (s.stacks[t.toNat]'h.2).getLastD (-1) else -1
theorem ziY {l:List Int} (h:l≠[]) (hi:((l.length:Int)-1).toNat<l.length):l[((l.length:Int)-1).toNat]'hi=l.getLastD (-1):=by
 have e:((l.length:Int)-1).toNat=l.length-1:=by omega
 simp only [e];rw [List.getLastD_eq_getLast?,List.getLast?_eq_getElem?,List.getElem?_eq_getElem (by omega)];rfl
def F99 (a0 a1:Value) (w:World) (R:VW):Prop:=
 oX 53 a0 w λx2 w=>
 rF 53 x2 2 w λx6=>
 rL 39 x6 w λx7=>
 rN 39 3 x7 w λx8=>
 rB .sub 3 T0 U0 x8 (iV 1) w λx9=>
 cL 125 [a1,(iV 0),x9] w λx10 w=>
 rT x10 w λx11=>
 BR x11
 (R (iV (-1)) w)
 (rF 53 x2 2 w λx13=>
 rL 39 x13 w λx14=>
 rX 39 x14 a1 w λx16=>
 rL 23 x16 w λx17=>
 rN 23 3 x17 w λx18=>
 rQ x18 (iV 0) w λx19=>
 BR x19
 (R (iV (-1)) w)
 ((λw=>rF 53 x2 2 w λx21=>
 rL 39 x21 w λx22=>
 rX 39 x22 a1 w λx24=>
 rL 23 x24 w λx25=>
 rF 53 x2 2 w λx26=>
 rL 39 x26 w λx27=>
 rX 39 x27 a1 w λx29=>
 rL 23 x29 w λx30=>
 rN 23 3 x30 w λx31=>
 rB .sub 3 T0 U0 x31 (iV 1) w λx32=>
 rX 23 x25 x32 w λx33=>
 rL 3 x33 w λx34=>
 R x34 w) (World.drew1 w)))
theorem F99_call {a0 a1 w R} (h:F99 a0 a1 w R):cL 99 [a0,a1] w R:=co (g:=(kf [] [] [(3,[0,1,2,3,4,5,6,7,8,9,10,11,12,13,14],0)])) Tryz.func99 h
theorem zgm {w:World} {v0:Value} {W0:World} {s:DState} {t:Int}  (h0:Is W0 v0 s) (e0:Ext W0 w)  :
   CALL tp 99 [v0,.int .i64 t] w λr w'=>Ext w w'∧(r=.int .i64 (zd7 s t)):=by
 refine F99_call ?_;unfold F99;refine zar zik rfl h0 e0 λw1_ η1 hA2 hV2=>?_;refine zab zcl ?_;refine zaa zhy (zaE hA2) (Ext.refl w1_) λv7 h7=>?_;have hln8:=zah h7;refine zae u39 h7 ?_;refine zbd (by unfold I64;omega) ?_;refine (l01In_ok ).mono ?_;rintro _ w2_ ⟨η2,rfl⟩;refine zaq ?_;refine br (λc1=>?_) (λc1=>?_)
 · refine ⟨(η1.t η2),?_⟩
   unfold zd7;rw [dif_neg (by omega)]
 refine zab zcl ?_;refine zaa zhy (zaE hA2) η2 λv14 h14=>?_;refine zaW u39 za4 h14 (by omega) (by omega) λb16 o16 h16=>?_;refine zaa za4 h16 η2 λv17 h17=>?_;have hln18:=zah h17;refine zae u23 h17 ?_;refine zao ?_;refine br (λc2=>?_) (λc2=>?_)
 · refine ⟨(η1.t η2),?_⟩
   unfold zd7;rw [dif_pos (by omega)];have:s.stacks[t.toNat]'(by omega)=[]:=List.eq_nil_of_length_eq_zero (by omega);rw [this];rfl
 have η3:=zaj w2_;refine zab zcl ?_;refine zaa zhy (zaE hA2) (η2.t η3) λv22 h22=>?_;refine zaW u39 za4 h22 (by omega) (by omega) λb24 o24 h24=>?_;refine zaa za4 h24 (η2.t η3) λv25 h25=>?_;refine zab zcl ?_;refine zaa zhy (zaE hA2) (η2.t η3) λv27 h27=>?_;refine zaW u39 za4 h27 (by omega) (by omega) λb29 o29 h29=>?_;refine zaa za4 h29 (η2.t η3) λv30 h30=>?_;have hln31:=zah h30;refine zae u23 h30 ?_;refine zbd (by unfold I64;omega) ?_;refine zaW u23 ty3 h25 (by omega) (by omega) λb33 o33 h33=>?_;refine zad ty3 h33 (η2.t η3) λhI34=>?_;refine ⟨(η1.t (η2.t η3)),?_⟩;unfold zd7;rw [dif_pos (by omega)];rw [ziY (λe=>by rw [e] at c2;simp at c2)]
def F112 (a0 a1:Value) (w:World) (R:VW):Prop:=
 oX 53 a0 w λx2 w=>
 rB .lss 3 T0 U0 a1 (iV 0) w λx6=>
 BR x6
 (R (iV (-1)) w)
 (rF 53 x2 2 w λx9=>
 rL 39 x9 w λx10=>
 rN 39 3 x10 w λx11=>
 rB .geq 3 T0 T0 a1 x11 w λx12=>
 BR x12
 (R (iV (-1)) w)
 (rF 53 x2 2 w λx15=>
 rL 39 x15 w λx16=>
 rX 39 x16 a1 w λx18=>
 rL 23 x18 w λx19=>
 rN 23 3 x19 w λx20=>
 rQ x20 (iV 0) w λx21=>
 BR x21
 (R (iV (-1)) w)
 ((λw=>rF 53 x2 2 w λx23=>
 rL 39 x23 w λx24=>
 rX 39 x24 a1 w λx26=>
 rL 23 x26 w λx27=>
 rF 53 x2 2 w λx28=>
 rL 39 x28 w λx29=>
 rX 39 x29 a1 w λx31=>
 rL 23 x31 w λx32=>
 rN 23 3 x32 w λx33=>
 rB .sub 3 T0 U0 x33 (iV 1) w λx34=>
 rX 23 x27 x34 w λx35=>
 rL 3 x35 w λx36=>
 R x36 w) (World.drew1 w))))
theorem F112_call {a0 a1 w R} (h:F112 a0 a1 w R):cL 112 [a0,a1] w R:=co (g:=(kf [] [] [(3,[0,1,2,3,4,5,6,7,8,9,10,11,12,13,14],0)])) Tryz.func112 h
theorem ziZ {w:World} {v0:Value} {W0:World} {s:DState} {t:Int}  (h0:Is W0 v0 s) (e0:Ext W0 w)  :
   CALL tp 112 [v0,.int .i64 t] w λr w'=>Ext w w'∧(r=.int .i64 (zd7 s t)):=by
 refine F112_call ?_;unfold F112;refine zar zik rfl h0 e0 λw1_ η1 hA2 hV2=>?_;refine zag ?_;refine br (λc1=>?_) (λc1=>?_)
 · refine ⟨η1,?_⟩
   unfold zd7;rw [dif_neg (by omega)]
 refine zab zcl ?_;refine zaa zhy (zaE hA2) (Ext.refl w1_) λv10 h10=>?_;have hln11:=zah h10;refine zae u39 h10 ?_;refine zb0 ?_;refine br (λc2=>?_) (λc2=>?_)
 · refine ⟨η1,?_⟩
   unfold zd7;rw [dif_neg (by omega)]
 refine zab zcl ?_;refine zaa zhy (zaE hA2) (Ext.refl w1_) λv16 h16=>?_;refine zaW u39 za4 h16 (by omega) (by omega) λb18 o18 h18=>?_;refine zaa za4 h18 (Ext.refl w1_) λv19 h19=>?_;have hln20:=zah h19;refine zae u23 h19 ?_;refine zao ?_;refine br (λc3=>?_) (λc3=>?_)
 · refine ⟨η1,?_⟩
   unfold zd7;rw [dif_pos (by omega)];have:s.stacks[t.toNat]'(by omega)=[]:=List.eq_nil_of_length_eq_zero (by omega);rw [this];rfl
 have η2:=zaj w1_;refine zab zcl ?_;refine zaa zhy (zaE hA2) η2 λv24 h24=>?_;refine zaW u39 za4 h24 (by omega) (by omega) λb26 o26 h26=>?_;refine zaa za4 h26 η2 λv27 h27=>?_;refine zab zcl ?_;refine zaa zhy (zaE hA2) η2 λv29 h29=>?_;refine zaW u39 za4 h29 (by omega) (by omega) λb31 o31 h31=>?_;refine zaa za4 h31 η2 λv32 h32=>?_;have hln33:=zah h32;refine zae u23 h32 ?_;refine zbd (by unfold I64;omega) ?_;refine zaW u23 ty3 h27 (by omega) (by omega) λb35 o35 h35=>?_;refine zad ty3 h35 η2 λhI36=>?_;refine ⟨(η1.t η2),?_⟩;unfold zd7;rw [dif_pos (by omega)];rw [ziY (λe=>by rw [e] at c3;simp at c3)]
structure DArc where
 fr:Int
 to:Int
theorem DArc.ext_iff {x y:DArc}:x=y↔(x.fr=y.fr∧x.to=y.to):=⟨λh=>by rw [h];exact ⟨rfl,rfl⟩,λh=>by obtain ⟨h0,h1⟩:=h;cases x;cases y;simp only at h0 h1;simp only [h0,h1]⟩
instance:DecidableEq DArc:=λx y=>decidable_of_iff (x.fr=y.fr∧x.to=y.to) DArc.ext_iff.symm
instance:Rep DArc:=Rep.via λx=>(x.fr,x.to)
theorem zfy {w:World} {b o:Nat} {x:DArc} (h:At w b o x):At w b (o+0) x.fr:=zcQ (α:=Int) (β:=Int) (p:=(x.fr,x.to)) h
theorem zfz {w:World} {b o:Nat} {x:DArc} (h:At w b o x):At w b (o+1) x.to:=zbp (α:=Int) (β:=Int) (p:=(x.fr,x.to)) h
instance:RepZ DArc:=⟨⟨(RepZ.zv:Int),(RepZ.zv:Int)⟩,RepZ.zc (Int×Int),λw=>RepZ.zr (α:=Int×Int) w⟩
instance:Flat DArc:=⟨λh=>Flat.flat (α:=Int×Int) h⟩
noncomputable def nxA (n:Nat) (A:List DArc) (i:Nat):List Nat:=zaY n λj=>i<n∧(⟨i,j⟩:DArc)∈A
theorem zuB {n:Nat} {A:List DArc}:∀ i j,j∈nxA n A i→i<n∧j<n:=λi j h=>by
 obtain ⟨h1,h2⟩:=zaJ.1 h;exact ⟨h2.1,h1⟩
def zoV (nx:Nat→List Nat) (p:List Nat):Prop:=∃ x∈p,RP nx x x
end Go.Proofs.YtifonhplnmpgaaaGreat
namespace Go.Sh
open Go.RowKit (Below)
open Rep (rep)
theorem zoW (off:Nat):∀ (l:List Value) (k:Nat) (cs:Array Value),
   ((l.zipIdx k).foldl (λ(cs:Array Value) (p:Value×Nat)=>cs.setIfInBounds (off+p.2) p.1) cs).size=cs.size ∧
   ∀ i,((l.zipIdx k).foldl (λ(cs:Array Value) (p:Value×Nat)=>cs.setIfInBounds (off+p.2) p.1) cs)[i]?=if off+k≤i∧i<off+k+l.length∧i<cs.size then l[i-(off+k)]? else cs[i]?
 | [],k,cs=>by
   refine ⟨rfl,λi=>?_⟩;rw [if_neg (by simp;omega)];rfl
 | v :: l,k,cs=>by
   obtain ⟨h1,h2⟩:=zoW off l (k+1) (cs.setIfInBounds (off+k) v);simp only [List.zipIdx_cons,List.foldl_cons];refine ⟨by rw [h1];simp,λi=>?_⟩;rw [h2];simp only [Array.size_setIfInBounds,List.length_cons];by_cases hi:i=off+k
   · subst hi
     rw [if_neg (by omega)];by_cases hs:off+k<cs.size
     · rw [if_pos (by omega)];simp [hs]
     rw [if_neg (by omega),Array.getElem?_eq_none (by rw [Array.size_setIfInBounds];omega),Array.getElem?_eq_none (by omega)]
   by_cases hr:off+(k+1)≤i∧i<off+(k+1)+l.length∧i<cs.size
   · rw [if_pos hr,if_pos (by omega)]
     have:i-(off+k)=(i-(off+(k+1)))+1:=by omega
     rw [this,List.getElem?_cons_succ]
   rw [if_neg hr,if_neg (by omega),Array.getElem?_setIfInBounds_ne (by omega)]
theorem zoX (v:Value) (cells:Array Value) (s:Nat) (hv:v.cells.size=s) (hc:cells.size=s):Instr.fill (λi=>some (i*s,s)) cells [(0,v)]=some v.cells:=by
 unfold Instr.fill;simp only [Nat.zero_mul];rw [if_neg (by simp;omega)];unfold Instr.fill;congr 1;obtain ⟨h1,h2⟩:=zoW 0 v.cells.toList 0 cells
 have e:v.cells.zipIdx.foldl (λ(cs:Array Value) (x:Value×Nat)=>match x with | (c,j)=>cs.setIfInBounds (0+j) c) cells
     = (v.cells.toList.zipIdx 0).foldl (λ(cs:Array Value) (p:Value×Nat)=>cs.setIfInBounds (0+p.2) p.1) cells:=by
   rw [←Array.foldl_toList,Array.toList_zipIdx]
 rw [e];apply Array.ext_getElem?;intro i;rw [h2];by_cases hi:i<s
 · rw [if_pos (by simp;omega)];simp
 rw [if_neg (by simp;omega),Array.getElem?_eq_none (by omega),Array.getElem?_eq_none (by omega)]
section
variable {w w' w'':World} {lo hi a b:Nat}
end
def RowI {α:Type} [Rep α] (lo hi:Nat) (e:TypeId) (w:World) (v:Value) (l:List α):Prop:=(∃ a,v=.slice a 0 0∧l=[])∨∃ F,RowF F e w v l∧F.Nodup∧∀ b∈F,lo≤b∧b<hi
section
variable {P:Program} {w w0 w':World} {α:Type} [Rep α] {lo hi a b e:Nat} {v:Value} {l:List α}
theorem zgW (a:Option Addr):OwnI (α:=List α) lo hi w (.slice a 0 0) []:=
 ⟨[],⟨⟨_,⟨a,0,[],[],rfl,lr _,z0 _,⟨rfl,rfl⟩,.inl ⟨rfl,rfl⟩⟩,rfl⟩,List.nodup_nil,Wr.nil w⟩,by simp⟩
theorem RowI.ext (h:RowI lo hi e w v l) (hx:Ext w w'):RowI lo hi e w' v l:=by
 rcases h with h | ⟨F,h1,h2,h3⟩
 · exact .inl h
 exact .inr ⟨F,h1.ext hx,h2,h3⟩
theorem RowI.chg (h:RowI lo hi e w v l) (hc:ChgI a b w w') (hd:hi≤a∨b≤lo):RowI lo hi e w' v l:=by
 rcases h with h | ⟨F,h1,h2,h3⟩
 · exact .inl h
 exact .inr ⟨F,h1.keep λc hcm=>hc.block c (h1.lt c hcm) (by have:=h3 c hcm;omega),h2,h3⟩
theorem RowI.own (h:RowI lo hi e w v l):OwnI lo hi w v l:=by
 rcases h with ⟨a,rfl,rfl⟩ | ⟨F,h1,h2,h3⟩
 · exact zgW a
 exact ⟨F,⟨h1.own,h2,h1.wr⟩,h3⟩
theorem RowI.is (h:RowI lo hi e w v l):Is w v l:=h.own.is
theorem RowI.mono {lo' hi':Nat} (h:RowI lo hi e w v l) (h1:lo'≤lo) (h2:hi≤hi'):RowI lo' hi' e w v l:=by
 rcases h with h | ⟨F,h1,h2,h3⟩
 · exact .inl h
 exact .inr ⟨F,h1,h2,λb hb=>by have:=h3 b hb;omega⟩
theorem zb8 (lo hi e:Nat) (w:World) (a:Option Addr):RowI (α:=α) lo hi e w (.slice a 0 0) []:=.inl ⟨a,rfl,rfl⟩
theorem zcv (lo hi e:Nat) (w:World):RowI (α:=α) lo hi e w (.slice none 0 0) []:=.inl ⟨none,rfl,rfl⟩
theorem zi0 (e:Nat) (w:World):RowF (α:=α) [] e w (.slice none 0 0) []:=⟨[],[],⟨by simp,.inl ⟨rfl,rfl⟩⟩,⟨rfl,rfl⟩,rfl,Wr.nil _⟩
theorem zk8 {m1 m2:Sem Value} {K:Value→World→Prop} (h:m1.run P w=m2.run P w) (k:OP P m2 w K):OP P m1 w K:=by
 obtain ⟨v,w',hr,hk⟩:=k;exact ⟨v,w',h.trans hr,hk⟩
theorem zgn {t ty:TypeId} {by_ n c:Nat} {x:Addr} {b o:Nat} {xs:List Value} (ht:P.underlying t=some (.slice e)) (he:tyI P e=some (Rep.size α,by_,Rep.agg α)) (hzc:(P.info? e).map (λi=>(i.zero.map (·.cells.size)))=some (some (Rep.size α)))
   (hl:xs.length=n*Rep.size α) (hr:w.rangeAt b o xs) (h0:0<n) (hm:n≤maxLen) (hb:n*by_≤140737488355328) :
   (Builtin.append_ #[t,t] ty #[.slice (some x) 0 0,.slice (some ⟨b,o,none⟩) n c]).run P w=(Builtin.append_ #[t,t] ty #[.slice none 0 0,.slice (some ⟨b,o,none⟩) n c]).run P w:=by
 obtain ⟨i,d,hi,hd,hs,hby,hg⟩:=zdg he;simp only [hi,Option.map_some,Option.some.injEq] at hzc;obtain ⟨z,hz,hzs⟩:=Option.map_eq_some_iff.1 hzc;rw [zan] at hm;have h1:=run_append_nil (P:=P) w t ty e i z ht hi hz ⟨b,o,none⟩ n c xs (by rw [hs];exact hl) (λj u hu=>by rw [Addr.add_mid];exact hr j u hu) h0 (by omega) (by rw [hby];omega);have h2:=run_append_grow (P:=P) w t ty e i z ht hi hz x 0 0 [] (by simp) (by simp) ⟨b,o,none⟩ n c xs (by rw [hs];exact hl) (λj u hu=>by rw [Addr.add_mid];exact hr j u hu) (by omega) (by omega) (growslice_fits (by omega) (by rw [hby];simpa using hb));rw [h1,h2];simp
theorem zgX {t:TypeId} {by_:Nat} {u:Value} {x:α} {K:Value→World→Prop} (ht:P.underlying t=some (.slice e)) (he:tyI P e=some (Rep.size α,by_,Rep.agg α)) (hz:zbO P e=true) (hsz:Rep.size α≤1000)
   {F:List Nat} (hx:Mine F w u x)
   (k:∀ w',Ext w w'→Mine (w.heap.size :: F) w' (.slice (some ⟨w.heap.size,0,none⟩) 1 1) [x]→K (.slice (some ⟨w.heap.size,0,none⟩) 1 1) w'):OP P (Instr.buildSlice t 1 #[(0,u)]) w K:=by
 obtain ⟨⟨cs,hr,rfl⟩,hn,hw⟩:=hx;have hcl:=zeM hr;have hlen:=Rep.len hr;have hvs:(mkv α cs).cells.size=Rep.size α:=by rw [←Array.length_toList,hcl,hlen]
 obtain ⟨i,d,hi,hd,hs,hby,hg⟩:=zdg he;unfold zbO at hz;rw [hi] at hz;obtain ⟨z,hz⟩:=Option.isSome_iff_exists.1 hz;have hpos:=Rep.pos (α:=α);refine ⟨_,w.alloc (.cells (mkv α cs).cells e),?_,k _ (zaV w _) ?_⟩
 · have hne:¬Rep.size α=0:=by omega
   have h24:¬2^24<Rep.size α:=by omega
   simp only [Instr.buildSlice,Sem.run_bind,run_underlying ht,Result.andThen_ok,za2 he,Nat.one_mul];simp [h24,hne,zeroValue,typeInfo,hi,hz,zoX _ _ _ hvs,newRow]
 have hx:=zaV w (.cells (mkv α cs).cells e);have hB:(w.alloc (.cells (mkv α cs).cells e)).heap[w.heap.size]?=some (.cells (mkv α cs).cells e (0,0)):=heap_alloc_new w _;have hFlt:=Rep.lt hr;refine ⟨⟨_,⟨_,1,F,cs,rfl,lr _,by rw [zan];omega,Cells.single (zb5 hr hx),.inr ⟨w.heap.size,0,rfl,rfl,?_,?_⟩⟩,rfl⟩,?_,?_⟩
 · intro j y hy
   simp only [World.cell?,hB];rw [←hcl] at hy;simpa using hy
 · exact (Array.getElem?_eq_some_iff.1 hB).1
 · exact List.nodup_cons.2 ⟨λh=>by have:=hFlt _ h;omega,hn⟩
 intro c hc;rcases List.mem_cons.1 hc with rfl | hc
 · exact ⟨_,_,hB⟩
 exact hw.ext hx c hc
theorem zp4 {t:TypeId} {by_:Nat} {u:Value} {x:α} {K:Value→World→Prop} (ht:P.underlying t=some (.slice e)) (he:tyI P e=some (Rep.size α,by_,Rep.agg α)) (hz:zbO P e=true) (hsz:Rep.size α≤1000)
   (hx:OwnI lo hi w u x) (hlo:lo≤w.heap.size)
   (k:∀ v w',Ext w w'→OwnI lo w'.heap.size w' v [x]→K v w'):OP P (Instr.buildSlice t 1 #[(0,u)]) w K:=by
 obtain ⟨F,hm,hF⟩:=hx;refine zgX ht he hz hsz hm λw' hxx hm'=>k _ w' hxx ⟨_,hm',λb hb=>⟨?_,hm'.lt b hb⟩⟩;rcases List.mem_cons.1 hb with rfl | hb
 · exact hlo
 exact (hF b hb).1
theorem zaH {t:TypeId} {by_:Nat} {K:Value→World→Prop} (ht:P.underlying t=some (.slice e)) (he:tyI P e=some (Rep.size α,by_,Rep.agg α))
   (k:∀ a w',Ext w w'→RowI (α:=α) w'.heap.size w'.heap.size e w' (.slice (some a) 0 0) []→K (.slice (some a) 0 0) w'):OP P (Instr.buildSlice t 0 #[]) w K:=
 ziO (α:=α) ht he λa w' hx hr=>k _ w' hx (zb8 _ _ _ _ _)
theorem ztn {t ty:TypeId} {by_:Nat} {u:Value} {x:α} {lo2 hi2:Nat} {K C:Value→World→Prop} (ht:P.underlying t=some (.slice e)) (he:tyI P e=some (Rep.size α,by_,Rep.agg α)) (hz:zbO P e=true)
   (hzc:(P.info? e).map (λi=>(i.zero.map (·.cells.size)))=some (some (Rep.size α))) (hsz:Rep.size α≤1000) (hv:RowI lo hi e w v l) (hlo:lo≤w.heap.size) (hx:OwnI lo2 hi2 w u x) (hl:hi≤lo2) (hl2:lo≤lo2) (hm:l.length+1≤maxLen) (hb:(l.length+1)*by_≤140737488355328)
   (k:∀ v' w',ChgI lo hi w w'→RowI lo w'.heap.size e w' v' (l++[x])→K v' w')
   (hC:∀ s w1,Ext w w1→OP P (Builtin.append_ #[t,t] ty [v,s].toArray) w1 K→C s w1):OP P (Instr.buildSlice t 1 #[(0,u)]) w C:=by
 obtain ⟨G,hmx,hG⟩:=hx;refine zgX ht he hz hsz hmx λw1 hx1 hm1=>?_;obtain ⟨⟨cs,⟨a,cap,Fi,xs,rfl,h1,h2,hc,h4⟩,hveq⟩,hn1,hw1⟩:=hm1;simp only [mkv,Rep.agg,cond_false,List.headD_cons,Value.slice.injEq,List.length_cons,List.length_nil] at hveq;obtain ⟨rfl,_,rfl⟩:=hveq;rcases h4 with ⟨h4,_⟩ | ⟨b,o,hab,hFe,hra,hbl⟩
 · simp at h4
 simp only [List.cons.injEq] at hFe;obtain ⟨_,rfl⟩:=hFe
 have key:∀ (v:Value) (F:List Nat),RowF F e w v l→F.Nodup→(∀ b∈F,lo≤b∧b<hi)→OP P (Builtin.append_ #[t,t] ty [v,.slice (some ⟨w.heap.size,0,none⟩) 1 1].toArray) w1 K:=by
   intro v F hF hFn hFl;have hF1:=hF.ext hx1
   have hd:(G++F).Nodup:=by
     rw [List.nodup_append];refine ⟨hmx.nodup,hFn,λp hp q hq e=>?_⟩;subst e;have:=hG p hp;have:=hFl p hq;omega
   refine zgN (m:=[x]) ht he hzc hF1 hFn rfl hc (.inr ⟨b,o,hab,hra⟩) (hw1.sub (by simp +contextual)) hd (by simpa using hm) (by simpa using hb) λv' w' F' hch hfull hr' hn' hs'=>?_
   have hown:∀ c∈v.ownBlock.toList,lo≤c∧c<hi:=λc hc=>by
     obtain ⟨xs,Fi,_,_,rfl,_⟩:=hF;exact hFl c (by simp only [List.mem_append];exact .inl hc)
   refine k v' w' ((Ext.toI hx1).trans (hch.toI hown)) (.inr ⟨F',hr',hn',λc hc=>⟨?_,hr'.lt c hc⟩⟩);rcases hs' c hc with h | h | h
   · exact (hFl c h).1
   · have:=hG c h;omega
   have:=hx1.size;omega
 refine hC _ w1 hx1 ?_;rcases hv with ⟨a0,rfl,rfl⟩ | ⟨F,hF,hFn,hFl⟩
 · have kn:=key (.slice none 0 0) [] (zi0 e w) List.nodup_nil (by simp)
   cases a0 with
   | none=>exact kn
   | some x0=>
     simp only [Option.some.injEq,Addr.mk.injEq] at hab;obtain ⟨rfl,rfl,_⟩:=hab;exact zk8 (zgn (α:=α) (n:=1) ht he hzc (by simpa using Cells.len hc) hra (by omega) (by rw [zan];omega) (by simpa using hb)) kn
 exact key v F hF hFn hFl
theorem zbF {t ty:TypeId} {by_:Nat} {u:Value} {x:α} {lo2 hi2:Nat} {K:Value→World→Prop} (ht:P.underlying t=some (.slice e)) (he:tyI P e=some (Rep.size α,by_,Rep.agg α)) (hz:zbO P e=true)
   (hzc:(P.info? e).map (λi=>(i.zero.map (·.cells.size)))=some (some (Rep.size α))) (hsz:Rep.size α≤1000) (hv:RowI lo hi e w v l) (hlo:lo≤w.heap.size) (hx:OwnI lo2 hi2 w u x) (hl:hi≤lo2) (hl2:lo≤lo2) (hm:l.length+1≤maxLen) (hb:(l.length+1)*by_≤140737488355328)
   (k:∀ v' w',ChgI lo hi w w'→RowI lo w'.heap.size e w' v' (l++[x])→K v' w'):OP P (Instr.buildSlice t 1 #[(0,u)]) w λs w1=>OP P (Builtin.append_ #[t,t] ty [v,s].toArray) w1 K:=
 ztn ht he hz hzc hsz hv hlo hx hl hl2 hm hb k λ_ _ _ h=>h
theorem zc6 [Flat α] {t ty:TypeId} {by_:Nat} {src:Value} {m:List α} {K:Value→World→Prop} (ht:P.underlying t=some (.slice e)) (he:tyI P e=some (Rep.size α,by_,Rep.agg α))
   (hzc:(P.info? e).map (λi=>(i.zero.map (·.cells.size)))=some (some (Rep.size α))) (hv:RowI lo hi e w v l) (hlo:lo≤w.heap.size) (hs:Is w0 src m) (hx:Ext w0 w) (hm:l.length+m.length≤maxLen) (hb:(l.length+m.length)*by_≤140737488355328)
   (k:∀ v' w',ChgI lo hi w w'→RowI lo w'.heap.size e w' v' (l++m)→K v' w'):OP P (Builtin.append_ #[t,t] ty [v,src].toArray) w K:=by
 obtain ⟨a,cap,Fi,xs,rfl,h1,h2,hc,h4⟩:=zdt (hs.ext hx);have hFi:=Cells.flat (xs:=xs) hc;subst hFi
 have key:∀ (v:Value) (F:List Nat),RowF F e w v l→F.Nodup→(∀ b∈F,lo≤b∧b<hi)→OP P (Builtin.append_ #[t,t] ty [v,.slice a m.length cap].toArray) w K:=by
   intro v F hF hFn hFl;refine zgN (m:=m) ht he hzc hF hFn rfl hc (by rcases h4 with h | ⟨b,o,ha,hr,_⟩;exact .inl h;exact .inr ⟨b,o,ha,hr⟩) (Wr.nil _) (by simpa using hFn) hm hb λv' w' F' hch hfull hr' hn' hs'=>?_
   have hown:∀ c∈v.ownBlock.toList,lo≤c∧c<hi:=λc hc=>by
     obtain ⟨xs,Fi,_,_,rfl,_⟩:=hF;exact hFl c (by simp only [List.mem_append];exact .inl hc)
   refine k v' w' (hch.toI hown) (.inr ⟨F',hr',hn',λc hc=>⟨?_,hr'.lt c hc⟩⟩);rcases hs' c hc with h | h | h
   · exact (hFl c h).1
   · simp at h
   omega
 rcases hv with ⟨a0,rfl,rfl⟩ | ⟨F,hF,hFn,hFl⟩
 · have kn:=key (.slice none 0 0) [] (zi0 e w) List.nodup_nil (by simp)
   cases a0 with
   | none=>exact kn
   | some x0=>
     by_cases hm0:m=[]
     · subst hm0
       refine ⟨.slice (some x0) 0 0,w,?_,k _ w (ChgI.refl w) (zb8 _ _ _ _ _)⟩
       have hf:(Builtin.firstCells (Rep.size α) 0 (.slice a 0 cap)).run P w=.ok #[] w:=by
         cases a with
         | none=>rfl
         | some a=>simp [Builtin.firstCells,loadCells,loadCellsFrom]
       simp [Builtin.append_,run_underlying ht,za2 he,Builtin.lenOf,hf,storeCells]
     rcases h4 with h | ⟨b,o,rfl,hr,_⟩
     · exact absurd h hm0
     exact zk8 (zgn (α:=α) ht he hzc (Cells.len hc) hr (List.length_pos_iff.2 hm0) (by simpa using hm) (by simpa using hb)) kn
 exact key v F hF hFn hFl
theorem znL {a:Option Addr} {cap:Nat} {l:List α} (h:Is w (.slice a l.length cap) l) (k:Nat) (hk:k≤l.length):Is w (.slice a k cap) (l.take k):=by
 obtain ⟨F,cs,⟨a',cap',Fi,xs,rfl,h1,h2,hc,h4⟩,hv⟩:=h;simp only [mkv,Rep.agg,cond_false,List.headD_cons,Value.slice.injEq] at hv;obtain ⟨rfl,_,rfl⟩:=hv;have e:l=l.take k++l.drop k:=by simp
 have hlen:(l.take k).length=k:=by simp;omega
 rw [e] at hc;obtain ⟨F1,F2,x1,x2,rfl,rfl,c1,c2⟩:=Cells.split hc;by_cases hd:l.take k=[]
 · refine ⟨[],_,⟨a,cap,F1,x1,rfl,by rw [hlen];omega,h2,c1,.inl ⟨hd,rfl⟩⟩,?_⟩
   rw [hlen];rfl
 rcases h4 with ⟨rfl,_⟩ | ⟨b,o,rfl,rfl,hr,hb⟩
 · simp at hd
 refine ⟨_,_,⟨some ⟨b,o,none⟩,cap,F1,x1,rfl,by rw [hlen];omega,h2,c1,.inr ⟨b,o,rfl,rfl,(za1 hr).1,hb⟩⟩,?_⟩;rw [hlen];rfl
theorem zgo {t:TypeId} {by_:Nat} {v:Value} {l:List α} {i:Int} {K:Value→Prop} (ht:P.underlying t=some (.slice e)) (he:tyI P e=some (Rep.size α,by_,Rep.agg α)) (h:Is w0 v l) (h0:0≤i) (h1:i.toNat≤l.length)
   (k:∀ v',Is w0 v' (l.take i.toNat)→K v'):RD P (Instr.sliceAt t v none (some (.int .i64 i)) none) w K:=by
 obtain ⟨a,cap,Fi,xs,rfl,hc1,hcm,_,h4⟩:=zdt h
 have hb:∀ w',(Instr.sliceBounds true l.length cap none (some (.int .i64 i)) none).run P w'=.ok (0,i.toNat,cap) w':=λw'=>by
   have:i≤(cap:Int):=by omega
   simp [Instr.sliceBounds,Instr.sliceBound,asIntOf,h0,this]
 refine za7 (v:=.slice a i.toNat cap) (λw' _=>?_) (k _ (znL h i.toNat h1))
 have hz:(if cap=0 then a else a.map (λx=>x.add (0*Rep.size α)))=a:=by
   split
   · rfl
   cases a<;>simp [Addr.add_mid,Addr.add]
 simp only [Instr.sliceAt,Instr.slice,Sem.run_bind,run_underlying ht,Result.andThen_ok,hb,za2 he];simp;exact λ_=>by cases a<;>simp [Addr.add_mid,Addr.add]
theorem zk9 {t:TypeId} {by_:Nat} {v:Value} {l:List α} {i j:Int} {K:Value→Prop} (ht:P.underlying t=some (.slice e)) (he:tyI P e=some (Rep.size α,by_,Rep.agg α)) (h:Is w0 v l) (h0:0≤i) (h1:i≤j) (h2:j.toNat≤l.length)
   (k:∀ v',Is w0 v' ((l.take j.toNat).drop i.toNat)→K v'):RD P (Instr.sliceAt t v (some (.int .i64 i)) (some (.int .i64 j)) none) w K:=by
 obtain ⟨a,cap,Fi,xs,rfl,hc1,hcm,_,h4⟩:=zdt h
 have hb:∀ w',(Instr.sliceBounds true l.length cap (some (.int .i64 i)) (some (.int .i64 j)) none).run P w'=.ok (i.toNat,j.toNat,cap) w':=λw'=>by
   have h3:j≤(cap:Int):=by omega
   have h5:0≤j:=by omega
   simp [Instr.sliceBounds,Instr.sliceBound,asIntOf,h0,h1,h3,h5];intro h6;omega
 have hl:(l.take j.toNat).length=j.toNat:=by rw [List.length_take];omega
 have ht1:Is w0 (.slice a (l.take j.toNat).length cap) (l.take j.toNat):=by rw [hl];exact znL h j.toNat h2
 have hd:=zq6 ht1 i.toNat (by omega) (Rep.size α) rfl;rw [hl] at hd;refine za7 (λw' _=>?_) (k _ hd);simp only [Instr.sliceAt,Instr.slice,Sem.run_bind,run_underlying ht,Result.andThen_ok,hb,za2 he];simp
def AtB {α:Type} [Rep α] (W w:World) (b o:Nat) (x:α):Prop:=∃ F cs,rep F W cs x∧w.rangeAt b o cs
theorem AtB.keep {W w':World} {b o:Nat} {x:α} (h:AtB W w b o x) (hb:w'.heap[b]?=w.heap[b]?):AtB W w' b o x:=by
 obtain ⟨F,cs,hr,ha⟩:=h;exact ⟨F,cs,hr,zcZ ha hb⟩
theorem AtB.ext {W:World} {b o:Nat} {x:α} (h:AtB W w b o x) (hx:Ext w w'):AtB W w' b o x:=by
 obtain ⟨F,cs,hr,ha⟩:=h;exact ⟨F,cs,hr,zbr ha hx⟩
theorem AtB.at {W:World} {b o:Nat} {x:α} (h:AtB W w b o x) (hx:Ext W w):At w b o x:=by
 obtain ⟨F,cs,hr,ha⟩:=h;exact ⟨F,cs,zb5 hr hx,ha⟩
theorem AtB.snd {β:Type} [Rep β] {W:World} {b o:Nat} {p:α×β} (h:AtB W w b o p):AtB W w b (o+Rep.size α) p.2:=by
 obtain ⟨F,cs,⟨F1,F2,c1,c2,rfl,rfl,h1,h2⟩,hr⟩:=h;have:=(za1 hr).2;rw [Rep.len h1] at this;exact ⟨F2,c2,h2,this⟩
theorem zmk {W:World} {t by_ b o:Nat} {x:α} {K:Value→Prop} (ht:tyI P t=some (Rep.size α,by_,Rep.agg α)) (h:AtB W w0 b o x) (hW:Ext W w0) (hx:Ext w0 w) (k:∀ v,Is W v x→K v) :
   RD P (Instr.loadAt t (.pointer (some ⟨b,o,none⟩))) w K:=by
 obtain ⟨F,cs,hr,hc⟩:=h;exact za7 (λw' hx'=>zdu ht (zb5 hr (hW.trans (hx.t hx'))) (zbr hc (hx.t hx'))) (k _ ⟨F,cs,hr,rfl⟩)
theorem zfA {W w1:World} {g:Nat} {x:α} {t:TypeId} (h:Is W v x) (hV:Var P t w1 g v) (ha:Rep.agg α=true):AtB W w1 g 0 x:=by
 obtain ⟨F,cs,hr,rfl⟩:=h;obtain ⟨e,cs',_,hB,hv,_⟩:=hV
 have:cs'=cs:=by
   simp only [mkv,ha,cond_true,Value.agg.injEq] at hv;have:=congrArg Array.toList hv;simpa using this.symm
 subst this;exact ⟨F,_,hr,hB.range⟩
theorem zrk [RepZ α] {t:TypeId} {fs:Array Field} {K:Value→Prop} (hu:P.underlying t=some (.struct fs)) (hz:zcz P t=some (RepZ.zc α)) (hf:(fs.toList.all λf=>(P.info? f.type).isSome)=true) (ha:Rep.agg α=true)
   (k:∀ v,Is w v (RepZ.zv:α)→K v):RD P (Instr.build t #[]) w K:=by
 unfold zcz at hz;cases hi:P.info? t with
 | none=>simp [hi] at hz
 | some i=>
   simp only [hi] at hz;obtain ⟨z,hz',hzc⟩:=Option.map_eq_some_iff.1 hz
   have hm:∀ w',∃ ps,(fs.mapM λf=>do pure (f.offset,←sizeOf f.type):Sem (Array (Nat×Nat))).run P w'=.ok ps w':=by
     intro w'
     have:∀ l:List Field,(l.all λf=>(P.info? f.type).isSome)=true→∃ ps,(l.mapM λf=>do pure (f.offset,←sizeOf f.type):Sem (List (Nat×Nat))).run P w'=.ok ps w':=by
       intro l
       induction l with
       | nil=>intro _;exact ⟨[],by simp⟩
       | cons f l ih=>
         intro h;simp only [List.all_cons,Bool.and_eq_true] at h;obtain ⟨j,hj⟩:=Option.isSome_iff_exists.1 h.1;obtain ⟨ps,hps⟩:=ih h.2;have hsz:(sizeOf f.type).run P w'=.ok j.size w':=by simp [sizeOf,typeInfo,hj]
         exact ⟨(f.offset,j.size) :: ps,by simp only [List.mapM_cons,Sem.run_bind,hsz,Result.andThen_ok,Sem.run_pure,hps]⟩
     obtain ⟨ps,hps⟩:=this fs.toList hf;exact ⟨ps.toArray,by rw [Array.mapM_eq_mapM_toList];simp only [map_eq_pure_bind,Sem.run_bind,hps,Result.andThen_ok,Sem.run_pure]⟩
   refine za7 (v:=mkv α (RepZ.zc α)) (λw' _=>?_) (k _ ⟨[],_,RepZ.zr w,rfl⟩);obtain ⟨ps,hps⟩:=hm w';have e:z.cells=(RepZ.zc α).toArray:=by rw [←hzc]
   have hzv:(zeroValue t).run P w'=.ok z w':=by simp [zeroValue,typeInfo,hi,hz']
   simp only [Instr.build,Sem.run_bind,hzv,Result.andThen_ok,run_underlying hu,hps];simp [Instr.fill,mkv,ha,e]
end
end Go.Sh
namespace Go.Sh
open Go.RowKit (Below)
open Rep (rep)
section
variable {P:Program} {w w0 w':World} {α β γ:Type} [Rep α] [Rep β]
def OwnS (S:List Nat) (w:World) (v:Value) (x:α):Prop:=∃ F,Mine F w v x∧∀ b∈F,b∈S
theorem Mine.toS {F:List Nat} {v:Value} {x:α} (h:Mine F w v x):OwnS F w v x:=⟨F,h,λ_ h=>h⟩
theorem OwnS.mono {S T:List Nat} {v:Value} {x:α} (h:OwnS S w v x) (hs:∀ b∈S,b∈T):OwnS T w v x:=by
 obtain ⟨F,hm,hF⟩:=h;exact ⟨F,hm,λb hb=>hs b (hF b hb)⟩
theorem OwnS.is {S:List Nat} {v:Value} {x:α} (h:OwnS S w v x):Is w v x:=by obtain ⟨F,hm,_⟩:=h;exact hm.is
theorem OwnS.toI {S:List Nat} {v:Value} {x:α} {lo hi:Nat} (h:OwnS S w v x) (hs:∀ b∈S,lo≤b∧b<hi):OwnI lo hi w v x:=by
 obtain ⟨F,hm,hF⟩:=h;exact ⟨F,hm,λb hb=>hs b (hF b hb)⟩
theorem zcI {t e:TypeId} {by_:Nat} {F:List Nat} {v:Value} {l:List α} {k:Nat} {K:Value→Prop} (ht:P.underlying t=some (.slice e)) (he:tyI P e=some (Rep.size α,by_,Rep.agg α)) (hm:Mine F w v l) (hk:k<l.length)
   (kk:∀ b o G,Lens (MH v) F w b o G l[k] (λy=>l.set k y)→K (.pointer (some ⟨b,o,none⟩))):RD P (Instr.indexAt t v (.int .i64 (k:Int))) w K:=by
 obtain ⟨b,a,cap,G,hv,hL⟩:=zvd hm hk;refine za7 (v:=.pointer (some ⟨b,a+k*Rep.size α,none⟩)) (λw' _=>?_) (kk _ _ _ hL);rw [hv,zc0 ht he (by omega) (by omega)];simp
theorem zed {ft by_ b o:Nat} {H:List Nat→World→γ→Prop} {F G:List Nat} {l:List β} {upd:List β→γ} {K:Value→Prop} (hft:tyI P ft=some (1,by_,false)) (hL:Lens H F w b o G l upd)
   (k:∀ u,Mine G w u l→(∀ c∈G,c∈F)→(∀ w' G' l',Chg G w w'→Mine G' w' u l'→(∀ c∈G',c∈G∨c∉F)→∃ F',H F' w' (upd l')∧∀ c∈F',c∈F∨c∈G')→K u) :
   RD P (Instr.loadAt ft (.pointer (some ⟨b,o,none⟩))) w K:=by
 obtain ⟨u,hM,hr,hG,hb⟩:=hL.row;refine za7 (λw' hx'=>?_) (k u hM hG hb);have h0:w'.cell? ⟨b,o,none⟩=some u:=by simpa using (zbr hr hx') 0 u rfl
 have hA:=zb6 hft w';simp [Instr.loadAt,Instr.sureAddr,loadVar,hA,h0]
theorem zaA {ft by_ g e o:Nat} {cs:List Value} {v:Value} {K:Value→Prop} (hft:tyI P ft=some (1,by_,false)) (hB:Blk g e w cs) (ho:cs[o]?=some v) (k:K v) :
   RD P (Instr.loadAt ft (.pointer (some ⟨g,o,none⟩))) w K:=by
 refine za7 (λw' hx'=>?_) k;have h0:w'.cell? ⟨g,o,none⟩=some v:=by simpa using (zbr hB.range hx') o v ho
 have hA:=zb6 hft w';simp [Instr.loadAt,Instr.sureAddr,loadVar,hA,h0]
theorem zla {t:TypeId} {cs:Array Value} {K:Value→World→Prop} (k:∀ w',Ext w w'→Blk w.heap.size t w' cs.toList→K (.pointer (some ⟨w.heap.size,0,none⟩)) w'):OP P (Instr.box t (.agg cs)) w K:=
 ⟨_,w.alloc (.cells cs t),by simp [Instr.box,newVar,newRow,Value.cells],k _ (zaV w _) (by unfold Blk;rw [heap_alloc_new w _])⟩
theorem zcR {t by_ b o:Nat} {F G:List Nat} {v:Value} {y y':β} {upd:β→α} {u:Value} {K:World→Prop} (ht:tyI P t=some (Rep.size β,by_,Rep.agg β)) (h:Lens (MH v) F w b o G y upd)
   (hu:Mine [] w u y') (k:∀ w' F',Chg F w w'→Mine F' w' v (upd y')→(∀ c∈F',c∈F)→K w'):OPU P (Instr.storeAt t (.pointer (some ⟨b,o,none⟩)) u) w K:=
 zoT ht h hu (by simp) λw' hc ⟨F',h1,h2⟩=>k w' F' hc h1 λc hc=>by
   rcases h2 c hc with h | h
   · exact h
   simp at h
theorem zbh {x:Int} (h:I64 x):Mine [] w (.int .i64 x) x:=⟨⟨_,⟨rfl,rfl,h⟩,rfl⟩,List.nodup_nil,Wr.nil w⟩
theorem zlb {x:ByteArray} (h:x.size≤maxLen):Mine [] w (.string x) x:=⟨⟨_,⟨rfl,rfl,h⟩,rfl⟩,List.nodup_nil,Wr.nil w⟩
theorem mine_bool {x:Bool}:Mine [] w (.bool x) x:=⟨⟨_,⟨rfl,rfl⟩,rfl⟩,List.nodup_nil,Wr.nil w⟩
theorem Chg.sub {F G:List Nat} {a b c:World} (h:Chg F a b) (k:Chg G b c) (hs:∀ x∈G,x∈F):Chg F a c:=h.trans (k.mono hs)
theorem zuC {ts:Array TypeId} {ty:TypeId} {a b:Int} {K:Value→Prop} (k:K (.int .i64 (max a b))):RD P (Builtin.max_ ts ty [Value.int .i64 a,Value.int .i64 b].toArray) w K:=by
 refine za7 (λw' _=>?_) k;have:(if b>a then b else a)=max a b:=by split<;>omega
 simp only [Builtin.max_,List.toList_toArray,List.foldlM_cons,List.foldlM_nil,Builtin.max2,this];rfl
theorem zws {ts:Array TypeId} {ty:TypeId} {a b:Int} {K:Value→Prop} (k:K (.int .i64 (min a b))):RD P (Builtin.min_ ts ty [Value.int .i64 a,Value.int .i64 b].toArray) w K:=by
 refine za7 (λw' _=>?_) k;have:(if b<a then b else a)=min a b:=by split<;>omega
 simp only [Builtin.min_,List.toList_toArray,List.foldlM_cons,List.foldlM_nil,Builtin.min2,this];rfl
theorem zcC {F:List Nat} {cs:List Value} {l:List β} (hr:rep F w cs l) (hn:F.Nodup) (hw:Wr F w):∃ u,cs=[u]∧Mine F w u l:=by
 have h:=hr;obtain ⟨a,cap,Fi,xs,rfl,_⟩:=h;exact ⟨_,rfl,⟨_,hr,rfl⟩,hn,hw⟩
theorem zgd {t e ft i off by_ by2:Nat} {F:List Nat} {v u:Value} {l:List α} {k:Nat} {y':β} {sel:α→β} {g:α→β→α} {K:World→Prop} (ht:P.underlying t=some (.slice e)) (he:tyI P e=some (Rep.size α,by_,Rep.agg α)) (hf:zdd P e i=some off) (hft:tyI P ft=some (Rep.size β,by2,Rep.agg β))
   (L:∀ {a:α} {G:List Nat} {b o:Nat} {upd:α→List α},Lens (MH v) F w b o G a upd→∃ G1,Lens (MH v) F w b (o+off) G1 (sel a) (λy=>upd (g a y))) (hm:Mine F w v l) (hk:k<l.length) (hu:Mine [] w u y')
   (kk:∀ w' F',Chg F w w'→Mine F' w' v (l.set k (g l[k] y'))→(∀ c∈F',c∈F)→K w') :
   RD P (Instr.indexAt t v (.int .i64 (k:Int))) w λp=>RD P (Instr.fieldAt e p i) w λq=>OPU P (Instr.storeAt ft q u) w K:=by
 refine zcI ht he hm hk λb o G hL=>?_;refine zab hf ?_;obtain ⟨G1,hL1⟩:=L hL;exact zcR (upd:=λy=>l.set k (g l[k] y)) hft hL1 hu kk
theorem znM {t e e2 ft i j off off2 by_ by2:Nat} {F:List Nat} {v u:Value} {l:List α} {k:Nat} {y':β} {sel:α→β} {g:α→β→α} {K:World→Prop} (ht:P.underlying t=some (.slice e)) (he:tyI P e=some (Rep.size α,by_,Rep.agg α)) (hf:zdd P e i=some off) (hf2:zdd P e2 j=some off2) (hft:tyI P ft=some (Rep.size β,by2,Rep.agg β))
   (L:∀ {a:α} {G:List Nat} {b o:Nat} {upd:α→List α},Lens (MH v) F w b o G a upd→∃ G1,Lens (MH v) F w b (o+off+off2) G1 (sel a) (λy=>upd (g a y))) (hm:Mine F w v l) (hk:k<l.length) (hu:Mine [] w u y')
   (kk:∀ w' F',Chg F w w'→Mine F' w' v (l.set k (g l[k] y'))→(∀ c∈F',c∈F)→K w') :
   RD P (Instr.indexAt t v (.int .i64 (k:Int))) w λp=>RD P (Instr.fieldAt e p i) w λq=>RD P (Instr.fieldAt e2 q j) w λq=>OPU P (Instr.storeAt ft q u) w K:=by
 refine zcI ht he hm hk λb o G hL=>?_;refine zab hf ?_;refine zab hf2 ?_;obtain ⟨G1,hL1⟩:=L hL;exact zcR (upd:=λy=>l.set k (g l[k] y)) hft hL1 hu kk
def RestL (i:Nat) (cur l:List α):Prop:=cur.length=l.length∧∀ j,i≤j→cur[j]?=l[j]?
theorem RestL.set1 {i:Nat} {cur l:List α} (h:RestL (i+1) cur l) (x:α):RestL (i+1) (cur.set i x) l:=
 ⟨by rw [List.length_set];exact h.1,λj hj=>by rw [List.getElem?_set_ne (by omega)];exact h.2 j (by omega)⟩
theorem RestL.get {i:Nat} {cur l:List α} (h:RestL i cur l) (hi:i<l.length):cur[i]'(by rw [h.1];exact hi)=l[i]:=by
 have:=h.2 i (lr _);rw [List.getElem?_eq_getElem (by rw [h.1];exact hi),List.getElem?_eq_getElem hi] at this;exact Option.some.inj this
def KeepF {γ:Type} (f:α→γ) (i:Nat) (cur l:List α):Prop:=RestL (i+1) cur l∧∃ (h:i<cur.length) (h':i<l.length),f cur[i]=f l[i]
theorem RestL.keepF {γ:Type} {f:α→γ} {i:Nat} {cur l:List α} (h:RestL i cur l) (hi:i<l.length):KeepF f i cur l:=
 ⟨⟨h.1,λj hj=>h.2 j (by omega)⟩,by rw [h.1];exact hi,hi,by rw [h.get hi]⟩
theorem KeepF.set {γ:Type} {f:α→γ} {i:Nat} {cur l:List α} (h:KeepF f i cur l) {x:α} (hx:∀ h:i<cur.length,f x=f cur[i]):KeepF f i (cur.set i x) l:=by
 obtain ⟨h1,h2,h3,h4⟩:=h;exact ⟨h1.set1 x,by rw [List.length_set];exact h2,h3,by rw [List.getElem_set_self,hx h2,h4]⟩
theorem Mine.chgD {α:Type} [Rep α] {F G:List Nat} {w w':World} {v:Value} {x:α} (h:Mine F w v x) (hc:Chg G w w') (hd:∀ b∈F,b∉G):Mine F w' v x:=h.keep λb hb=>hc.block b (h.lt b hb) (hd b hb)
theorem zcm {F G:List Nat} (h:(F++G).Nodup):F.Nodup∧G.Nodup∧∀ a∈F,a∉G:=by
 rw [List.nodup_append] at h;exact ⟨h.1,h.2.1,λa ha hb=>h.2.2 a ha a hb rfl⟩
theorem Var.chgI {t g a b:Nat} {v:Value} (h:Var P t w g v) (hc:ChgI a b w w') (hd:g<a∨b≤g):Var P t w' g v:=h.keep (hc.block g h.lt hd)
end
end Go.Sh
namespace Go.Sh
def zir (m n:Nat):Nat:=Nat.bitwise (λa b=>a&&!b) m n
theorem zcw (m n i:Nat):(zir m n).testBit i=(m.testBit i&&!n.testBit i):=Nat.testBit_bitwise rfl m n i
theorem zgp (m n:Nat):zir m n≤m:=Nat.le_of_testBit λi h=>by rw [zcw] at h;simp at h;exact h.1
section
variable {P:Program} {w:World} {K:Value→Prop} {t:TypeId} {x y:Operand}
theorem zdW {m n:Nat} (hm:m<4611686018427387904) (hn:n<4611686018427387904) (k:K (.int .i64 ((m &&& n:Nat):Int))):RD P (bin .and t x y (.int .i64 (m:Int)) (.int .i64 (n:Int))) w K:=by
 have hlt:m &&& n≤m:=Nat.and_le_left;refine za7 (λw' _=>?_) k;have e1:IntKind.i64.wrap ((m &&& n:Nat):Int)=((m &&& n:Nat):Int):=IntWalk.i64_in _ (by omega)
 have e2:((BitVec.ofInt 64 (m:Int)) &&& (BitVec.ofInt 64 (n:Int))).toNat=m &&& n:=by
   simp only [BitVec.toNat_and,BitVec.ofInt_natCast,BitVec.toNat_ofNat];rw [Nat.mod_eq_of_lt (by omega),Nat.mod_eq_of_lt (by omega)]
 show (do eqGuard .and t x y (.int .i64 (m:Int)) (.int .i64 (n:Int));binOp .and t (.int .i64 (m:Int)) (.int .i64 (n:Int)):Sem Value).run P w'=_;simp only [eqGuard,binOp,Op.intBits];show Result.ok (Value.int .i64 (IntKind.i64.wrap (((BitVec.ofInt 64 (m:Int)) &&& (BitVec.ofInt 64 (n:Int))).toNat:Nat))) w'=_;rw [e2,e1]
theorem zfB {m n:Nat} (hm:m<4611686018427387904) (hn:n<4611686018427387904) (k:K (.int .i64 ((zir m n:Nat):Int))):RD P (bin .andNot t x y (.int .i64 (m:Int)) (.int .i64 (n:Int))) w K:=by
 have hlt:zir m n≤m:=zgp m n;refine za7 (λw' _=>?_) k;have e1:IntKind.i64.wrap ((zir m n:Nat):Int)=((zir m n:Nat):Int):=IntWalk.i64_in _ (by omega)
 have e2:((BitVec.ofInt 64 (m:Int)) &&& ~~~(BitVec.ofInt 64 (n:Int))).toNat=zir m n:=by
   apply Nat.eq_of_testBit_eq;intro i;have hm64:m<2^64:=by omega
   have hn64:n<2^64:=by omega
   simp only [BitVec.testBit_toNat,BitVec.getLsbD_and,BitVec.getLsbD_not,BitVec.ofInt_natCast,BitVec.getLsbD_ofNat,zcw];by_cases hi:i<64
   · simp [hi]
   have:m.testBit i=false:=Nat.testBit_lt_two_pow (Nat.lt_of_lt_of_le hm64 (Nat.pow_le_pow_right (by omega) (by omega)));simp [hi,this]
 show (do eqGuard .andNot t x y (.int .i64 (m:Int)) (.int .i64 (n:Int));binOp .andNot t (.int .i64 (m:Int)) (.int .i64 (n:Int)):Sem Value).run P w'=_;simp only [eqGuard,binOp,Op.intBits];show Result.ok (Value.int .i64 (IntKind.i64.wrap (((BitVec.ofInt 64 (m:Int)) &&& ~~~(BitVec.ofInt 64 (n:Int))).toNat:Nat))) w'=_;rw [e2,e1]
theorem zuD {m n:Nat} {ku:IntKind} (hm:m<4611686018427387904) (k:K (.int .i64 ((m >>> n:Nat):Int))):RD P (bin .shr t x y (.int .i64 (m:Int)) (.int ku (n:Int))) w K:=by
 refine za7 (λw' _=>?_) k;have e0:¬((n:Int)<0):=by omega
 have e1:(m:Int).fdiv (2^(min n 64))=((m >>> n:Nat):Int):=by
   rw [Nat.shiftRight_eq_div_pow];have h2:((2:Int)^(min n 64))=((2^(min n 64):Nat):Int):=by simp
   rw [h2,Int.fdiv_eq_ediv_of_nonneg _ (Int.natCast_nonneg _),←Int.natCast_ediv];by_cases h:n≤64
   · rw [Nat.min_eq_left h]
   rw [Nat.min_eq_right (by omega),Nat.div_eq_of_lt (by omega),Nat.div_eq_of_lt (Nat.lt_of_lt_of_le (by omega:m<2^64) (Nat.pow_le_pow_right (by omega) (by omega)))]
 show (do eqGuard .shr t x y (.int .i64 (m:Int)) (.int ku (n:Int));binOp .shr t (.int .i64 (m:Int)) (.int ku (n:Int)):Sem Value).run P w'=_;simp only [eqGuard,binOp,Op.shift,e0,if_false,Int.toNat_natCast];show Result.ok (Value.int .i64 ((m:Int).fdiv (2^(min n 64)))) w'=_;rw [e1]
end
def zcD (m:Nat):Nat→List Int
 | 0=>[]
 | k+1=>if m.testBit k then zcD m k++[(k:Int)] else zcD m k
theorem zdA (m:Nat):∀ k,(zcD m k).length≤k
 | 0=>Nat.le_refl _
 | k+1=>by
   have:=zdA m k;rw [zcD];split
   · simp;omega
   omega
theorem zi1 {m k:Nat} (h:m<2^k):∀ {j:Nat},k≤j→zcD m j=zcD m k
 | 0,hj=>by rw [Nat.le_zero.1 hj]
 | j+1,hj=>by
   by_cases e:k=j+1
   · rw [e]
   rw [zcD,if_neg,zi1 h (by omega)];rw [Nat.testBit_lt_two_pow (Nat.lt_of_lt_of_le h (Nat.pow_le_pow_right (by omega) (by omega)))];simp
def zbn (m:Nat):List Int:=zcD m 64
theorem zis {m k:Nat} (h:m<2^k) (hk:k≤64):zbn m=zcD m k:=zi1 h hk
theorem zc7 {m:Nat} {x:Int}:∀ {k:Nat},x∈zcD m k↔∃ i,i<k∧x=(i:Int)∧m.testBit i=true
 | 0=>by simp [zcD]
 | k+1=>by
   rw [zcD];constructor
   · intro h
     split at h
     · rename_i hb
       rcases List.mem_append.1 h with h | h
       · obtain ⟨i,h1,h2,h3⟩:=zc7.1 h;exact ⟨i,by omega,h2,h3⟩
       simp at h;exact ⟨k,by omega,h,hb⟩
     obtain ⟨i,h1,h2,h3⟩:=zc7.1 h;exact ⟨i,by omega,h2,h3⟩
   rintro ⟨i,h1,h2,h3⟩;by_cases e:i=k
   · subst e;rw [if_pos h3];simp [h2]
   have:=(zc7 (m:=m) (x:=x) (k:=k)).2 ⟨i,by omega,h2,h3⟩;split
   · simp [this]
   exact this
theorem zrl (m i:Nat):decide (((m >>> i &&& 1:Nat):Int)=1)=m.testBit i:=by
 have h:m >>> i &&& 1=(m.testBit i).toNat:=by
   rw [Nat.and_one_is_mod,Nat.testBit_eq_decide_div_mod_eq,Nat.shiftRight_eq_div_pow];rcases Nat.mod_two_eq_zero_or_one (m / 2^i) with h | h<;>simp [h]
 rw [h];cases m.testBit i<;>rfl
theorem zto (m i:Nat):decide (((m &&& 2^i:Nat):Int)≠0)=m.testBit i:=by
 have hp:0<2^i:=Nat.pow_pos (by omega);cases hb:m.testBit i with
 | false=>
   have:m &&& 2^i=0:=by
     apply Nat.eq_of_testBit_eq;intro j;rw [Nat.testBit_and,Nat.testBit_two_pow];by_cases e:i=j
     · subst e;simp [hb]
     simp [e]
   simp [this]
 | true=>
   have:m &&& 2^i≠0:=λe=>by
     have:=congrArg (·.testBit i) e;simp [Nat.testBit_and,Nat.testBit_two_pow,hb] at this
   simp only [ne_eq,decide_eq_true_eq];omega
theorem zoY {m i:Nat}:m >>> i=0↔m<2^i:=by
 rw [Nat.shiftRight_eq_div_pow,Nat.div_eq_zero_iff];have:¬(2^i=0):=by have:0<2^i:=Nat.pow_pos (by omega);omega
 simp [this]
end Go.Sh
namespace Go.Sh
open Rep (rep)
instance:Rep Nat where
 size:=1
 agg:=false
 rep F _ cs x:=F=[]∧cs=[.int .u64 (x:Int)]∧x<18446744073709551616
 pos:=by decide
 sz _:=rfl
 len:=by rintro _ _ _ _ ⟨_,rfl,_⟩;rfl
 one:=by rintro _ _ _ _ ⟨_,rfl,_⟩ v hv;simp at hv;subst hv;rfl
 keep:=by rintro _ _ _ _ _ h _;exact h
 lt:=by rintro _ _ _ _ ⟨rfl,_⟩ b hb;cases hb
instance:Flat Nat:=⟨λh=>h.1⟩
instance:RepZ Nat:=⟨0,[.int .u64 0],λ_=>⟨rfl,rfl,by decide⟩⟩
section
variable {P:Program} {w w0:World} {K:Value→Prop} {t:TypeId} {x y:Operand}
theorem ztp {x:Nat} (h:x<18446744073709551616):Mine [] w (.int .u64 (x:Int)) x:=⟨⟨_,⟨rfl,rfl,h⟩,rfl⟩,List.nodup_nil,Wr.nil w⟩
theorem zoZ {t by_ b o:Nat} {x:Nat} (ht:tyI P t=some (1,by_,false)) (h:At w0 b o x) (hx:Ext w0 w) (k:K (.int .u64 (x:Int))):RD P (Instr.loadAt t (.pointer (some ⟨b,o,none⟩))) w K:=
 zaa (α:=Nat) ht h hx λv hv=>by
   obtain ⟨F,cs,⟨_,rfl,_⟩,rfl⟩:=hv;exact k
theorem ztq {n:Nat} (h:n<18446744073709551616):IntKind.u64.wrap (n:Int)=(n:Int):=by simp [IntKind.wrap,IntKind.signed,IntKind.bits];omega
theorem zo0 {m n:Nat} (hm:m<4611686018427387904) (hn:n<4611686018427387904) (k:K (.int .u64 ((m ||| n:Nat):Int))):RD P (bin .or t x y (.int .u64 (m:Int)) (.int .u64 (n:Int))) w K:=by
 have hlt:m ||| n<2^62:=Nat.or_lt_two_pow hm hn;refine za7 (λw' _=>?_) k
 have e2:((BitVec.ofInt 64 (m:Int)) ||| (BitVec.ofInt 64 (n:Int))).toNat=m ||| n:=by
   simp only [BitVec.toNat_or,BitVec.ofInt_natCast,BitVec.toNat_ofNat];rw [Nat.mod_eq_of_lt (by omega),Nat.mod_eq_of_lt (by omega)]
 show (do eqGuard .or t x y (.int .u64 (m:Int)) (.int .u64 (n:Int));binOp .or t (.int .u64 (m:Int)) (.int .u64 (n:Int)):Sem Value).run P w'=_;simp only [eqGuard,binOp,Op.intBits];show Result.ok (Value.int .u64 (IntKind.u64.wrap (((BitVec.ofInt 64 (m:Int)) ||| (BitVec.ofInt 64 (n:Int))).toNat:Nat))) w'=_;rw [e2,ztq (by omega)]
theorem zhD {m n:Nat} (hm:m<4611686018427387904) (hn:n<4611686018427387904) (k:K (.int .u64 ((m &&& n:Nat):Int))):RD P (bin .and t x y (.int .u64 (m:Int)) (.int .u64 (n:Int))) w K:=by
 have hlt:m &&& n≤m:=Nat.and_le_left;refine za7 (λw' _=>?_) k
 have e2:((BitVec.ofInt 64 (m:Int)) &&& (BitVec.ofInt 64 (n:Int))).toNat=m &&& n:=by
   simp only [BitVec.toNat_and,BitVec.ofInt_natCast,BitVec.toNat_ofNat];rw [Nat.mod_eq_of_lt (by omega),Nat.mod_eq_of_lt (by omega)]
 show (do eqGuard .and t x y (.int .u64 (m:Int)) (.int .u64 (n:Int));binOp .and t (.int .u64 (m:Int)) (.int .u64 (n:Int)):Sem Value).run P w'=_;simp only [eqGuard,binOp,Op.intBits];show Result.ok (Value.int .u64 (IntKind.u64.wrap (((BitVec.ofInt 64 (m:Int)) &&& (BitVec.ofInt 64 (n:Int))).toNat:Nat))) w'=_;rw [e2,ztq (by omega)]
theorem zkr {m n:Nat} (hm:m<4611686018427387904) (hn:n<4611686018427387904) (k:K (.int .u64 ((zir m n:Nat):Int))):RD P (bin .andNot t x y (.int .u64 (m:Int)) (.int .u64 (n:Int))) w K:=by
 have hlt:zir m n≤m:=zgp m n;refine za7 (λw' _=>?_) k
 have e2:((BitVec.ofInt 64 (m:Int)) &&& ~~~(BitVec.ofInt 64 (n:Int))).toNat=zir m n:=by
   apply Nat.eq_of_testBit_eq;intro i;have hm64:m<2^64:=by omega
   have hn64:n<2^64:=by omega
   simp only [BitVec.testBit_toNat,BitVec.getLsbD_and,BitVec.getLsbD_not,BitVec.ofInt_natCast,BitVec.getLsbD_ofNat,zcw];by_cases hi:i<64
   · simp [hi]
   have:m.testBit i=false:=Nat.testBit_lt_two_pow (Nat.lt_of_lt_of_le hm64 (Nat.pow_le_pow_right (by omega) (by omega)));simp [hi,this]
 show (do eqGuard .andNot t x y (.int .u64 (m:Int)) (.int .u64 (n:Int));binOp .andNot t (.int .u64 (m:Int)) (.int .u64 (n:Int)):Sem Value).run P w'=_;simp only [eqGuard,binOp,Op.intBits];show Result.ok (Value.int .u64 (IntKind.u64.wrap (((BitVec.ofInt 64 (m:Int)) &&& ~~~(BitVec.ofInt 64 (n:Int))).toNat:Nat))) w'=_;rw [e2,ztq (by omega)]
theorem zhE {m n:Nat} {ku:IntKind} (hm:m<4611686018427387904) (k:K (.int .u64 ((m >>> n:Nat):Int))):RD P (bin .shr t x y (.int .u64 (m:Int)) (.int ku (n:Int))) w K:=by
 refine za7 (λw' _=>?_) k;have e0:¬((n:Int)<0):=by omega
 have e1:(m:Int).fdiv (2^(min n 64))=((m >>> n:Nat):Int):=by
   rw [Nat.shiftRight_eq_div_pow];have h2:((2:Int)^(min n 64))=((2^(min n 64):Nat):Int):=by simp
   rw [h2,Int.fdiv_eq_ediv_of_nonneg _ (Int.natCast_nonneg _),←Int.natCast_ediv];by_cases h:n≤64
   · rw [Nat.min_eq_left h]
   rw [Nat.min_eq_right (by omega),Nat.div_eq_of_lt (by omega),Nat.div_eq_of_lt (Nat.lt_of_lt_of_le (by omega:m<2^64) (Nat.pow_le_pow_right (by omega) (by omega)))]
 show (do eqGuard .shr t x y (.int .u64 (m:Int)) (.int ku (n:Int));binOp .shr t (.int .u64 (m:Int)) (.int ku (n:Int)):Sem Value).run P w'=_;simp only [eqGuard,binOp,Op.shift,e0,if_false,Int.toNat_natCast];show Result.ok (Value.int .u64 ((m:Int).fdiv (2^(min n 64)))) w'=_;rw [e1]
theorem znN {n:Nat} {ku:IntKind} (hn:n<62) (k:K (.int .u64 ((2^n:Nat):Int))):RD P (bin .shl t x y (.int .u64 1) (.int ku (n:Int))) w K:=by
 refine za7 (λw' _=>?_) k;have hp:(2^n:Nat)<4611686018427387904:=Nat.pow_lt_pow_right (by omega) hn;have e1:IntKind.u64.wrap ((2^n:Nat):Int)=((2^n:Nat):Int):=ztq (by omega);have e0:¬((n:Int)<0):=by omega
 have e2:min n 64=n:=by omega
 show (do eqGuard .shl t x y (.int .u64 1) (.int ku (n:Int));binOp .shl t (.int .u64 1) (.int ku (n:Int)):Sem Value).run P w'=_;simp only [eqGuard,binOp,Op.shift,e0,if_false,Int.toNat_natCast];show Result.ok (Value.int .u64 (IntKind.u64.wrap ((1:Int)*2^(min n 64)))) w'=_;rw [e2,←e1];simp
end
end Go.Sh
namespace Go.Proofs.YtifonhplnmpgaaaGreat
open Go Go.Sh Go.Proofs
open Rep (rep)
section
variable {nx:Nat→List Nat} {n m i j k t:Nat} {A:List DArc} {p q:Nat→Prop}
theorem zvg:FW nx (m+1) m j↔FW nx m m j:=⟨FW.old',.inl⟩
theorem zlc:zce p n ||| zce q n=zce (λi=>p i∨q i) n:=zdv λi=>by
 rw [Nat.testBit_or,Bool.or_eq_true,zaT,zaT];exact ⟨λh=>h.elim (λh=>⟨h.1,.inl h.2⟩) λh=>⟨h.1,.inr h.2⟩,λ⟨h,h'⟩=>h'.elim (λh'=>.inl ⟨h,h'⟩) λh'=>.inr ⟨h,h'⟩⟩
theorem zld (hi:i<n):2^i=zce (λj=>j=i) n:=zdv λj=>by
 rw [Nat.testBit_two_pow,decide_eq_true_eq];exact ⟨λh=>⟨h▸hi,h.symm⟩,λh=>h.2.symm⟩
theorem zrm:0=zce (λ_=>False) n:=zdv λj=>by simp
theorem zdR (hn:n≤60):zce p n<4611686018427387904:=Nat.lt_of_lt_of_le zhu (Nat.le_trans (Nat.pow_le_pow_right (n:=2) (by omega) hn) (by decide))
theorem zvh (hn:n≤60):zce p n<18446744073709551616:=Nat.lt_trans (zdR hn) (by decide)
noncomputable def zdq (nx:Nat→List Nat) (n m k:Nat):List Nat:=(List.range n).map λi=>zce (FW nx (if i<k then m+1 else m) i) n
theorem zcE:(zdq nx n m k).length=n:=by simp [zdq]
theorem zdk (h:i<(zdq nx n m k).length):(zdq nx n m k)[i]=zce (FW nx (if i<k then m+1 else m) i) n:=by simp [zdq]
theorem zp5 (h:m<(zdq nx n m k).length):(zdq nx n m k)[m]=zce (FW nx m m) n:=by
 rw [zdk];refine zbe λj _=>?_;split
 · exact zvg
 exact .rfl
theorem zp6:zdq nx n m n=zdq nx n (m+1) 0:=List.map_congr_left λi hi=>by
 rw [if_pos (List.mem_range.1 hi),if_neg (by omega)]
theorem zp7 (x:Nat) (hx:x=zce (FW nx (m+1) k) n) (hk:k<n):(zdq nx n m k).set k x=zdq nx n m (k+1):=by
 subst hx;refine List.ext_getElem (by simp [zdq]) λi h1 h2=>?_;rw [List.getElem_set,zdk,zdk];by_cases h:k=i
 · subst h;rw [if_pos rfl,if_pos (by omega)]
 rw [if_neg h];by_cases h3:i<k
 · rw [if_pos h3,if_pos (by omega)]
 rw [if_neg h3,if_neg (by omega)]
theorem zp8 (h:¬FW nx m k m):zdq nx n m k=zdq nx n m (k+1):=List.map_congr_left λi hi=>by
 by_cases h3:i<k
 · rw [if_pos h3,if_pos (by omega)]
 rw [if_neg h3];by_cases h4:i<k+1
 · have:i=k:=by omega
   subst this;rw [if_pos h4];exact zbe λj _=>⟨.inl,λh'=>h'.elim id λh'=>absurd h'.1 h⟩
 rw [if_neg h4]
theorem zwY (h:FW nx m k m):zce (FW nx m k) n ||| zce (FW nx m m) n=zce (FW nx (m+1) k) n:=by
 rw [zlc];exact zbe λj _=>⟨λh'=>h'.elim .inl λh'=>.inr ⟨h,h'⟩,λh'=>h'.elim .inl λh'=>.inr h'.2⟩
noncomputable def zi2 (nx:Nat→List Nat) (n:Nat):List Nat:=(List.range n).map λi=>zce (RP nx i) n
theorem zml:(zi2 nx n).length=n:=by simp [zi2]
theorem zmm (h:i<(zi2 nx n).length):(zi2 nx n)[i]=zce (RP nx i) n:=by simp [zi2]
theorem zrn (hn:∀ i j,j∈nx i→i<n∧j<n):zdq nx n n 0=zi2 nx n:=List.map_congr_left λi hi=>by
 rw [if_neg (by omega)];exact zbe λj _=>FW.iff hn
theorem zvi:nxA n []=λ_=>[]:=by
 funext i;unfold nxA zaY;rw [List.filter_eq_nil_iff];intro j _ h;simp at h
theorem zo1 {a:DArc} (hf:a.fr=(i:Int)) (ht:a.to=(k:Int)) (hi:i<n) (hk:k<n) {x y:Nat}:y∈nxA n (A++[a]) x↔y∈nxA n A x∨(x=i∧y=k):=by
 unfold nxA;simp only [zaJ,List.mem_append,List.mem_singleton,DArc.ext_iff,hf,ht];constructor
 · rintro ⟨h1,h2,h3 | ⟨h3,h4⟩⟩
   · exact .inl ⟨h1,h2,h3⟩
   exact .inr ⟨Int.ofNat_inj.1 h3,Int.ofNat_inj.1 h4⟩
 rintro (⟨h1,h2,h3⟩ | ⟨rfl,rfl⟩)
 · exact ⟨h1,h2,.inl h3⟩
 exact ⟨hk,hi,.inr ⟨rfl,rfl⟩⟩
theorem zro:List.replicate n 0=zdq (nxA n []) n 0 0:=by
 refine List.ext_getElem (by simp [zdq]) λi h1 h2=>?_;rw [zdk,List.getElem_replicate];refine zdv λj=>?_;rw [if_neg (by omega),zvi];simp [FW]
theorem zp9 {a:DArc} (hf:a.fr=(i:Int)) (ht:a.to=(k:Int)) (hi:i<n) (hk:k<n) (h:i<(zdq (nxA n A) n 0 0).length) :
   (zdq (nxA n A) n 0 0).set i ((zdq (nxA n A) n 0 0)[i] ||| 2^k)=zdq (nxA n (A++[a])) n 0 0:=by
 refine List.ext_getElem (by simp [zdq]) λx h1 h2=>?_;rw [List.getElem_set];simp only [zdk,zld hk,zlc];by_cases hx:i=x
 · subst hx
   rw [if_pos rfl,if_neg (by omega)];refine zbe λj _=>?_;show _↔j∈nxA n (A++[a]) i;rw [zo1 hf ht hi hk];exact ⟨λh=>h.elim .inl λh=>.inr ⟨rfl,h⟩,λh=>h.elim .inl λh=>.inr h.2⟩
 rw [if_neg hx,if_neg (by omega)];refine zbe λj _=>?_;show j∈nxA n A x↔j∈nxA n (A++[a]) x;rw [zo1 hf ht hi hk];exact ⟨.inl,λh=>h.elim id λh=>absurd h.1.symm hx⟩
end
section
variable {n i j f:Nat} {way:Nat→Nat→Prop} {told:Nat→Prop}
def zj9 (way:Nat→Nat→Prop) (i j x:Nat):Prop:=x=i∨(x<j∧way i x∧way x i)
theorem zqa (hi:i<n):2^i=zce (zj9 way i 0) n:=by
 rw [zld hi];exact zbe λj _=>⟨.inl,λh=>h.elim id λh=>by omega⟩
theorem zrp (hj:j<n) (h1:way i j) (h2:way j i):zce (zj9 way i j) n ||| 2^j=zce (zj9 way i (j+1)) n:=by
 rw [zld hj,zlc];refine zbe λx _=>?_;unfold zj9;constructor
 · rintro ((h | h) | rfl)
   · exact .inl h
   · exact .inr ⟨by omega,h.2⟩
   exact .inr ⟨by omega,h1,h2⟩
 rintro (h | ⟨h3,h4⟩)
 · exact .inl (.inl h)
 rcases Nat.lt_or_eq_of_le (Nat.lt_succ_iff.1 h3) with h5 | h5
 · exact .inl (.inr ⟨h5,h4⟩)
 exact .inr h5
theorem zo2 (h:¬(way i j∧way j i)):zce (zj9 way i j) n=zce (zj9 way i (j+1)) n:=by
 refine zbe λx _=>?_;unfold zj9;constructor
 · rintro (h1 | h1)
   · exact .inl h1
   exact .inr ⟨by omega,h1.2⟩
 rintro (h1 | ⟨h3,h4⟩)
 · exact .inl h1
 rcases Nat.lt_or_eq_of_le (Nat.lt_succ_iff.1 h3) with h5 | h5
 · exact .inr ⟨h5,h4⟩
 subst h5;exact absurd h4 h
theorem zrq:zce (zj9 way i n) n=zce (zbR way i) n:=zbe λx hx=>
 ⟨λh=>h.elim .inl λh=>.inr h.2,λh=>h.elim .inl λh=>.inr ⟨hx,h⟩⟩
theorem ztr (hi:i<n) (ht:¬told i):zir (zir (zce (way i) n) (zce (zbR way i) n)) (zce told n)=0↔OkC n way told i:=by
 constructor
 · intro h
   refine ⟨hi,ht,λj hj hw=>?_⟩;have h1:(zir (zir (zce (way i) n) (zce (zbR way i) n)) (zce told n)).testBit j=false:=by rw [h];simp
   rw [zcw,zcw] at h1;have h2:(zce (way i) n).testBit j=true:=zaT.2 ⟨hj,hw⟩;rw [h2] at h1;by_cases h3:(zce told n).testBit j=true
   · exact .inr (zaT.1 h3).2
   have h4:(zce (zbR way i) n).testBit j=true:=by
     cases e:(zce (zbR way i) n).testBit j
     · simp [e,h3] at h1
     rfl
   rcases (zaT.1 h4).2 with rfl | h5
   · exact .inl hw
   exact .inl h5.2
 rintro ⟨_,_,h⟩;refine Nat.eq_of_testBit_eq λj=>?_;rw [zcw,zcw,Nat.zero_testBit];cases e:(zce (way i) n).testBit j
 · simp
 obtain ⟨hj,hw⟩:=zaT.1 e;rcases h j hj hw with h1 | h1
 · have:(zce (zbR way i) n).testBit j=true:=zaT.2 ⟨hj,.inr ⟨hw,h1⟩⟩
   simp [this]
 have:(zce told n).testBit j=true:=zaT.2 ⟨hj,h1⟩;simp [this]
theorem zvj (h:i<n):zce told n ||| zce (zbR way i) n=zce (zgP way told i) n:=zlc
end
end Go.Proofs.YtifonhplnmpgaaaGreat
namespace Go.Sh
open Rep (rep)
section
variable {P:Program} {w w0:World} {α:Type} [Rep α]
theorem zmn [RepZ α] {z:Value} (hz:RepZ.zc α=[z]) (w:World):∀ n,Cells [] w (List.replicate n z) (List.replicate n (RepZ.zv:α))
 | 0=>⟨rfl,rfl⟩
 | n+1=>⟨[],[],[z],List.replicate n z,rfl,rfl,hz▸RepZ.zr w,zmn hz w n⟩
theorem zts (z:Value) (n:Nat):(madeCells #[z] n).toList=List.replicate n z:=by
 apply List.ext_getElem
 · simp [madeCells]
 intro i h1 h2;simp [madeCells,Nat.mod_one]
theorem ze8 [RepZ α] {t e:TypeId} {by_:Nat} {z:Value} {K:Value→World→Prop} {n:Nat} (ht:P.underlying t=some (.slice e)) (he:tyI P e=some (Rep.size α,by_,Rep.agg α)) (h1:Rep.size α=1) (hzc:RepZ.zc α=[z]) (hz:zcz P e=some [z])
   (hb:by_*n≤281474976710656) (hm:n≤9223372036854775807)
   (k:∀ w',Ext w w'→RowI w.heap.size w'.heap.size e w' (.slice (some ⟨w.heap.size,0,none⟩) n n) (List.replicate n (RepZ.zv:α))→K (.slice (some ⟨w.heap.size,0,none⟩) n n) w') :
   OP P (Instr.makeSlice t (.int .i64 (n:Int)) (.int .i64 (n:Int))) w K:=by
 obtain ⟨i,d,hi,hd,hs,hby,hg⟩:=zdg he;unfold zcz at hz;rw [hi] at hz;obtain ⟨zz,hzz,hcz⟩:=Option.map_eq_some_iff.1 hz
 have hb':(i.bytes:Int)*(n:Int)≤281474976710656:=by
   have h:((i.bytes*n:Nat):Int)≤281474976710656:=by rw [hby];omega
   rwa [Int.natCast_mul] at h
 have hr:=run_make (P:=P) w t e i zz ht hi hzz .i64 .i64 n n (by omega) (Int.le_refl _) hb' (by omega);simp only [Int.toNat_natCast] at hr;have hcells:zz.cells=#[z]:=by apply Array.ext';simpa using hcz
 have hlen:n*i.size=n:=by rw [hs,h1,Nat.mul_one]
 rw [hcells,hlen] at hr;refine ⟨_,_,hr,k _ (zaV w _) (.inr ⟨[w.heap.size],⟨List.replicate n z,[],⟨?_,.inr ⟨w.heap.size,n,madeCells #[z] n,?_,z0 _,heap_alloc_new w _,by simp,by rw [zan];omega,?_,?_⟩⟩,zmn hzc _ n,rfl,Wr.nil _⟩,by simp,?_⟩)⟩
 · simp [h1]
 · simp
 · rw [h1];simp [madeCells]
 · rw [zts,List.length_replicate,h1,Nat.mul_one,List.take_of_length_le (by simp)]
 intro b hb;simp only [List.mem_cons,List.not_mem_nil,or_false] at hb;subst hb;exact ⟨Nat.le_refl _,(Array.getElem?_eq_some_iff.1 (heap_alloc_new w _)).1⟩
theorem zch {K:Value→Prop} {t:TypeId} {parts:Array (Nat×Value)} {cells:Array Value} (h:P.built t parts.toList=some cells) (k:K (.agg cells)):RD P (Instr.build t parts) w K:=
 za7 (λw' _=>run_build w' t parts cells h) k
theorem zdl {t by_ g e o:Nat} {cs:List Value} {u:Value} {lo hi:Nat} {x:α} {K:World→Prop} (ht:tyI P t=some (1,by_,false)) (h1:Rep.size α=1) (ha:Rep.agg α=false) (hB:Blk g e w cs) (ho:o<cs.length) (hu:OwnI lo hi w u x)
   (k:∀ w',ChgI g (g+1) w w'→Blk g e w' (cs.set o u)→K w'):OPU P (Instr.storeAt t (.pointer (some ⟨g,o,none⟩)) u) w K:=by
 obtain ⟨F,⟨⟨cs',hr,hv⟩,_⟩,_⟩:=hu;have hl':=Rep.len hr;rw [h1] at hl';obtain ⟨c,rfl⟩:=List.length_eq_one_iff.1 hl';have huc:u=c:=by simpa [mkv,ha] using hv
 subst huc;refine ziN (by rw [h1,ha];exact ht) hB hr hv (by omega) λw' hc hB'=>k w' (hc.toI (by simp)) ?_
 have:cs.set o u=cs.take o++[u]++cs.drop (o+1):=by
   rw [List.set_eq_take_append_cons_drop,if_pos ho];simp
 rw [this];exact hB'
theorem Blk.chgI {g e a b:Nat} {w':World} {cs:List Value} (h:Blk g e w cs) (hc:ChgI a b w w') (hd:g<a∨b≤g):Blk g e w' cs:=h.keep (hc.block g h.lt hd)
end
end Go.Sh
namespace Go.Sh
open Rep (rep)
def RowG {α:Type} [Rep α] (F:List Nat) (e:TypeId) (w:World) (v:Value) (l:List α):Prop:=(∃ a,v=.slice a 0 0∧l=[]∧F=[])∨RowF F e w v l
section
variable {P:Program} {w w0 w':World} {α β γ:Type} [Rep α] [Rep β] {e lo hi:Nat} {v:Value} {l:List α} {F:List Nat}
theorem RowG.lt (h:RowG F e w v l):∀ b∈F,b<w.heap.size:=by
 rcases h with ⟨a,_,_,rfl⟩ | h
 · simp
 exact h.lt
theorem RowG.keep (h:RowG F e w v l) (hk:∀ b∈F,w'.heap[b]?=w.heap[b]?):RowG F e w' v l:=by
 rcases h with h | h
 · exact .inl h
 exact .inr (h.keep hk)
theorem RowG.own (h:RowG F e w v l):OwnF F w v l:=by
 rcases h with ⟨a,rfl,rfl,rfl⟩ | h
 · exact ⟨_,⟨a,0,[],[],rfl,lr _,z0 _,⟨rfl,rfl⟩,.inl ⟨rfl,rfl⟩⟩,rfl⟩
 exact h.own
theorem RowG.wr (h:RowG F e w v l):Wr F w:=by
 rcases h with ⟨a,_,_,rfl⟩ | h
 · exact Wr.nil w
 exact h.wr
theorem RowG.one (h:RowG F e w v l):v.oneCell'=true:=by
 obtain ⟨cs,⟨a,cap,Fi,xs,rfl,_⟩,rfl⟩:=h.own;rfl
theorem zit:RowI lo hi e w v l↔∃ F,RowG F e w v l∧F.Nodup∧∀ b∈F,lo≤b∧b<hi:=by
 constructor
 · rintro (⟨a,h1,h2⟩ | ⟨F,h1,h2,h3⟩)
   · exact ⟨[],.inl ⟨a,h1,h2,rfl⟩,List.nodup_nil,by simp⟩
   exact ⟨F,.inr h1,h2,h3⟩
 rintro ⟨F,(⟨a,h1,h2,_⟩ | h1),h2',h3⟩
 · exact .inl ⟨a,h1,h2⟩
 exact .inr ⟨F,h1,h2',h3⟩
end
structure RV (α:Type) (e:TypeId) where
 v:Value
 l:List α
instance {α:Type} [Rep α] {e:TypeId}:Rep (RV α e) where
 size:=1
 agg:=false
 rep F w cs x:=cs=[x.v]∧RowG F e w x.v x.l
 pos:=by decide
 sz _:=rfl
 len:=by rintro _ _ _ _ ⟨rfl,_⟩;rfl
 one:=by rintro _ _ _ _ ⟨rfl,h⟩ v hv;simp at hv;subst hv;exact h.one
 keep:=by rintro _ _ _ _ _ ⟨rfl,h⟩ hk;exact ⟨rfl,h.keep hk⟩
 lt:=by rintro _ _ _ _ ⟨rfl,h⟩;exact h.lt
section
variable {P:Program} {w w0 w':World} {α β γ:Type} [Rep α] [Rep β] {e lo hi:Nat} {v:Value} {l:List α} {F:List Nat}
instance:RepZ (RV α e):=⟨⟨.slice none 0 0,[]⟩,[.slice none 0 0],λ_=>⟨rfl,.inl ⟨none,rfl,rfl,rfl⟩⟩⟩
end
end Go.Sh
namespace Go.Sh
open Rep (rep)
structure Raw where
 v:Value
instance:Rep Raw where
 size:=1
 agg:=false
 rep F _ cs x:=F=[]∧cs=[x.v]∧x.v.oneCell'=true
 pos:=by decide
 sz _:=rfl
 len:=by rintro _ _ _ _ ⟨_,rfl,_⟩;rfl
 one:=by rintro _ _ _ _ ⟨_,rfl,h⟩ v hv;simp at hv;subst hv;exact h
 keep:=by rintro _ _ _ _ _ h _;exact h
 lt:=by rintro _ _ _ _ ⟨rfl,_⟩ b hb;cases hb
section
variable {P:Program} {w w0 w' w1:World} {α β γ:Type} [Rep α] [Rep β] {e lo hi:Nat} {v:Value} {F G S:List Nat} {b o g:Nat}
theorem zo3 {t by_:Nat} {y y':β} {upd:β→α} {u:Value} {K:World→Prop} (ht:tyI P t=some (Rep.size β,by_,Rep.agg β)) (hL:Lens (VH g) (g :: F) w b o G y upd) (hF:∀ b∈F,lo≤b∧b<hi) (hg:hi≤g) (hlo:lo≤g) (hu:Mine [] w u y')
   (k:∀ w',ChgI lo (g+1) w w'→VarI lo hi w' g (upd y')→K w'):OPU P (Instr.storeAt t (.pointer (some ⟨b,o,none⟩)) u) w K:=by
 refine zoT ht hL hu (by simp) λw' hc ⟨F',h1,h2⟩=>k w' (hc.toI λc hcm=>?_) ⟨F',h1,λc hcm=>?_⟩
 · rcases List.mem_cons.1 hcm with rfl | hcm
   · omega
   have:=hF c hcm;omega
 rcases h2 c hcm with h | h
 · rcases List.mem_cons.1 h with rfl | h
   · obtain ⟨_,_,_,_,_,hn,_⟩:=h1;exact absurd hcm hn
   exact hF c h
 simp at h
theorem VarI.mono {lo' hi':Nat} {x:α} (h:VarI lo hi w g x) (h1:lo'≤lo) (h2:hi≤hi'):VarI lo' hi' w g x:=by
 obtain ⟨F,h,hF⟩:=h;exact ⟨F,h,λb hb=>by have:=hF b hb;omega⟩
theorem zgY {t ty:TypeId} {by_:Nat} {u:Value} {x:β} {l:List β} {GX:List Nat} {K:World→Value→World→Prop} {C:Value→World→Prop} (ht:P.underlying t=some (.slice e)) (he:tyI P e=some (Rep.size β,by_,Rep.agg β)) (hz:zbO P e=true)
   (hzc:(P.info? e).map (λi=>(i.zero.map (·.cells.size)))=some (some (Rep.size β))) (hsz:Rep.size β≤1000) (hv:RowG G e w v l) (hn:G.Nodup) (hx:Mine GX w u x) (hd:∀ c∈GX,c∉G) (hm:l.length+1≤maxLen) (hb:(l.length+1)*by_≤140737488355328)
   (k:∀ w1 v' w' G',Ext w w1→Chg G w1 w'→RowG G' e w' v' (l++[x])→G'.Nodup→(∀ c∈G',c∈G∨c∈GX∨w.heap.size≤c)→K w1 v' w')
   (hC:∀ s w1,Ext w w1→OP P (Builtin.append_ #[t,t] ty [v,s].toArray) w1 (K w1)→C s w1):OP P (Instr.buildSlice t 1 #[(0,u)]) w C:=by
 refine zgX ht he hz hsz hx λw1 hx1 hm1=>?_;obtain ⟨⟨cs,⟨a,cap,Fi,xs,rfl,h1,h2,hc,h4⟩,hveq⟩,hn1,hw1⟩:=hm1;simp only [mkv,Rep.agg,cond_false,List.headD_cons,Value.slice.injEq,List.length_cons,List.length_nil] at hveq;obtain ⟨rfl,_,rfl⟩:=hveq;rcases h4 with ⟨h4,_⟩ | ⟨b,o,hab,hFe,hra,hbl⟩
 · simp at h4
 simp only [List.cons.injEq] at hFe;obtain ⟨_,rfl⟩:=hFe;refine hC _ w1 hx1 ?_
 have key:∀ (v:Value) (F:List Nat),RowF F e w v l→F.Nodup→(∀ c∈F,c∈G)→OP P (Builtin.append_ #[t,t] ty [v,.slice (some ⟨w.heap.size,0,none⟩) 1 1].toArray) w1 (K w1):=by
   intro v F hF hFn hFG;have hF1:=hF.ext hx1
   have hdd:(GX++F).Nodup:=by
     rw [List.nodup_append];exact ⟨hx.nodup,hFn,λp hp q hq e=>hd p hp (hFG _ (e▸hq))⟩
   refine zgN (m:=[x]) ht he hzc hF1 hFn rfl hc (.inr ⟨b,o,hab,hra⟩) (hw1.sub (by simp +contextual)) hdd (by simpa using hm) (by simpa using hb) λv' w' F' hch hfull hr' hn' hs'=>?_
   have hown:∀ c∈v.ownBlock.toList,c∈G:=λc hc=>by
     obtain ⟨xs,Fi,_,_,rfl,_⟩:=hF;exact hFG c (by simp only [List.mem_append];exact .inl hc)
   refine k w1 v' w' F' hx1 (hch.mono hown) (.inr hr') hn' λc hc=>?_;rcases hs' c hc with h | h | h
   · exact .inl (hFG c h)
   · exact .inr (.inl h)
   exact .inr (.inr (Nat.le_trans hx1.size h))
 rcases hv with ⟨a0,rfl,rfl,rfl⟩ | hF
 · have kn:=key (.slice none 0 0) [] (zi0 e w) List.nodup_nil (by simp)
   cases a0 with
   | none=>exact kn
   | some x0=>
     simp only [Option.some.injEq,Addr.mk.injEq] at hab;obtain ⟨rfl,rfl,_⟩:=hab;exact zk8 (zgn (α:=β) (n:=1) ht he hzc (by simpa using Cells.len hc) hra (by omega) (by rw [zan];omega) (by simpa using hb)) kn
 exact key v G hF hn (λ_ h=>h)
theorem zcn [Flat β] {t:TypeId} {by_:Nat} {u:Value} {x:β} {K:Value→World→Prop} (ht:P.underlying t=some (.slice e)) (he:tyI P e=some (Rep.size β,by_,Rep.agg β)) (hz:zbO P e=true) (hsz:Rep.size β≤1000) (hx:Mine [] w u x)
   (k:∀ v w',Ext w w'→RowI w.heap.size w'.heap.size e w' v [x]→K v w'):OP P (Instr.buildSlice t 1 #[(0,u)]) w K:=by
 obtain ⟨⟨cs,hr,rfl⟩,hn,hw⟩:=hx;have hcl:=zeM hr;have hlen:=Rep.len hr;have hvs:(mkv β cs).cells.size=Rep.size β:=by rw [←Array.length_toList,hcl,hlen]
 obtain ⟨i,d,hi,hd,hs,hby,hg⟩:=zdg he;unfold zbO at hz;rw [hi] at hz;obtain ⟨z,hz⟩:=Option.isSome_iff_exists.1 hz;have hpos:=Rep.pos (α:=β);refine ⟨_,w.alloc (.cells (mkv β cs).cells e),?_,k (.slice (some ⟨w.heap.size,0,none⟩) 1 1) _ (zaV w _) (.inr ⟨[w.heap.size],⟨cs,[],⟨by simp [hlen],.inr ⟨w.heap.size,1,(mkv β cs).cells,rfl,z0 _,heap_alloc_new w _,lr _,by rw [zan];omega,by rw [hvs,Nat.one_mul],?_⟩⟩,Cells.single (zb5 hr (zaV w _)),rfl,Wr.nil _⟩,by simp,?_⟩)⟩
 · have hne:¬Rep.size β=0:=by omega
   have h24:¬2^24<Rep.size β:=by omega
   simp only [Instr.buildSlice,Sem.run_bind,run_underlying ht,Result.andThen_ok,za2 he,Nat.one_mul];simp [h24,hne,zeroValue,typeInfo,hi,hz,zoX _ _ _ hvs,newRow]
 · rw [hcl,List.length_singleton,Nat.one_mul,List.take_of_length_le (by omega)]
 intro b hb;simp only [List.mem_cons,List.not_mem_nil,or_false] at hb;subst hb;exact ⟨Nat.le_refl _,(Array.getElem?_eq_some_iff.1 (heap_alloc_new w _)).1⟩
end
end Go.Sh
namespace Go.Proofs.YtifonhplnmpgaaaGreat
open Go Go.Sh Go.Proofs
open Rep (rep)
def F84 (a0 a1:Value) (w:World) (R:VW):Prop:=
 oP (Instr.makeSlice 118 a0 a0) w λx11 w=>
 rN 62 3 a1 w λx13=>
 LOOPI [14] [(iV 0)] w λu3 w n3=>
 rC (u3 14) x13 w λx15=>
 BR x15
 (rX 62 a1 (u3 14) w λx16=>
 rL 106 x16 w λx17=>
 oP (aL 106) w λx7 w=>
 oS 106 x7 x17 w λw=>
 (λw=>rF 106 x7 0 w λx19=>
 rL 3 x19 w λx20=>
 rX 118 x11 x20 w λx21=>
 rL 120 x21 w λx22=>
 rF 106 x7 1 w λx23=>
 rL 3 x23 w λx24=>
 rD (convert 3 121 x24) w λx25=>
 rB .shl 120 U0 T0 (Value.int .u64 1) x25 w λx26=>
 rB .or 120 T0 T0 x22 x26 w λx27=>
 rX 118 x11 x20 w λx28=>
 oS 120 x28 x27 w λw=>
 rI (u3 14) w λx29=>
 n3 [x29] w) (World.drew1 w))
 (rN 118 3 x11 w λx31=>
 LOOPI [32] [(iV 0)] w λu8 w n8=>
 rC (u8 32) x31 w λx33=>
 BR x33
 (rN 118 3 x11 w λx36=>
 LOOPI [37] [(iV 0)] w λu11 w n11=>
 rC (u11 37) x36 w λx38=>
 BR x38
 (rX 118 x11 (u11 37) w λx42=>
 rL 120 x42 w λx43=>
 rD (convert 3 121 (u8 32)) w λx45=>
 rB .shr 120 T0 T0 x43 x45 w λx46=>
 rB .and 120 T0 U0 x46 (Value.int .u64 1) w λx47=>
 rB .eql 120 T0 U0 x47 (Value.int .u64 1) w λx48=>
 BR x48
 ((λw=>rX 118 x11 (u11 37) w λx51=>
 rL 120 x51 w λx52=>
 rX 118 x11 (u8 32) w λx55=>
 rL 120 x55 w λx56=>
 rB .or 120 T0 T0 x52 x56 w λx57=>
 rX 118 x11 (u11 37) w λx58=>
 oS 120 x58 x57 w λw=>
 rI (u11 37) w λx59=>
 n11 [x59] w) (World.drew1 w))
 (rI (u11 37) w λx59=>
 n11 [x59] w))
 (rI (u8 32) w λx60=>
 n8 [x60] w))
 (R x11 w))
theorem F84_call {a0 a1 w R} (h:F84 a0 a1 w R):cL 84 [a0,a1] w R:=co (g:=(kf [] [(3,1073725568,[14]),(8,2305843004918727424,[32]),(11,1152921367167894016,[37])] [(5,[0,1,2,3,4,5,6,7,8,9,10,11],0),(14,[0,1,2,3,4,5,6,7,8,9,10],0)])) Tryz.func84 h
open Rep (rep)
theorem zxp:zcz tp 120=some [.int .u64 0]:=by kernel_rfl
structure RU (w0 w:World) (v:Value) (l:List Nat):Prop where
 ext:Ext w0 w
 own:Own w0.heap.size w v l
section
variable {w0 w w':World} {v:Value} {l:List Nat} {i m n:Nat}
theorem RU.step (h:RU w0 w v l) (hx:Ext w w'):RU w0 w' v l:=⟨h.ext.trans hx,h.own.ext hx⟩
theorem RU.get {K:Value→Prop} (h:RU w0 w v l) (hi:i<l.length) (k:K (.int .u64 (l[i]:Int))) :
   RD tp (Instr.indexAt 118 v (.int .i64 (i:Int))) w λa=>RD tp (Instr.loadAt 120 a) w K:=
 zac zv4 znK h.own.is hi λb o hA=>zoZ znK hA (Ext.refl _) k
theorem zle {w1:World} {K:Value→Prop} (h:Is w1 v l) (hx:Ext w1 w) (hi:i<l.length) (k:K (.int .u64 (l[i]:Int))) :
   RD tp (Instr.indexAt 118 v (.int .i64 (i:Int))) w λa=>RD tp (Instr.loadAt 120 a) w K:=
 zac zv4 znK h hi λb o hA=>zoZ znK hA hx k
theorem RU.set {K:World→Prop} (h:RU w0 w v l) (hi:i<l.length) (hm:m<18446744073709551616) (k:∀ w',RU w0 w' v (l.set i m)→K w') :
   RD tp (Instr.indexAt 118 v (.int .i64 (i:Int))) w λa=>OPU tp (Instr.storeAt 120 a (.int .u64 (m:Int))) w K:=by
 obtain ⟨F,hM,hF⟩:=h.own;refine zcI zv4 znK hM hi λb o G hL=>?_;refine zcR (upd:=λy=>l.set i y) (y':=m) znK hL (ztp hm) λw2 F2 hc2 hm2 hF2=>?_;exact k w2 ⟨h.ext.chg_trans hc2 hF,F2,hm2,λb hb=>hF b (hF2 b hb)⟩
theorem ztt {K:Value→World→Prop} (hn:n≤60) (k:∀ v w',RU w w' v (List.replicate n 0)→K v w'):OP tp (Instr.makeSlice 118 (.int .i64 (n:Int)) (.int .i64 (n:Int))) w K:=
 ze8 (α:=Nat) zv4 znK rfl rfl zxp (by omega) (by omega) λw2 hx2 hr2=>k _ w2 ⟨hx2,hr2.own.own⟩
end
theorem zqR {m i:Nat}:(((m >>> i &&& 1:Nat):Int)=1)↔m.testBit i=true:=by
 have:=zrl m i;constructor
 · intro h;rw [←this,decide_eq_true_eq];exact h
 intro h;rw [←this,decide_eq_true_eq] at h;exact h
theorem zks {w W1:World} {v1:Value} {n:Nat} {A:List DArc} (h1:Is W1 v1 A) (e1:Ext W1 w) (hn:n≤60) (hA:∀ a∈A,(0≤a.fr∧a.fr<n)∧0≤a.to∧a.to<n) (hl:A.length≤2000) :
   CALL tp 84 [.int .i64 (n:Int),v1] w λr w'=>Ext w w'∧Own w.heap.size w' r (zi2 (nxA n A) n):=by
 refine F84_call ?_;unfold F84;refine ztt hn λvr w1 hR1=>?_;refine zae u62 h1 ?_;refine zam A.length (λk us w'=>us=[.int .i64 (k:Int)]∧k≤A.length∧RU w w' vr (zdq (nxA n (A.take k)) n 0 0)) 0 (z0 _) ⟨rfl,z0 _,by rw [List.take_zero,←zro];exact hR1⟩ ?_;rintro k mk u w2 hkm ⟨hu,hkl,hR2⟩;try replace hu:=zbi hu
 rw [hu];refine zag ?_;refine br (λhlt=>?_) (λhge=>?_)
 · have hk:k<A.length:=by omega
   refine zac u62 zdQ h1 hk λb3 o3 hA3=>?_;refine zaa zdQ hA3 (e1.trans hR2.ext) λv17 h17=>?_;refine zb7 ztm rfl zdQ rfl h17 (e1.trans hR2.ext) λw3 hx3 hAt3 hV3=>?_;have hxd:=zaj w3;generalize World.drew1 w3=w4 at *;have hR4:=(hR2.step hx3).step hxd;obtain ⟨⟨hf0,hf1⟩,ht0,ht1⟩:=hA _ (List.getElem_mem hk);obtain ⟨i,hi⟩:∃ i:Nat,A[k].fr=(i:Int):=⟨A[k].fr.toNat,by omega⟩;obtain ⟨j,hj⟩:∃ j:Nat,A[k].to=(j:Int):=⟨A[k].to.toNat,by omega⟩;refine zab ziT ?_;refine zad ty3 (zfy hAt3) hxd λ_=>?_;rw [hi];refine hR4.get (by rw [zcE];omega) ?_;refine zab ziU ?_;refine zad ty3 (zfz hAt3) hxd λ_=>?_;rw [hj];refine zbI (by kernel_rfl) ziq (by omega) ?_;refine znN (by omega) ?_;have hj60:2^j<4611686018427387904:=Nat.lt_of_le_of_lt (Nat.pow_le_pow_right (n:=2) (by omega) (show j≤60 by omega)) (by decide);refine zo0 (by rw [zdk];exact zdR hn) hj60 ?_;have hb:(zdq (nxA n (A.take k)) n 0 0)[i]'(by rw [zcE];omega) ||| 2^j<2^62:=Nat.or_lt_two_pow (by rw [zdk];exact zdR hn) hj60;refine hR4.set (by rw [zcE];omega) (by omega) λw5 hR5=>?_;rw [zp9 hi hj (by omega) (by omega)] at hR5;refine zas ?_;refine ⟨mk-1,by omega,k+1,by omega,rfl,by omega,?_⟩;rw [tk hk];exact hR5
 have hke:k=A.length:=by omega
 rw [hke,List.take_length] at hR2;refine zae zv4 hR2.own.is ?_;rw [zcE];refine zam n (λm us w'=>us=[.int .i64 (m:Int)]∧m≤n∧RU w w' vr (zdq (nxA n A) n m 0)) 0 (z0 _) ⟨rfl,z0 _,hR2⟩ ?_;rintro m mm q3 w3 hmm ⟨hu3,hml,hR3⟩;try replace hu3:=zbi hu3
 rw [hu3];refine zag ?_;refine br (λhlt3=>?_) (λhge3=>?_)
 case refine_2=>
   have hme:m=n:=by omega
   rw [hme,zrn zuB] at hR3;exact ⟨hR3.ext,hR3.own⟩
 have hm:m<n:=by omega
 refine zae zv4 hR3.own.is ?_;rw [zcE];refine zam n (λk us w'=>us=[.int .i64 (k:Int)]∧k≤n∧RU w w' vr (zdq (nxA n A) n m k)) 0 (z0 _) ⟨rfl,z0 _,hR3⟩ ?_;rintro i mi q4 w4 hmi ⟨hu4,hil,hR4⟩;try replace hu4:=zbi hu4
 rw [hu4];refine zag ?_;refine br (λhlt4=>?_) (λhge4=>?_)
 case refine_2=>
   have hie:i=n:=by omega
   rw [hie,zp6] at hR4;refine zas ?_;exact ⟨mm-1,by omega,m+1,by omega,rfl,by omega,hR4⟩
 have hi:i<n:=by omega
 refine hR4.get (by rw [zcE];omega) ?_;refine zbI (by kernel_rfl) ziq (by omega) ?_;refine zhE (by rw [zdk];exact zdR hn) ?_;have h62:zce (FW (nxA n A) m i) n<4611686018427387904:=zdR hn;have hgi:(zdq (nxA n A) n m i)[i]'(by rw [zcE];omega)=zce (FW (nxA n A) m i) n:=by rw [zdk,if_neg (by omega)]
 have hgm:(zdq (nxA n A) n m i)[m]'(by rw [zcE];omega)=zce (FW (nxA n A) m m) n:=zp5 _;refine zhD (n:=1) (Nat.lt_of_le_of_lt (by rw [Nat.shiftRight_eq_div_pow];exact Nat.div_le_self _ _) (show _<_ by rw [hgi];exact h62)) (by omega) ?_;refine zao ?_;refine br (λhb=>?_) (λhb=>?_)
 · have hFW:FW (nxA n A) m i m:=by
     rw [zqR,hgi,zaT] at hb;exact hb.2
   have hxd:=zaj w4;generalize World.drew1 w4=w5 at *;have hR5:=hR4.step hxd;refine hR5.get (by rw [zcE];omega) ?_;refine hR5.get (by rw [zcE];omega) ?_;refine zo0 (by rw [hgi];exact h62) (by rw [hgm];exact zdR hn) ?_;rw [hgi,hgm,zwY hFW];refine hR5.set (by rw [zcE];omega) (zvh hn) λw6 hR6=>?_;rw [zp7 _ rfl hi] at hR6;refine zas ?_;exact ⟨mi-1,by omega,i+1,by omega,rfl,by omega,hR6⟩
 have hFW:¬FW (nxA n A) m i m:=λh=>hb (by rw [zqR,hgi,zaT];exact ⟨hm,h⟩);rw [zp8 hFW] at hR4;refine zas ?_;exact ⟨mi-1,by omega,i+1,by omega,rfl,by omega,hR4⟩
def F44 (a0 a1:Value) (w:World) (R:VW):Prop:=
 cL 84 [a0,a1] w λx16 w=>
 LOOPI [6,7] [(Value.slice none 0 0),(Value.int .u64 0)] w λu4 w n4=>
 JOIN [8,9] (λJ19=>
 LOOPI [8,9,10] [(iV (-1)),(Value.int .u64 0),(iV 0)] w λu7 w n7=>
 rC (u7 10) a0 w λx19=>
 BR x19
 (rB .lss 3 T0 U0 (u7 8) (iV 0) w λx22=>
 BR x22
 (rD (convert 3 121 (u7 10)) w λx28=>
 rB .shr 120 T0 T0 (u4 7) x28 w λx29=>
 rB .and 120 T0 U0 x29 (Value.int .u64 1) w λx30=>
 rB .eql 120 T0 U0 x30 (Value.int .u64 1) w λx31=>
 BR x31
 (rI (u7 10) w λx25=>
 n7 [(u7 8),(u7 9),x25] w)
 (rD (convert 3 121 (u7 10)) w λx33=>
 rB .shl 120 U0 T0 (Value.int .u64 1) x33 w λx34=>
 LOOPI [9,36] [x34,(iV 0)] w λu12 w n12=>
 rC (u12 36) a0 w λx37=>
 BR x37
 (rX 118 x16 (u7 10) w λx41=>
 rL 120 x41 w λx42=>
 rD (convert 3 121 (u12 36)) w λx44=>
 rB .shr 120 T0 T0 x42 x44 w λx45=>
 rB .and 120 T0 U0 x45 (Value.int .u64 1) w λx46=>
 rB .eql 120 T0 U0 x46 (Value.int .u64 1) w λx47=>
 BR x47
 (rX 118 x16 (u12 36) w λx51=>
 rL 120 x51 w λx52=>
 rD (convert 3 121 (u7 10)) w λx54=>
 rB .shr 120 T0 T0 x52 x54 w λx55=>
 rB .and 120 T0 U0 x55 (Value.int .u64 1) w λx56=>
 rB .eql 120 T0 U0 x56 (Value.int .u64 1) w λx57=>
 BR x57
 (rD (convert 3 121 (u12 36)) w λx61=>
 rB .shl 120 U0 T0 (Value.int .u64 1) x61 w λx62=>
 rB .or 120 T0 T0 (u12 9) x62 w λx63=>
 rI (u12 36) w λx64=>
 n12 [x63,x64] w)
 (rI (u12 36) w λx64=>
 n12 [(u12 9),x64] w))
 (rI (u12 36) w λx64=>
 n12 [(u12 9),x64] w))
 (rX 118 x16 (u7 10) w λx67=>
 rL 120 x67 w λx68=>
 rB .andNot 120 T0 T0 x68 (u12 9) w λx70=>
 rB .andNot 120 T0 T0 x70 (u4 7) w λx72=>
 rB .eql 120 T0 U0 x72 (Value.int .u64 0) w λx73=>
 BR x73
 (rI (u7 10) w λx25=>
 n7 [(u7 10),(u12 9),x25] w)
 (rI (u7 10) w λx25=>
 n7 [(u7 8),(u12 9),x25] w))))
 (J19 [(u7 8),(u7 9)] w))
 (J19 [(u7 8),(u7 9)] w)) (λu19 w=>
 rB .lss 3 T0 U0 (u19 8) (iV 0) w λx76=>
 BR x76
 (R (u4 6) w)
 (LOOPI [12,79] [(Value.slice none 0 0),(iV 0)] w λu23 w n23=>
 rC (u23 79) a0 w λx80=>
 BR x80
 (rD (convert 3 121 (u23 79)) w λx84=>
 rB .shr 120 T0 T0 (u19 9) x84 w λx85=>
 rB .and 120 T0 U0 x85 (Value.int .u64 1) w λx86=>
 rB .eql 120 T0 U0 x86 (Value.int .u64 1) w λx87=>
 BR x87
 (oP (bS 23 (u23 79)) w λx90 w=>
 oP (aP 23 (u23 12) x90) w λx91 w=>
 rI (u23 79) w λx92=>
 n23 [x91,x92] w)
 (rI (u23 79) w λx92=>
 n23 [(u23 12),x92] w))
 (oP (bS 39 (u23 12)) w λx95 w=>
 oP (aP 39 (u4 6) x95) w λx96 w=>
 rB .or 120 T0 T0 (u4 7) (u19 9) w λx99=>
 n4 [x96,x99] w)))
theorem F44_call {a0 a1 w R} (h:F44 a0 a1 w R):cL 44 [a0,a1] w R:=co (g:=(kf [(19,37778931862957161582336,[8,9])] [(4,1267650600228229401496703090640,[6,7]),(7,37778931862957161582336,[8,9,10]),(12,36893488078699629056,[9,36]),(23,9902915851373234884605652992,[12,79])] [])) Tryz.func44 h
open Rep (rep)
theorem zmo (m i:Nat):m >>> i≤m:=by rw [Nat.shiftRight_eq_div_pow];exact Nat.div_le_self _ _
theorem znO {w W1:World} {v1:Value} {n:Nat} {A:List DArc} (h1:Is W1 v1 A) (e1:Ext W1 w) (hn:n≤60) (hA:∀ a∈A,(0≤a.fr∧a.fr<n)∧0≤a.to∧a.to<n) (hl:A.length≤2000) :
   CALL tp 44 [.int .i64 (n:Int),v1] w λr w'=>Ext w w'∧Own w.heap.size w' r ((zmc n (RP (nxA n A))).map zaI):=by
 refine F44_call ?_;unfold F44;refine (zks h1 e1 hn hA hl).mono ?_;rintro v16 w1 ⟨hx1,ho1⟩;have hWay:=ho1.is;have hWl:(zi2 (nxA n A) n).length=n:=zml;have hWg:∀ i (h:i<(zi2 (nxA n A) n).length),(zi2 (nxA n A) n)[i]=zce (RP (nxA n A) i) n:=λi h=>zmm h;generalize zi2 (nxA n A) n=ws at *;generalize RP (nxA n A)=way at *;have hs1:=hx1.size;refine zam n (λk us w'=>∃ out f told L,us=[out,.int .u64 ((zce told n:Nat):Int)]∧f+k=n∧zer n told≤f∧zmc n way=L++zeb n way f told∧L.length=k∧Ext w1 w'∧∃ lo hi,w1.heap.size≤lo∧lo≤w'.heap.size∧hi≤w'.heap.size∧RowI lo hi 23 w' out (L.map zaI)) 0 (z0 _) ⟨_,n,λ_=>False,[],by rw [←zrm];rfl,rfl,zk1,rfl,rfl,Ext.refl _,w1.heap.size,w1.heap.size,lr _,Nat.le_refl _,lr _,zcv _ _ _ _⟩ ?_;rintro k mk u w2 hkm ⟨out,f,told,L,hu,hfk,hlf,hcL,hLl,hx2,lo,hi,hlo,hlo2,hhi,hr2⟩;obtain ⟨hu1,hu2⟩:=zbL hu;rw [hu1,hu2];have hD62:zce told n<4611686018427387904:=zdR hn;refine JOIN.mk (λus w'=>w'=w2∧((zfn n way told=none∧∃ p,us=[.int .i64 (-1),.int .u64 p])∨∃ i:Nat,zfn n way told=some i∧us=[.int .i64 (i:Int),.int .u64 ((zce (zbR way i) n:Nat):Int)])) ?_ ?_
 · refine zam n (λi us w'=>w'=w2∧i≤n∧∃ fd p,us=[.int .i64 fd,.int .u64 p,.int .i64 (i:Int)]∧((fd=-1∧∀ j,j<i→¬OkC n way told j)∨∃ i0:Nat,fd=(i0:Int)∧OkC n way told i0∧(∀ j,j<i0→¬OkC n way told j)∧p=((zce (zbR way i0) n:Nat):Int))) 0 (z0 _) ⟨rfl,z0 _,-1,0,rfl,.inl ⟨rfl,λj hj=>by omega⟩⟩ ?_
   rintro i mi q7 w3 hmi ⟨rfl,hil,fd,p,hu7,hcase⟩;obtain ⟨hu71,hu72,hu73⟩:=zwi hu7;rw [hu71,hu72,hu73];refine zag ?_;refine br (λhlt=>?_) (λhge=>?_)
   case refine_2=>
     have hie:i=n:=by omega
     refine ⟨rfl,?_⟩;rcases hcase with ⟨rfl,hno⟩ | ⟨i0,rfl,hok,hmin,rfl⟩
     · exact .inl ⟨zfS.2 λj hj=>hno j (by have:=hj.1;omega) hj,_,rfl⟩
     exact .inr ⟨i0,zhv hok hmin,rfl⟩
   have hi':i<n:=by omega
   refine zag ?_;refine br (λhfd=>?_) (λhfd=>?_)
   case refine_2=>
     refine ⟨rfl,?_⟩;rcases hcase with ⟨rfl,hno⟩ | ⟨i0,rfl,hok,hmin,rfl⟩
     · exact absurd (by decide) hfd
     exact .inr ⟨i0,zhv hok hmin,rfl⟩
   have hno:fd=-1∧∀ j,j<i→¬OkC n way told j:=by
     rcases hcase with h | ⟨i0,rfl,_⟩
     · exact h
     omega
   obtain ⟨rfl,hno⟩:=hno;refine zbI (by kernel_rfl) ziq (by omega) ?_;refine zhE hD62 ?_;refine zhD (n:=1) (Nat.lt_of_le_of_lt (zmo _ _) hD62) (by omega) ?_;refine zao ?_;refine br (λhb=>?_) (λhb=>?_)
   · rw [zqR,zaT] at hb
     refine zas ?_;refine ⟨mi-1,by omega,i+1,by omega,rfl,by omega,-1,p,rfl,.inl ⟨rfl,λj hj=>?_⟩⟩;rcases Nat.lt_or_eq_of_le (Nat.lt_succ_iff.1 hj) with h | rfl
     · exact hno j h
     exact λh=>h.2.1 hb.2
   have htd:¬told i:=λh=>hb (by rw [zqR,zaT];exact ⟨hi',h⟩);refine zbI (by kernel_rfl) ziq (by omega) ?_;refine znN (by omega) ?_;rw [zqa (way:=way) hi'];refine zam n (λj us w'=>w'=w3∧j≤n∧us=[.int .u64 ((zce (zj9 way i j) n:Nat):Int),.int .i64 (j:Int)]) 0 (z0 _) ⟨rfl,z0 _,rfl⟩ ?_;rintro j mj q12 w4 hmj ⟨rfl,hjl,hu12⟩;obtain ⟨hu121,hu122⟩:=zbL hu12;rw [hu121,hu122];have hP62:∀ j,zce (zj9 way i j) n<4611686018427387904:=λj=>zdR hn;have hW62:∀ j,zce (way j) n<4611686018427387904:=λj=>zdR hn;refine zag ?_;refine br (λhlt2=>?_) (λhge2=>?_)
   · have hj:j<n:=by omega
     refine zle (i:=i) hWay hx2 (by omega) ?_;rw [hWg];refine zbI (by kernel_rfl) ziq (by omega) ?_;refine zhE (hW62 _) ?_;refine zhD (n:=1) (Nat.lt_of_le_of_lt (zmo _ _) (hW62 _)) (by omega) ?_;refine zao ?_;refine br (λhb1=>?_) (λhb1=>?_)
     · rw [zqR,zaT] at hb1
       refine zle (i:=j) hWay hx2 (by omega) ?_;rw [hWg];refine zbI (by kernel_rfl) ziq (by omega) ?_;refine zhE (hW62 _) ?_;refine zhD (n:=1) (Nat.lt_of_le_of_lt (zmo _ _) (hW62 _)) (by omega) ?_;refine zao ?_;refine br (λhb2=>?_) (λhb2=>?_)
       · rw [zqR,zaT] at hb2
         refine zbI (by kernel_rfl) ziq (by omega) ?_;refine znN (by omega) ?_;refine zo0 (hP62 _) (Nat.lt_of_le_of_lt (Nat.pow_le_pow_right (n:=2) (by omega) (show j≤60 by omega)) (by decide)) ?_;rw [zrp hj hb1.2 hb2.2];refine zas ?_;exact ⟨mj-1,by omega,j+1,by omega,rfl,by omega,rfl⟩
       rw [zo2 (n:=n) (j:=j) λh=>hb2 (by rw [zqR,zaT];exact ⟨hi',h.2⟩)];refine zas ?_;exact ⟨mj-1,by omega,j+1,by omega,rfl,by omega,rfl⟩
     rw [zo2 (n:=n) (j:=j) λh=>hb1 (by rw [zqR,zaT];exact ⟨hj,h.1⟩)];refine zas ?_;exact ⟨mj-1,by omega,j+1,by omega,rfl,by omega,rfl⟩
   have hje:j=n:=by omega
   rw [hje,zrq];refine zle (i:=i) hWay hx2 (by omega) ?_;rw [hWg];refine zkr (hW62 _) (zdR hn) ?_;refine zkr (Nat.lt_of_le_of_lt (zgp _ _) (hW62 _)) hD62 ?_;refine zao ?_;have hokb:=ztr (way:=way) hi' htd;refine br (λhb=>?_) (λhb=>?_)
   · have hok:OkC n way told i:=hokb.1 (by omega)
     refine zas ?_;exact ⟨mi-1,by omega,i+1,by omega,rfl,by omega,_,_,rfl,.inr ⟨i,rfl,hok,hno,rfl⟩⟩
   have hok:¬OkC n way told i:=λh=>hb (by rw [hokb.2 h];rfl);refine zas ?_;refine ⟨mi-1,by omega,i+1,by omega,rfl,by omega,-1,_,rfl,.inl ⟨rfl,λj hj=>?_⟩⟩;rcases Nat.lt_or_eq_of_le (Nat.lt_succ_iff.1 hj) with h | rfl
   · exact hno j h
   exact hok
 rintro q19 w3 ⟨rfl,hJ⟩;rcases hJ with ⟨hnx,p,hu19⟩ | ⟨i,hnx,hu19⟩
 · obtain ⟨hu191,hu192⟩:=zbL hu19;clear hu19
   rw [hu191];refine zag ?_;refine br (λ_=>?_) (λh=>absurd (by decide) h);rw [ziR hnx,List.append_nil] at hcL;rw [hcL];exact ⟨hx1.t hx2,hr2.own.own.mono (by omega)⟩
 obtain ⟨hu191,hu192⟩:=zbL hu19;rw [hu191,hu192];refine zag ?_;refine br (λh=>by omega) (λ_=>?_);have hok:=zgQ hnx;obtain ⟨f',hcf,hlf',hff⟩:=ziS hlf hnx;refine zam n (λj us w'=>∃ lv,us=[lv,.int .i64 (j:Int)]∧j≤n∧Ext w3 w'∧RowI w3.heap.size w'.heap.size 3 w' lv (zaI (zaY j (zbR way i)))) 0 (z0 _) ⟨_,rfl,z0 _,Ext.refl _,zcv _ _ _ _⟩ ?_;rintro j mj q23 w4 hmj ⟨lv,hu23,hjl,hx4,hr4⟩;obtain ⟨hu231,hu232⟩:=zbL hu23;rw [hu231,hu232];have hs4:=hx4.size;have hP62:zce (zbR way i) n<4611686018427387904:=zdR hn;have hsl:(zaY j (zbR way i)).length≤j:=za0;refine zag ?_;refine br (λhlt=>?_) (λhge=>?_)
 · have hj:j<n:=by omega
   refine zbI (by kernel_rfl) ziq (by omega) ?_;refine zhE hP62 ?_;refine zhD (n:=1) (Nat.lt_of_le_of_lt (zmo _ _) hP62) (by omega) ?_;refine zao ?_;refine br (λhb=>?_) (λhb=>?_)
   · rw [zqR,zaT] at hb
     refine zbF (lo2:=w4.heap.size) (hi2:=w4.heap.size) (x:=(j:Int)) u23 ty3 z3 zc3 (by decide) hr4 hs4 (ownI_int (by unfold I64;omega)) (lr _) hs4 (by rw [zan,zaf];omega) (by rw [zaf];omega) λv54 w9 hc9 hr9=>?_;refine zas ?_;refine ⟨mj-1,by omega,j+1,by omega,v54,rfl,by omega,hx4.chgI hc9 (lr _),?_⟩;rw [zct hb.2,zbW];exact hr9
   refine zas ?_;refine ⟨mj-1,by omega,j+1,by omega,lv,rfl,by omega,hx4,?_⟩;rw [zcM λh=>hb (by rw [zqR,zaT];exact ⟨hj,h⟩)];exact hr4
 have hje:j=n:=by omega
 rw [hje] at hr4;refine zbF (lo2:=w3.heap.size) (hi2:=w4.heap.size) (x:=zaI (zaY n (zbR way i))) u39 za4 z23 zwL (by decide) (hr2.ext hx4) (by omega) hr4.own hhi (by omega) (by rw [zan,List.length_map];omega) (by rw [List.length_map];omega) λv54 w9 hc9 hr9=>?_;refine zo0 hD62 hP62 ?_;rw [zvj (n:=n) hok.1];have hs9:=hc9.size;refine ⟨mk-1,by omega,k+1,by omega,v54,f',zgP way told i,L++[zaY n (zbR way i)],rfl,by omega,hlf',by rw [hcL,hcf,List.append_assoc];rfl,by simp [hLl],(hx2.t hx4).chgI hc9 hlo,lo,w9.heap.size,hlo,by omega,lr _,?_⟩;rw [List.map_append];exact hr9
section
variable {nx:Nat→List Nat} {n m i j k t:Nat} {A:List DArc} {p q:Nat→Prop}
noncomputable def zb9 (nx:Nat→List Nat) (n m k j:Nat):List (List Bool):=(List.range n).map λi=>zby n λx=>FW nx (if i<k∨(i=k∧x<j) then m+1 else m) i x
theorem zmp:(zb9 nx n m k j).length=n:=by simp [zb9]
theorem zca (h:i<(zb9 nx n m k j).length):(zb9 nx n m k j)[i]=zby n λx=>FW nx (if i<k∨(i=k∧x<j) then m+1 else m) i x:=by simp [zb9]
theorem zo4 (h:i<(zb9 nx n m k j).length) {x:Nat} (hx:x<((zb9 nx n m k j)[i]).length):((zb9 nx n m k j)[i])[x]=true↔FW nx (if i<k∨(i=k∧x<j) then m+1 else m) i x:=by
 rw [←zaQ hx,zca,zaF];rw [zca,zak] at hx;exact ⟨λh=>h.2,λh=>⟨hx,h⟩⟩
theorem zlf:FW nx 0 i j↔j∈nx i:=.rfl
theorem ztu:FW nx (m+1) k m↔FW nx m k m:=⟨FW.old,.inl⟩
theorem ztv:FW nx (m+1) m j↔FW nx m m j:=⟨FW.old',.inl⟩
theorem zrr:zb9 nx n m k n=zb9 nx n m (k+1) 0:=List.map_congr_left λi _=>zaN λx hx=>by
 have:(i<k∨(i=k∧x<n))↔(i<k+1∨(i=k+1∧x<0)):=by omega
 simp only [this]
theorem zqb:zb9 nx n m n 0=zb9 nx n (m+1) 0 0:=List.map_congr_left λi hi=>zaN λx hx=>by
 have hi:=List.mem_range.1 hi;rw [if_pos (.inl hi),if_neg (by omega)]
theorem zqc (h:¬FW nx m k m):zb9 nx n m k 0=zb9 nx n m (k+1) 0:=List.map_congr_left λi hi=>zaN λx hx=>by
 by_cases h3:i<k
 · rw [if_pos (.inl h3),if_pos (by omega)]
 rw [if_neg (by omega)];by_cases h4:i=k
 · subst h4
   rw [if_pos (by omega)];exact ⟨.inl,λh'=>h'.elim id λh'=>absurd h'.1 h⟩
 rw [if_neg (by omega)]
theorem ztw (h:¬FW nx m m j):zb9 nx n m k j=zb9 nx n m k (j+1):=List.map_congr_left λi hi=>zaN λx hx=>by
 by_cases h1:i<k∨(i=k∧x<j)
 · rw [if_pos h1,if_pos (by omega)]
 rw [if_neg h1];by_cases h2:i=k∧x=j
 · obtain ⟨rfl,rfl⟩:=h2
   rw [if_pos (by omega)];exact ⟨.inl,λh'=>h'.elim id λh'=>absurd h'.2 h⟩
 rw [if_neg (by omega)]
theorem zlg {p:Nat→Prop} (hj:j<n):(zby n p).set j true=zby n λx=>p x∨x=j:=by
 refine zbT (by rw [List.length_set,zak]) λi hi=>?_;rw [zcp (by rw [zak];exact hj),zaF];exact ⟨λh=>h.elim (λh=>.inl h.2) .inr,λh=>h.elim (λh=>.inl ⟨hi,h⟩) .inr⟩
theorem zrs (hk:k<n) (hj:j<n) (h1:FW nx m k m) (h2:FW nx m m j) (h:k<(zb9 nx n m k j).length) :
   (zb9 nx n m k j).set k ((zb9 nx n m k j)[k].set j true)=zb9 nx n m k (j+1):=by
 refine List.ext_getElem (by simp [zb9]) λi h3 h4=>?_;rw [List.getElem_set];by_cases hi:k=i
 · subst hi
   rw [if_pos rfl,zca,zca,zlg hj];refine zaN λx hx=>?_;by_cases hxj:x=j
   · subst hxj
     have e1:(if k<k∨(k=k∧x<x+1) then m+1 else m)=m+1:=if_pos (.inr ⟨rfl,by omega⟩);rw [e1];exact ⟨λ_=>.inr ⟨h1,h2⟩,λ_=>.inr rfl⟩
   by_cases hl:x<j
   · rw [if_pos (.inr ⟨rfl,hl⟩),if_pos (.inr ⟨rfl,by omega⟩)]
     exact ⟨λh=>h.elim id λh=>absurd h hxj,.inl⟩
   rw [if_neg (by omega),if_neg (by omega)];exact ⟨λh=>h.elim id λh=>absurd h hxj,.inl⟩
 rw [if_neg hi,zca,zca];refine zaN λx hx=>?_;by_cases h5:i<k∨(i=k∧x<j)
 · rw [if_pos h5,if_pos (by omega)]
 rw [if_neg h5,if_neg (by omega)]
noncomputable def ze9 (nx:Nat→List Nat) (n:Nat):List (List Bool):=(List.range n).map λi=>zby n (RP nx i)
theorem zmq:(ze9 nx n).length=n:=by simp [ze9]
theorem zgZ (h:i<(ze9 nx n).length):(ze9 nx n)[i]=zby n (RP nx i):=by simp [ze9]
theorem zo5 (h:i<(ze9 nx n).length) {x:Nat} (hx:x<((ze9 nx n)[i]).length):((ze9 nx n)[i])[x]=true↔RP nx i x:=by
 rw [←zaQ hx,zgZ,zaF];rw [zgZ,zak] at hx;exact ⟨λh=>h.2,λh=>⟨hx,h⟩⟩
theorem zrt (hn:∀ i j,j∈nx i→i<n∧j<n):zb9 nx n n 0 0=ze9 nx n:=List.map_congr_left λi hi=>zaN λx hx=>by
 rw [if_neg (by omega)];exact FW.iff hn
theorem ztx:nxA n []=λ_=>[]:=by
 funext i;unfold nxA zaY;rw [List.filter_eq_nil_iff];intro j _ h;simp at h
theorem zmr {a:DArc} (hf:a.fr=(i:Int)) (ht:a.to=(k:Int)) (hi:i<n) (hk:k<n) {x y:Nat}:y∈nxA n (A++[a]) x↔y∈nxA n A x∨(x=i∧y=k):=by
 unfold nxA;simp only [zaJ,List.mem_append,List.mem_singleton,DArc.ext_iff,hf,ht];constructor
 · rintro ⟨h1,h2,h3 | ⟨h3,h4⟩⟩
   · exact .inl ⟨h1,h2,h3⟩
   exact .inr ⟨Int.ofNat_inj.1 h3,Int.ofNat_inj.1 h4⟩
 rintro (⟨h1,h2,h3⟩ | ⟨rfl,rfl⟩)
 · exact ⟨h1,h2,.inl h3⟩
 exact ⟨hk,hi,.inr ⟨rfl,rfl⟩⟩
theorem zqd:List.replicate n (List.replicate n false)=zb9 (nxA n []) n 0 0 0:=by
 refine List.ext_getElem (by simp [zb9]) λi h1 h2=>?_;rw [zca,List.getElem_replicate];refine zbT (by simp) λj _=>?_;rw [if_neg (by omega),ztx];simp [FW,zbv]
theorem znP {a:DArc} (hf:a.fr=(i:Int)) (ht:a.to=(k:Int)) (hi:i<n) (hk:k<n) (h:i<(zb9 (nxA n A) n 0 0 0).length) :
   (zb9 (nxA n A) n 0 0 0).set i ((zb9 (nxA n A) n 0 0 0)[i].set k true)=zb9 (nxA n (A++[a])) n 0 0 0:=by
 refine List.ext_getElem (by simp [zb9]) λx h1 h2=>?_;rw [List.getElem_set];by_cases hx:i=x
 · subst hx
   rw [if_pos rfl,zca,zca,zlg hk];refine zaN λj _=>?_;rw [if_neg (by omega)];rw [zlf,zlf,zmr hf ht hi hk];exact ⟨λh=>h.elim .inl λh=>.inr ⟨rfl,h⟩,λh=>h.elim .inl λh=>.inr h.2⟩
 rw [if_neg hx,zca,zca];refine zaN λj _=>?_;rw [if_neg (by omega)];rw [zlf,zlf,zmr hf ht hi hk];exact ⟨.inl,λh=>h.elim id λh=>absurd h.1.symm hx⟩
end
section
variable {n i j f:Nat} {way:Nat→Nat→Prop} {told:Nat→Prop}
def OkK (way:Nat→Nat→Prop) (told:Nat→Prop) (i j:Nat):Prop:=¬told i∧∀ x,x<j→way i x→way x i∨told x
theorem zru (hi:i<n):OkK way told i n↔OkC n way told i:=⟨λh=>⟨hi,h⟩,λh=>h.2⟩
theorem zty:OkK way told i (j+1)↔OkK way told i j∧(way i j→way j i∨told j):=by
 constructor
 · rintro ⟨h1,h2⟩;exact ⟨⟨h1,λx hx=>h2 x (by omega)⟩,h2 j (by omega)⟩
 rintro ⟨⟨h1,h2⟩,h3⟩;refine ⟨h1,λx hx=>?_⟩;rcases Nat.lt_or_eq_of_le (Nat.lt_succ_iff.1 hx) with h | rfl
 · exact h2 x h
 exact h3
def zi3 (way:Nat→Nat→Prop) (told:Nat→Prop) (i j x:Nat):Prop:=told x∨(x<j∧zbR way i x)
theorem zqe:zby n told=zby n (zi3 way told i 0):=zaN λx _=>⟨.inl,λh=>h.elim id λh=>by omega⟩
theorem zrv:zby n (zi3 way told i n)=zby n (zgP way told i):=zaN λx hx=>⟨λh=>h.elim .inl λh=>.inr h.2,λh=>h.elim .inl λh=>.inr ⟨hx,h⟩⟩
theorem zms (hj:j<n) (h:zbR way i j):(zby n (zi3 way told i j)).set j true=zby n (zi3 way told i (j+1)):=by
 rw [zlg hj];refine zaN λx _=>?_;unfold zi3;constructor
 · rintro ((h1 | h1) | rfl)
   · exact .inl h1
   · exact .inr ⟨by omega,h1.2⟩
   exact .inr ⟨by omega,h⟩
 rintro (h1 | ⟨h1,h2⟩)
 · exact .inl (.inl h1)
 rcases Nat.lt_or_eq_of_le (Nat.lt_succ_iff.1 h1) with h3 | h3
 · exact .inl (.inr ⟨h3,h2⟩)
 exact .inr h3
theorem ztz (h:¬zbR way i j):zby n (zi3 way told i j)=zby n (zi3 way told i (j+1)):=by
 refine zaN λx _=>?_;unfold zi3;constructor
 · rintro (h1 | h1)
   · exact .inl h1
   exact .inr ⟨by omega,h1.2⟩
 rintro (h1 | ⟨h1,h2⟩)
 · exact .inl h1
 rcases Nat.lt_or_eq_of_le (Nat.lt_succ_iff.1 h1) with h3 | h3
 · exact .inr ⟨h3,h2⟩
 subst h3;exact absurd h2 h
end
def F74 (a0 a1:Value) (w:World) (R:VW):Prop:=
 oP (Instr.buildSlice 99 0 #[]) w λx11 w=>
 LOOPI [5,6] [x11,(iV 0)] w λu3 w n3=>
 rC (u3 6) a0 w λx14=>
 BR x14
 (oP (Instr.makeSlice 101 a0 a0) w λx19 w=>
 oP (bS 99 x19) w λx20 w=>
 oP (aP 99 (u3 5) x20) w λx21 w=>
 rI (u3 6) w λx16=>
 n3 [x21,x16] w)
 (LOOPI [7] [(iV 0)] w λu7 w n7=>
 rN 62 3 a1 w λx24=>
 rC (u7 7) x24 w λx25=>
 BR x25
 ((λw=>rX 62 a1 (u7 7) w λx31=>
 rF 106 x31 0 w λx32=>
 rL 3 x32 w λx33=>
 rX 99 (u3 5) x33 w λx34=>
 rL 101 x34 w λx35=>
 rX 62 a1 (u7 7) w λx38=>
 rF 106 x38 1 w λx39=>
 rL 3 x39 w λx40=>
 rX 101 x35 x40 w λx41=>
 oS 4 x41 vT w λw=>
 rI (u7 7) w λx27=>
 n7 [x27] w) (World.drew1 w))
 (LOOPI [8] [(iV 0)] w λu11 w n11=>
 rC (u11 8) a0 w λx44=>
 BR x44
 (LOOPI [9] [(iV 0)] w λu14 w n14=>
 rC (u14 9) a0 w λx49=>
 BR x49
 (LOOPI [10] [(iV 0)] w λu17 w n17=>
 rC (u17 10) a0 w λx54=>
 BR x54
 (rX 99 (u3 5) (u14 9) w λx58=>
 rL 101 x58 w λx59=>
 rX 101 x59 (u11 8) w λx61=>
 rL 4 x61 w λx62=>
 BR x62
 (rX 99 (u3 5) (u11 8) w λx68=>
 rL 101 x68 w λx69=>
 rX 101 x69 (u17 10) w λx71=>
 rL 4 x71 w λx72=>
 BR x72
 (rX 99 (u3 5) (u14 9) w λx75=>
 rL 101 x75 w λx76=>
 rX 101 x76 (u17 10) w λx78=>
 oS 4 x78 vT w λw=>
 rI (u17 10) w λx65=>
 n17 [x65] w)
 (rI (u17 10) w λx65=>
 n17 [x65] w))
 (rI (u14 9) w λx51=>
 n14 [x51] w))
 (rI (u14 9) w λx51=>
 n14 [x51] w))
 (rI (u11 8) w λx46=>
 n11 [x46] w))
 (R (u3 5) w)))
theorem F74_call {a0 a1 w R} (h:F74 a0 a1 w R):cL 74 [a0,a1] w R:=co (g:=(kf [] [(3,4190304,[5,6]),(7,4398042316928,[7]),(11,604462909802916540843776,[8]),(14,604462909666577098999296,[9]),(17,604462905303714959983616,[10])] [(9,[0,1,2,3,4,5,6,7,8,9,10,11,12,13,14],0)])) Tryz.func74 h
open Rep (rep)
theorem zxd:zcz tp 4=some [.bool false]:=by kernel_rfl
structure RB (w0 w:World) (v:Value) (l:List (List Bool)):Prop where
 ext:Ext w0 w
 own:Own w0.heap.size w v l
section
variable {w0 w w' w1:World} {v:Value} {l:List (List Bool)} {i j m n:Nat}
theorem RB.step (h:RB w0 w v l) (hx:Ext w w'):RB w0 w' v l:=⟨h.ext.trans hx,h.own.ext hx⟩
theorem zhF {K:Value→Prop} (h:Is w1 v l) (hx:Ext w1 w) (hi:i<l.length) (hj:j<l[i].length) (k:K (.bool l[i][j])) :
   RD tp (Instr.indexAt 99 v (.int .i64 (i:Int))) w λa=>RD tp (Instr.loadAt 101 a) w λb=>RD tp (Instr.indexAt 101 b (.int .i64 (j:Int))) w λc=>RD tp (Instr.loadAt 4 c) w K:=
 zac u99 zcd h hi λb o hA=>zaa zcd hA hx λv2 h2=>zac zcy ty4 h2 hj λb2 o2 hA2=>zay ty4 hA2 hx k
theorem RB.set {K:World→Prop} (h:RB w0 w v l) (hi:i<l.length) (hj:j<l[i].length) (k:∀ w',RB w0 w' v (l.set i (l[i].set j true))→K w') :
   RD tp (Instr.indexAt 99 v (.int .i64 (i:Int))) w λa=>RD tp (Instr.loadAt 101 a) w λb=>RD tp (Instr.indexAt 101 b (.int .i64 (j:Int))) w λc=>OPU tp (Instr.storeAt 4 c (.bool true)) w K:=by
 obtain ⟨F,hM,hF⟩:=h.own;refine zcI u99 zcd hM hi λb o G hL=>?_;refine zed zcd hL λb3 hM3 hG3 hb3=>?_;refine zcI zcy ty4 hM3 hj λb4 o4 G4 hL4=>?_;refine zcR (upd:=λy=>l[i].set j y) (y':=true) ty4 hL4 mine_bool λw2 F2 hc2 hm2 hF2=>?_;obtain ⟨F5,hm5,hF5⟩:=hb3 w2 F2 _ hc2 hm2 λc hc=>.inl (hF2 c hc);refine k w2 ⟨h.ext.chg_trans (hc2.mono hG3) hF,F5,hm5,λc hc=>?_⟩;rcases hF5 c hc with h6 | h6
 · exact hF c h6
 exact hF c (hG3 c (hF2 c h6))
end
theorem zi4 {w W1:World} {v1:Value} {n:Nat} {A:List DArc} (h1:Is W1 v1 A) (e1:Ext W1 w) (hn:n≤60) (hA:∀ a∈A,(0≤a.fr∧a.fr<n)∧0≤a.to∧a.to<n) (hl:A.length≤2000) :
   CALL tp 74 [.int .i64 (n:Int),v1] w λr w'=>Ext w w'∧Own w.heap.size w' r (ze9 (nxA n A) n):=by
 refine F74_call ?_;unfold F74;refine zaH (α:=List Bool) u99 zcd λa8 w1 hx1 hr1=>?_;refine zam n (λk us w'=>∃ out,us=[out,.int .i64 (k:Int)]∧k≤n∧Ext w w'∧RowI w.heap.size w'.heap.size 101 w' out (List.replicate k (List.replicate n false))) 0 (z0 _) ⟨_,rfl,z0 _,hx1,zb8 _ _ _ _ _⟩ ?_;rintro k mk q w2 hkm ⟨out,hq,hkl,hx2,hr2⟩;obtain ⟨hq1,hq2⟩:=zbL hq;clear hq;rw [hq1,hq2];have hs2:=hx2.size;refine zag ?_;refine br (λhlt=>?_) (λhge=>?_)
 · refine ze8 (α:=Bool) zcy ty4 rfl rfl zxd (by omega) (by omega) λw3 hx3 hr3=>?_
   have hs3:=hx3.size;refine zbF (x:=List.replicate n false) u99 zcd zwV zve (by decide) (hr2.ext hx3) (by omega) hr3.own (lr _) (by omega) (by rw [zan,List.length_replicate];omega) (by rw [List.length_replicate];omega) λv54 w9 hc9 hr9=>?_;refine zas ?_;refine ⟨mk-1,by omega,k+1,by omega,v54,rfl,by omega,(hx2.t hx3).chgI hc9 (lr _),?_⟩;rw [List.replicate_succ'];exact hr9
 have hke:k=n:=by omega
 rw [hke,zqd] at hr2;have hR2:RB w w2 out (zb9 (nxA n []) n 0 0 0):=⟨hx2,hr2.own.own⟩;clear hr2;refine zam A.length (λk us w'=>us=[.int .i64 (k:Int)]∧k≤A.length∧RB w w' out (zb9 (nxA n (A.take k)) n 0 0 0)) 0 (z0 _) ⟨rfl,z0 _,by rw [List.take_zero];exact hR2⟩ ?_;rintro k mk q w3 hkm ⟨hq,hkl,hR3⟩;try replace hq:=zbi hq
 rw [hq];refine zae u62 h1 ?_;refine zag ?_;refine br (λhlt=>?_) (λhge=>?_)
 · have hk:k<A.length:=by omega
   have hxd:=zaj w3;generalize World.drew1 w3=w4 at *;have hR4:=hR3.step hxd;obtain ⟨⟨hf0,hf1⟩,ht0,ht1⟩:=hA _ (List.getElem_mem hk);obtain ⟨i,hi⟩:∃ i:Nat,A[k].fr=(i:Int):=⟨A[k].fr.toNat,by omega⟩;obtain ⟨j,hj⟩:∃ j:Nat,A[k].to=(j:Int):=⟨A[k].to.toNat,by omega⟩;refine zac u62 zdQ h1 hk λb3 o3 hA3=>?_;refine zab ziT ?_;refine zad ty3 (zfy hA3) (e1.trans hR4.ext) λ_=>?_;rw [hi];obtain ⟨F,hM,hF⟩:=hR4.own;have hil:i<(zb9 (nxA n (A.take k)) n 0 0 0).length:=by rw [zmp];omega
   refine zcI u99 zcd hM hil λb o G hL=>?_;refine zed zcd hL λb5 hM5 hG5 hb5=>?_;refine zac u62 zdQ h1 hk λb6 o6 hA6=>?_;refine zab ziU ?_;refine zad ty3 (zfz hA6) (e1.trans hR4.ext) λ_=>?_;rw [hj];refine zcI zcy ty4 hM5 (k:=j) (by rw [zca,zak];omega) λb7 o7 G7 hL7=>?_;refine zcR (upd:=λy=>(zb9 (nxA n (A.take k)) n 0 0 0)[i].set j y) (y':=true) ty4 hL7 mine_bool λw5 F5 hc5 hm5 hF5=>?_;obtain ⟨F6,hm6,hF6⟩:=hb5 w5 F5 _ hc5 hm5 λc hc=>.inl (hF5 c hc)
   have hR6:RB w w5 out ((zb9 (nxA n (A.take k)) n 0 0 0).set i ((zb9 (nxA n (A.take k)) n 0 0 0)[i].set j true)):=⟨hR4.ext.chg_trans (hc5.mono hG5) hF,F6,hm6,λc hc=>by
     rcases hF6 c hc with h6 | h6
     · exact hF c h6
     exact hF c (hG5 c (hF5 c h6))⟩
   rw [znP hi hj (by omega) (by omega)] at hR6;refine zas ?_;refine ⟨mk-1,by omega,k+1,by omega,rfl,by omega,?_⟩;rw [tk hk];exact hR6
 have hke:k=A.length:=by omega
 rw [hke,List.take_length] at hR3;refine zam n (λm us w'=>us=[.int .i64 (m:Int)]∧m≤n∧RB w w' out (zb9 (nxA n A) n m 0 0)) 0 (z0 _) ⟨rfl,z0 _,hR3⟩ ?_;rintro m mm q3 w4 hmm ⟨hq3,hml,hR4⟩;try replace hq3:=zbi hq3
 rw [hq3];refine zag ?_;refine br (λhlt3=>?_) (λhge3=>?_)
 case refine_2=>
   have hme:m=n:=by omega
   rw [hme,zrt zuB] at hR4;exact ⟨hR4.ext,hR4.own⟩
 have hm:m<n:=by omega
 refine zam n (λk us w'=>us=[.int .i64 (k:Int)]∧k≤n∧RB w w' out (zb9 (nxA n A) n m k 0)) 0 (z0 _) ⟨rfl,z0 _,hR4⟩ ?_;rintro i mi q4 w5 hmi ⟨hq4,hil,hR5⟩;try replace hq4:=zbi hq4
 rw [hq4];refine zag ?_;refine br (λhlt4=>?_) (λhge4=>?_)
 case refine_2=>
   have hie:i=n:=by omega
   rw [hie,zqb] at hR5;refine zas ?_;exact ⟨mm-1,by omega,m+1,by omega,rfl,by omega,hR5⟩
 have hi:i<n:=by omega
 refine zam n (λj us w'=>us=[.int .i64 (j:Int)]∧j≤n∧(0<j→FW (nxA n A) m i m)∧RB w w' out (zb9 (nxA n A) n m i j)) 0 (z0 _) ⟨rfl,z0 _,λh=>absurd h (by omega),hR5⟩ ?_;rintro j mj q5 w6 hmj ⟨hq5,hjl,hpos,hR6⟩;try replace hq5:=zbi hq5
 rw [hq5];refine zag ?_;refine br (λhlt5=>?_) (λhge5=>?_)
 case refine_2=>
   have hje:j=n:=by omega
   rw [hje,zrr] at hR6;refine zas ?_;exact ⟨mi-1,by omega,i+1,by omega,rfl,by omega,hR6⟩
 have hj:j<n:=by omega
 have hL6:(zb9 (nxA n A) n m i j).length=n:=zmp;have hl6:∀ x (hx:x<(zb9 (nxA n A) n m i j).length),((zb9 (nxA n A) n m i j)[x]).length=n:=λx hx=>by rw [zca,zak]
 refine zhF (i:=i) (j:=m) hR6.own.is (Ext.refl _) (by omega) (by rw [hl6];omega) ?_;have hat:=zo4 (nx:=nxA n A) (n:=n) (m:=m) (k:=i) (j:=j) (i:=i) (by omega) (x:=m) (by rw [hl6];omega)
 have hfw:FW (nxA n A) (if i<i∨(i=i∧m<j) then m+1 else m) i m↔FW (nxA n A) m i m:=by
   split
   · exact ztu
   exact .rfl
 rw [hfw] at hat;refine zbz (λhb=>?_) (λhb=>?_)
 case refine_2=>
   have hno:¬FW (nxA n A) m i m:=λh=>by rw [hat.2 h] at hb;cases hb
   have hj0:j=0:=by
     rcases Nat.eq_zero_or_pos j with h | h
     · exact h
     exact absurd (hpos h) hno
   subst hj0;rw [zqc hno] at hR6;refine zas ?_;exact ⟨mi-1,by omega,i+1,by omega,rfl,by omega,hR6⟩
 have hyes:=hat.1 hb;refine zhF (i:=m) (j:=j) hR6.own.is (Ext.refl _) (by omega) (by rw [hl6];omega) ?_;have hat2:=zo4 (nx:=nxA n A) (n:=n) (m:=m) (k:=i) (j:=j) (i:=m) (by omega) (x:=j) (by rw [hl6];omega)
 have hfw2:FW (nxA n A) (if m<i∨(m=i∧j<j) then m+1 else m) m j↔FW (nxA n A) m m j:=by
   split
   · exact ztv
   exact .rfl
 rw [hfw2] at hat2;refine zbz (λhb2=>?_) (λhb2=>?_)
 · have hy2:=hat2.1 hb2
   refine hR6.set (i:=i) (j:=j) (by omega) (by rw [hl6];omega) λw7 hR7=>?_;rw [zrs hi hj hyes hy2] at hR7;refine zas ?_;exact ⟨mj-1,by omega,j+1,by omega,rfl,by omega,λ_=>hyes,hR7⟩
 have hn2:¬FW (nxA n A) m m j:=λh=>by rw [hat2.2 h] at hb2;cases hb2
 rw [ztw hn2] at hR6;refine zas ?_;exact ⟨mj-1,by omega,j+1,by omega,rfl,by omega,λ_=>hyes,hR6⟩
theorem zkt {w:World} {v:Value} {x:DArc}:Is w v x↔v=.agg #[.int .i64 x.fr,.int .i64 x.to]∧I64 x.fr∧I64 x.to:=by
 constructor
 · rintro ⟨F,cs,⟨F1,F2,c1,c2,rfl,rfl,⟨rfl,rfl,h1⟩,⟨rfl,rfl,h2⟩⟩,rfl⟩
   exact ⟨rfl,h1,h2⟩
 rintro ⟨rfl,h1,h2⟩;exact ⟨[],_,⟨[],[],[.int .i64 x.fr],[.int .i64 x.to],rfl,rfl,⟨rfl,rfl,h1⟩,⟨rfl,rfl,h2⟩⟩,rfl⟩
set_option maxRecDepth 20000 in
theorem zqf {w w0 w1:World} {K:Value→Prop} {x y:Operand} {v1 v2:Value} {a b:DArc} (h1:Is w0 v1 a) (h2:Is w1 v2 b) (k:K (.bool (decide (a=b)))):RD tp (bin .eql 106 x y v1 v2) w K:=by
  obtain ⟨rfl,_⟩:=zkt.1 h1;obtain ⟨rfl,_⟩:=zkt.1 h2;refine za7 (λw' _=>?_) k;have hg:tp.eqGuardType tp.depth 106=false:=by kernel_rfl
  have e0:∀ xs ys w,(eqGuard .eql 106 x y (.agg xs) (.agg ys)).run tp w=.ok () w:=λxs ys w=>run_eqGuard_agg (P:=tp) w .eql 106 x y xs ys hg;have e1:∀ xs ys w,(Op.equalIn 10000 106 (.agg xs) (.agg ys)).run tp w=(Op.eqFields 9999 xs ys (tp.fieldsOf 106).toList).run tp w:=λxs ys w=>run_equalIn_struct w 9999 106 xs ys (by kernel_rfl) (by kernel_rfl);have e2:(tp.fieldsOf 106).toList.map (λf=>(f.name,f.type,f.offset))=[("From", 3,0),("To", 3,1)]:=by kernel_rfl
  have e3:∀ (c d:Int) (w:World),(Op.equalIn 9999 3 (.int .i64 c) (.int .i64 d)).run tp w=.ok (c == d) w:=λc d w=>run_equalIn_int w 9998 3 .i64 .i64 c d u3;have hd:(a=b)↔(a.fr=b.fr∧a.to=b.to):=DArc.ext_iff;generalize hF:(tp.fieldsOf 106).toList=fs at e1 e2
  match fs,e2 with
  | [f0,f1],e2=>
    simp only [List.map_cons,List.map_nil,List.cons.injEq,Prod.mk.injEq,and_true] at e2;obtain ⟨⟨n0,t0,o0⟩,⟨n1,t1,o1⟩⟩:=e2;have p0:∀ (a b:Value) (w:World),(part 3 #[a,b] 0).run tp w=.ok a w:=λa b w=>by simp [part,zb6 ty3]
    have p1:∀ (a b:Value) (w:World),(part 3 #[a,b] 1).run tp w=.ok b w:=λa b w=>by simp [part,zb6 ty3]
    simp only [bin,Sem.run_bind,e0,Result.andThen_ok,run_eql_struct,e1,Op.eqFields,n0,n1,t0,t1,o0,o1];simp only [ne_eq,String.reduceEq,not_false_eq_true,if_true,Sem.run_bind,p0,p1,Result.andThen_ok,e3,Sem.run_ite,Sem.run_pure,hd];by_cases x0:a.fr=b.fr<;>by_cases x1:a.to=b.to<;>simp [x0,x1]
set_option maxRecDepth 20000 in
theorem zqg {w w0 w1:World} {K:Value→Prop} {x y:Operand} {v1 v2:Value} {a b:DArc} (h1:Is w0 v1 a) (h2:Is w1 v2 b) (k:K (.bool (decide (a≠b)))):RD tp (bin .neq 106 x y v1 v2) w K:=by
  obtain ⟨rfl,_⟩:=zkt.1 h1;obtain ⟨rfl,_⟩:=zkt.1 h2;refine za7 (λw' _=>?_) k;have hg:tp.eqGuardType tp.depth 106=false:=by kernel_rfl
  have e0:∀ xs ys w,(eqGuard .neq 106 x y (.agg xs) (.agg ys)).run tp w=.ok () w:=λxs ys w=>run_eqGuard_agg (P:=tp) w .neq 106 x y xs ys hg;have e1:∀ xs ys w,(Op.equalIn 10000 106 (.agg xs) (.agg ys)).run tp w=(Op.eqFields 9999 xs ys (tp.fieldsOf 106).toList).run tp w:=λxs ys w=>run_equalIn_struct w 9999 106 xs ys (by kernel_rfl) (by kernel_rfl);have e2:(tp.fieldsOf 106).toList.map (λf=>(f.name,f.type,f.offset))=[("From", 3,0),("To", 3,1)]:=by kernel_rfl
  have e3:∀ (c d:Int) (w:World),(Op.equalIn 9999 3 (.int .i64 c) (.int .i64 d)).run tp w=.ok (c == d) w:=λc d w=>run_equalIn_int w 9998 3 .i64 .i64 c d u3;have hd:(a=b)↔(a.fr=b.fr∧a.to=b.to):=DArc.ext_iff;generalize hF:(tp.fieldsOf 106).toList=fs at e1 e2
  match fs,e2 with
  | [f0,f1],e2=>
    simp only [List.map_cons,List.map_nil,List.cons.injEq,Prod.mk.injEq,and_true] at e2;obtain ⟨⟨n0,t0,o0⟩,⟨n1,t1,o1⟩⟩:=e2;have p0:∀ (a b:Value) (w:World),(part 3 #[a,b] 0).run tp w=.ok a w:=λa b w=>by simp [part,zb6 ty3]
    have p1:∀ (a b:Value) (w:World),(part 3 #[a,b] 1).run tp w=.ok b w:=λa b w=>by simp [part,zb6 ty3]
    simp only [bin,Sem.run_bind,e0,Result.andThen_ok,run_neq_struct,e1,Op.eqFields,n0,n1,t0,t1,o0,o1];simp only [ne_eq,String.reduceEq,not_false_eq_true,if_true,Sem.run_bind,p0,p1,Result.andThen_ok,e3,Sem.run_ite,Sem.run_pure,ne_eq,hd];by_cases x0:a.fr=b.fr<;>by_cases x1:a.to=b.to<;>simp [x0,x1]
theorem zka {l:List DArc} {k:Nat} {y:DArc} (hk:k<l.length) (h:y∉l.take k) (c:¬l[k]=y):y∉l.take (k+1):=by
 rw [tk hk];simp only [List.mem_append,List.mem_cons,List.not_mem_nil,or_false,not_or];exact ⟨h,λe=>c e.symm⟩
def F143 (a0 a1:Value) (w:World) (R:VW):Prop:=
 oX 106 a1 w λx3 w=>
 rN 62 3 a0 w λx7=>
 LOOPI [8] [(iV 0)] w λu2 w n2=>
 rC (u2 8) x7 w λx9=>
 BR x9
 ((λw=>rL 106 x3 w λx11=>
 rX 62 a0 (u2 8) w λx14=>
 rL 106 x14 w λx15=>
 rB .eql 106 T0 T0 x11 x15 w λx16=>
 BR x16
 (R (u2 8) w)
 (rI (u2 8) w λx18=>
 n2 [x18] w)) (World.drew1 w))
 (R (iV (-1)) w)
theorem F143_call {a0 a1 w R} (h:F143 a0 a1 w R):cL 143 [a0,a1] w R:=co (g:=(kf [] [(2,524080,[8])] [(4,[0,1,2,3,4,5],0)])) Tryz.func143 h
theorem znQ {w:World} {v0:Value} {W0:World} {l:(List DArc)} {v1:Value} {W1:World} {y:DArc}  (h0:Is W0 v0 l) (e0:Ext W0 w) (h1:Is W1 v1 y) (e1:Ext W1 w)  :
   CALL tp 143 [v0,v1] w λr w'=>Ext w w'∧(∃ n:Int,r=.int .i64 n∧(0≤n↔y∈l)):=by
 refine F143_call ?_;unfold F143;refine zar zdQ rfl h1 e1 λw1_ η1 hA3 hV3=>?_;have hln7:=zah h0;refine zae u62 h0 ?_;refine zam (l.length) (λk us w'=>us=[.int .i64 (k:Int)]∧Ext w1_ w'∧(y∉l.take k)) (0) (by omega) ⟨by simp,Ext.refl w1_,by simp⟩ ?_;rintro k m2 uu2 w2_ hk2 ⟨hu,η2,hinv⟩;try replace hu:=zbi hu
 try rw [hu]
 try clear hu
 refine zag ?_;refine br (λc1=>?_) (λc1=>?_)
 · have η3:=zaj w2_
   refine zaR hV3 (η2.t η3) ?_;refine zac u62 zdQ h0 (by omega) λb14 o14 h14=>?_;refine zaa zdQ h14 (e0.t (η1.t (η2.t η3))) λv15 h15=>?_;refine zqf h1 h15 ?_;refine br (λc2=>?_) (λc2=>?_)
   · refine ⟨(η1.t (η2.t η3)),?_⟩
     have:y∈l:=c2▸List.getElem_mem _;exact ⟨_,rfl,by simp [this]⟩
   refine zas ?_;refine ⟨m2-1,by omega,k+1,by omega,by simp,(η2.t η3),?_⟩;exact zka (by omega) hinv (λe=>c2 e.symm)
 refine ⟨(η1.t η2),?_⟩;rw [List.take_of_length_le (by omega)] at hinv;exact ⟨-1,rfl,by simp [hinv]⟩
def F85 (a0 a1:Value) (w:World) (R:VW):Prop:=
 oX 106 a1 w λx3 w=>
 rL 106 x3 w λx6=>
 cL 143 [a0,x6] w λx7 w=>
 rB .geq 3 T0 U0 x7 (iV 0) w λx8=>
 R x8 w
theorem F85_call {a0 a1 w R} (h:F85 a0 a1 w R):cL 85 [a0,a1] w R:=co (g:=(kf [] [] [])) Tryz.func85 h
theorem zkb {w:World} {v0:Value} {W0:World} {l:(List DArc)} {v1:Value} {W1:World} {y:DArc}  (h0:Is W0 v0 l) (e0:Ext W0 w) (h1:Is W1 v1 y) (e1:Ext W1 w)  :
   CALL tp 85 [v0,v1] w λr w'=>Ext w w'∧(r=.bool (decide (y∈l))):=by
 refine F85_call ?_;unfold F85;refine zar zdQ rfl h1 e1 λw1_ η1 hA3 hV3=>?_;refine zaR hV3 (Ext.refl w1_) ?_;refine (znQ h0 (e0.t η1) h1 (e1.trans η1)).mono ?_;rintro _ w2_ ⟨η2,n7,rfl,hn7⟩;refine zb0 ?_;refine ⟨(η1.t η2),?_⟩;simp [hn7]
def F61 (a0:Value) (w:World) (R:VW):Prop:=
 rN 39 3 a0 w λx6=>
 oP (Instr.makeSlice 39 x6 x6) w λx7 w=>
 LOOPI [4] [(iV 0)] w λu3 w n3=>
 rN 39 3 a0 w λx10=>
 rC (u3 4) x10 w λx11=>
 BR x11
 (rX 39 a0 (u3 4) w λx18=>
 rL 23 x18 w λx19=>
 cL 40 [x19] w λx20 w=>
 rX 39 x7 (u3 4) w λx21=>
 oS 23 x21 x20 w λw=>
 rI (u3 4) w λx13=>
 n3 [x13] w)
 (R x7 w)
theorem F61_call {a0 w R} (h:F61 a0 w R):cL 61 [a0] w R:=co (g:=(kf [] [(3,4194064,[4])] [])) Tryz.func61 h
def F28 (a0:Value) (w:World) (R:VW):Prop:=
 oX 49 a0 w λx1 w=>
 oP (aL 53) w λx2 w=>
 oP (aL 53) w λx3 w=>
 rF 49 x1 0 w λx4=>
 rL 23 x4 w λx5=>
 cL 40 [x5] w λx6 w=>
 rF 53 x3 0 w λx7=>
 oS 23 x7 x6 w λw=>
 rF 49 x1 1 w λx8=>
 rL 23 x8 w λx9=>
 cL 40 [x9] w λx10 w=>
 rF 53 x3 1 w λx11=>
 oS 23 x11 x10 w λw=>
 rF 49 x1 2 w λx12=>
 rL 39 x12 w λx13=>
 cL 61 [x13] w λx14 w=>
 rF 53 x3 2 w λx15=>
 oS 39 x15 x14 w λw=>
 rL 53 x3 w λx16=>
 oS 53 x2 x16 w λw=>
 rD (zea 53 x2) w λr2=>R r2 w
theorem F28_call {a0 w R} (h:F28 a0 w R):cL 28 [a0] w R:=co (g:=(kf [] [] [])) Tryz.func28 h
theorem zqh {w:World} {v:Value} {l:List (List Int)} (h:Is w v l) (hn:l.length≤1048576) (hn2:∀ x∈l,x.length≤1048576) :
   CALL tp 61 [v] w λr w'=>Ext w w'∧Own w.heap.size w' r l:=by
 refine F61_call ?_;unfold F61;refine zae u39 h ?_;refine ziM (α:=List Int) u39 za4 z23 (by omega) (by omega) λw1 hx1 hf=>?_;refine zam l.length (λk us w'=>us=[.int .i64 (k:Int)]∧Ext w w'∧∃ Fi,Fill w.heap.size 23 l.length Fi w' (l.take k)∧∀ b∈Fi,w.heap.size≤b) 0 (z0 _) ⟨rfl,hx1,[],by simpa using hf,by simp⟩ ?_;rintro k m u w2 hkm ⟨hu,hx2,Fi,hf2,hFl⟩;try replace hu:=zbi hu
 rw [hu];refine zae u39 h ?_;refine zag ?_;refine br (λhlt=>?_) (λhge=>?_)
 · have hk:k<l.length:=by omega
   refine zac u39 za4 h hk λb o hA=>?_;refine zaa za4 hA hx2 λv19 h19=>?_;refine (zgS (h19.ext hx2) (hn2 _ (List.getElem_mem hk))).mono ?_;rintro r20 w3 ⟨hx3,F20,hm20,hl20⟩;refine zdh u39 za4 hk ?_;have hlt2:=hf2.lt
   have hnd:(F20++(w.heap.size :: Fi)).Nodup:=by
     rw [List.nodup_append];refine ⟨hm20.nodup,by obtain ⟨_,_,_,_,_,hn,_⟩:=hf2;exact hn,λa ha c hc e=>?_⟩;subst e;have:=hl20 a ha;have:=hlt2 a hc;omega
   refine zgM (α:=List Int) za4 (hf2.ext hx3) (by simp [Rep.size];omega) (by simp;omega) hm20 hnd λw4 hc4 hf4=>?_;refine ziK (by have:=zah h;omega) ?_;refine ⟨m-1,by omega,k+1,by omega,rfl,(hx2.t hx3).chg_trans hc4 (by simp),Fi++F20,?_,?_⟩
   · rw [tk hk]
     exact hf4
   intro b hb;rcases List.mem_append.1 hb with hb | hb
   · exact hFl b hb
   exact Nat.le_trans hx2.size (hl20 b hb)
 have hk:k=l.length:=by omega
 subst hk;rw [List.take_length] at hf2;exact ⟨hx2,_,hf2.own rfl (by rw [zan];omega),by simpa using hFl⟩
theorem zrw:zcz tp 53=some [.slice none 0 0,.slice none 0 0,.slice none 0 0]:=by kernel_rfl
def zxe (s:DState):Prop:=s.vars.length≤1048576∧s.owner.length≤1048576∧s.stacks.length≤1048576∧∀ x∈s.stacks,x.length≤1048576
theorem zmt {F G:List Nat} {m:Nat} (h1:F.Nodup) (h2:G.Nodup) (hF:∀ b∈F,b<m) (hG:∀ b∈G,m≤b):(F++G).Nodup:=by
 rw [List.nodup_append];refine ⟨h1,h2,λa ha c hc e=>?_⟩;subst e;have:=hF a ha;have:=hG a hc;omega
theorem zfT {w:World} {v:Value} {s:DState} (h:Is w v s) (hn:zxe s) :
   CALL tp 28 [v] w λr w'=>Ext w w'∧Own w.heap.size w' r s:=by
 obtain ⟨hn1,hn2,hn3,hn4⟩:=hn;refine F28_call ?_;unfold F28;refine zbj h (Ext.refl w) λw1 hx1 hA=>?_;refine zin zrw λw2 hx2 hB2=>?_;refine zin zrw λw3 hx3 hB3=>?_;have hx13:=hx2.t hx3;have hx03:=hx1.t hx13;have hg2:w1.heap.size<w2.heap.size:=hB2.lt;refine zab zut ?_;refine zaa za4 (zcg hA) hx13 λv5 h5=>?_;refine (zgS (h5.ext hx13) hn1).mono ?_;rintro r6 w4 ⟨hx4,F6,hm6,hl6⟩;refine zab zgT ?_;have r6':=zeO rfl hm6.own;refine ziN (α:=List Int) za4 (hB3.ext hx4) r6' rfl (by simp [Rep.size]) λw5 hc5 hB5=>?_;have hx15:Ext w1 w5:=(hx13.t hx4).chg_trans hc5 (by simp;omega);have hm6':Mine F6 w5 r6 s.vars:=hm6.keep λb hb=>hc5.block b (hm6.lt b hb) (by simp;have:=hl6 b hb;have:=hB3.lt;omega);refine zab zuu ?_;refine zaa za4 (zbt hA) hx15 λv9 h9=>?_;refine (zgS (h9.ext hx15) hn2).mono ?_;rintro r10 w6 ⟨hx6,F10,hm10,hl10⟩;refine zab zeN ?_;have r10':=zeO rfl hm10.own;refine ziN (α:=List Int) za4 (hB5.ext hx6) r10' rfl (by simp [Rep.size]) λw7 hc7 hB7=>?_;have hx17:Ext w1 w7:=(hx15.t hx6).chg_trans hc7 (by simp;omega);have hm6'':Mine F6 w7 r6 s.vars:=(hm6'.ext hx6).keep λb hb=>hc7.block b ((hm6'.ext hx6).lt b hb) (by simp;have:=hl6 b hb;have:=hB3.lt;omega);have hm10':Mine F10 w7 r10 s.owner:=hm10.keep λb hb=>hc7.block b (hm10.lt b hb) (by simp;have:=hl10 b hb;have:=hB5.lt;omega);refine zab zuv ?_;refine zaa zhy (zaE hA) hx17 λv13 h13=>?_;refine (zqh (h13.ext hx17) hn3 hn4).mono ?_;rintro r14 w8 ⟨hx8,F14,hm14,hl14⟩;refine zab zcl ?_;have r14':=zeO rfl hm14.own;refine ziN (α:=List (List Int)) zhy (hB7.ext hx8) r14' rfl (by simp [Rep.size]) λw9 hc9 hB9=>?_;have hx19:Ext w1 w9:=(hx17.t hx8).chg_trans hc9 (by simp;omega);have hm6e:=(hm6''.ext hx8);have hm10e:=(hm10'.ext hx8);have hm6f:Mine F6 w9 r6 s.vars:=hm6e.keep λb hb=>hc9.block b (hm6e.lt b hb) (by simp;have:=hl6 b hb;have:=hB3.lt;omega);have hm10f:Mine F10 w9 r10 s.owner:=hm10e.keep λb hb=>hc9.block b (hm10e.lt b hb) (by simp;have:=hl10 b hb;have:=hB5.lt;omega);have hm14f:Mine F14 w9 r14 s.stacks:=hm14.keep λb hb=>hc9.block b (hm14.lt b hb) (by simp;have:=hl14 b hb;have:=hB7.lt;omega)
 have hnd:(F6++(F10++F14)).Nodup:=by
   refine zmt (m:=w5.heap.size) hm6.nodup (zmt (m:=w7.heap.size) hm10.nodup hm14.nodup hm10'.lt hl14) hm6'.lt λb hb=>?_;rcases List.mem_append.1 hb with hb | hb
   · exact hl10 b hb
   have:=hl14 b hb;have:=hx6.size;have:=hc7.size;omega
 have hms:=zkq hm6f hm10f hm14f hnd;obtain ⟨⟨cs,hr,hv⟩,_,hwr⟩:=hms
 have hcs:cs=[r6,r10,r14]:=by
   have:=zeM hr;rw [←hv] at this;simpa [Value.cells] using this.symm
 subst hcs;refine zoQ zik hr hB9.range ?_;have hB29:Blk w1.heap.size 53 w9 _:=((((((hB2.ext hx3).ext hx4).chg hc5 (by simp;omega)).ext hx6).chg hc7 (by simp;omega)).ext hx8).chg hc9 (by simp;omega);refine ziN (α:=DState) zik hB29 hr rfl (by simp [Rep.size]) λw10 hc10 hB10=>?_;have hx010:Ext w w10:=(hx1.t hx19).chg_trans hc10 (by simp;exact hx1.size)
 have hlo:∀ b∈F6++(F10++F14),w3.heap.size≤b:=by
   intro b hb;rcases List.mem_append.1 hb with hb | hb
   · exact hl6 b hb
   rcases List.mem_append.1 hb with hb | hb
   · have:=hl10 b hb;have:=hx4.size;have:=hc5.size;omega
   have:=hl14 b hb;have:=hx4.size;have:=hc5.size;have:=hx6.size;have:=hc7.size;omega
 have hkeep:∀ b∈F6++(F10++F14),w10.heap[b]?=w9.heap[b]?:=λb hb=>hc10.block b (hwr.lt b hb) (by simp;have:=hlo b hb;have:=hx3.size;omega);refine zq5 zik (Rep.keep hr hkeep) hB10.range ?_;exact ⟨hx010,_,⟨⟨_,Rep.keep hr hkeep,rfl⟩,hnd,hwr.keep hkeep⟩,λb hb=>Nat.le_trans hx03.size (hlo b hb)⟩
end Go.Proofs.YtifonhplnmpgaaaGreat
namespace Go.Sh
open Rep (rep)
def zdL (P:Program) (t:TypeId) (α:Type) [Rep α] (n:Nat):Prop:=
 ∀ (H:Type) (enc:TypeId×Value→H) (w:World) (spare:Nat→Bool) (held:Bool) (cs:List Value) (y:DataW H×List MemPlace),DataW.trod enc P w 0 spare held n t cs=some y→∃ F x,rep F w cs (x:α)
section
variable {P:Program} {t:TypeId}
theorem zee (ht:P.underlying t=some (.int .i64)) (n:Nat):zdL P t Int n:=by
 intro H enc w spare held cs y h;obtain ⟨m,rfl,_,hw⟩:=DataW.trod_int ht h;refine ⟨[],m,rfl,rfl,?_⟩;simpa [Lit.wf,IntKind.min,IntKind.max,IntKind.signed,IntKind.bits,I64] using hw
theorem zmu (ht:P.underlying t=some .string) (n:Nat):zdL P t ByteArray n:=by
 intro H enc w spare held cs y h;obtain ⟨s,rfl,_,hs⟩:=DataW.trod_string ht h;exact ⟨[],s,rfl,rfl,hs⟩
theorem zmv {α β:Type} {f:α→Option β}:∀ {l:List α} {r:List β},l.mapM f=some r→l.length=r.length∧∀ (i:Nat) x,l[i]?=some x→∃ y,f x=some y∧r[i]?=some y
 | [],r,h=>by simp at h;subst h;simp
 | a :: l,r,h=>by
   simp only [List.mapM_cons,Option.pure_def,Option.bind_eq_bind,Option.bind_eq_some_iff,Option.some.injEq] at h;obtain ⟨b,hb,bs,hbs,rfl⟩:=h;obtain ⟨h1,h2⟩:=zmv hbs;refine ⟨by simp [h1],λi x hx=>?_⟩;cases i with
   | zero=>simp at hx;subst hx;exact ⟨b,hb,by simp⟩
   | succ i=>obtain ⟨y,hy,hr⟩:=h2 i x (by simpa using hx);exact ⟨y,hy,by simpa using hr⟩
theorem znR {w:World} {a:Addr} {n:Nat} {cs:List Value} (h:w.cells? 0 a n=some cs):cs.length=n∧∀ j v,cs[j]?=some v→w.cell? (a.add j)=some v:=by
 unfold World.cells? at h;simp only [Nat.zero_le,if_true] at h;obtain ⟨h1,h2⟩:=zmv h;simp only [List.length_range] at h1;refine ⟨h1.symm,λj v hv=>?_⟩;have hj:j<cs.length:=(List.getElem?_eq_some_iff.1 hv).1;obtain ⟨y,hy,hr⟩:=h2 j j (by rw [List.getElem?_range (by omega)]);rw [hr] at hv;cases hv;exact hy
theorem zrx {w:World} {a:Addr} {v:Value} (h:w.cell? a=some v):a.spot=none:=by
 unfold World.cell? at h;split at h
 · split at h
   · cases h
   rename_i hs;simpa using hs
 cases h
theorem zmw {α:Type} [Rep α] {w:World} {b o:Nat}:∀ (n:Nat),(∀ i,i<n→∃ (cs:List Value) (F:List Nat) (x:α),w.rangeAt b (o+i*Rep.size α) cs∧rep F w cs x) →
   ∃ (F:List Nat) (xs:List Value) (l:List α),l.length=n∧Cells F w xs l∧w.rangeAt b o xs
 | 0,_=>⟨[],[],[],rfl,⟨rfl,rfl⟩,λj v hv=>by simp at hv⟩
 | n+1,h=>by
   obtain ⟨F,xs,l,hl,hc,hr⟩:=zmw n λi hi=>h i (by omega);obtain ⟨cs,G,x,hra,hx⟩:=h n (by omega);refine ⟨F++G,xs++cs,l++[x],by simp [hl],Cells.append hc (Cells.single hx),?_⟩;intro j v hv;have hlen:=Cells.len hc;rw [hl] at hlen;rcases Nat.lt_or_ge j xs.length with hj | hj
   · rw [List.getElem?_append_left hj] at hv;exact hr j v hv
   rw [List.getElem?_append_right hj] at hv;have:=hra (j-xs.length) v hv
   rwa [show o+n*Rep.size α+(j-xs.length)=o+j by omega] at this
theorem zi5 {e:TypeId} {α:Type} [Rep α] {n:Nat} (ht:P.underlying t=some (.slice e)) (hc:P.cellsOf e=Rep.size α) (he:zdL P e α n):zdL P t (List α) (n+1):=by
 intro H enc w spare held cs y h;rcases DataW.trod_slice ht h with ⟨rfl,_⟩ | ⟨a,len,cap,elems,rest,m,hm,rfl,_,_,h1,h2,h3,h4,_⟩
 · exact ⟨[],[],none,0,[],[],rfl,lr _,z0 _,⟨rfl,rfl⟩,.inl ⟨rfl,rfl⟩⟩
 obtain rfl:m=n:=by omega
 by_cases h0:len=0
 · subst h0
   exact ⟨[],[],some a,cap,[],[],rfl,z0 _,h2,⟨rfl,rfl⟩,.inl ⟨rfl,rfl⟩⟩
 have key:∀ i,i<len→∃ (cs:List Value) (F:List Nat) (x:α),cs.length=Rep.size α∧(∀ j v,cs[j]?=some v→w.cell? ((a.add (i*P.cellsOf e)).add j)=some v)∧rep F w cs x:=by
   intro i hi;have hy:=h4 i hi;rw [List.getElem?_eq_getElem (by omega)] at hy;obtain ⟨cs,hcs,hy⟩:=Option.bind_eq_some_iff.1 hy;obtain ⟨F,x,hx⟩:=he H enc w spare held cs _ hy;obtain ⟨hl,hcell⟩:=znR hcs;exact ⟨cs,F,x,by rw [hl,hc],hcell,hx⟩
 have hsp:a.spot=none:=by
   obtain ⟨cs,F,x,hl,hcell,_⟩:=key 0 (by omega);have hp:=Rep.pos (α:=α);have:=hcell 0 (cs[0]'(by omega)) (by rw [List.getElem?_eq_getElem]);simpa [Addr.add] using zrx this
 obtain ⟨b,o,sp⟩:=a;simp only at hsp;subst hsp
 obtain ⟨F,xs,l,hl,hC,hR⟩:=zmw (α:=α) (w:=w) (b:=b) (o:=o) len λi hi=>by
   obtain ⟨cs,F,x,_,hcell,hx⟩:=key i hi;refine ⟨cs,F,x,λj v hv=>?_,hx⟩;have:=hcell j v hv;rw [hc] at this
   rwa [Addr.add_mid,Addr.add_mid] at this
 have hb:b<w.heap.size:=zpT hR (by rw [Cells.len hC,hl];exact Nat.mul_pos (by omega) Rep.pos);subst hl;exact ⟨b :: F,l,some ⟨b,o,none⟩,cap,F,xs,rfl,h1,h2,hC,.inr ⟨b,o,rfl,rfl,hR,hb⟩⟩
theorem zi6 {α β:Type} [Rep β] {f:α→β} {g:β→α} (hg:∀ y,f (g y)=y) {n:Nat} (h:zdL P t β n):@zdL P t α (Rep.via f) n:=by
 intro H enc w spare held cs y hy;obtain ⟨F,x,hx⟩:=h H enc w spare held cs y hy;exact ⟨F,g x,show rep F w cs (f (g x)) by rw [hg];exact hx⟩
theorem zi7 {cs:List Value} {o a b:Nat}:(cs.drop o).take (a+b)=(cs.drop o).take a++(cs.drop (o+a)).take b:=by
 rw [List.take_add,List.drop_drop]
inductive FldR (P:Program) (n:Nat):Nat→List Field→(α:Type)→Rep α→Prop
 | one {off:Nat} {f:Field} {α:Type} [i:Rep α] (h1:f.offset=off) (h2:P.cellsOf f.type=Rep.size α) (h3:zdL P f.type α n):FldR P n off [f] α i
 | cons {off:Nat} {f:Field} {fs:List Field} {α β:Type} [i:Rep α] [j:Rep β] (h1:f.offset=off) (h2:P.cellsOf f.type=Rep.size α) (h3:zdL P f.type α n) (h4:FldR P n (off+Rep.size α) fs β j):FldR P n off (f :: fs) (α×β) inferInstance
theorem ztA {n:Nat} {H:Type} {enc:TypeId×Value→H} {w:World} {spare:Nat→Bool} {held:Bool} {cs:List Value} {off:Nat} {fs:List Field} {α:Type} {i:Rep α} (h:FldR P n off fs α i) :
   (∀ f∈fs,∃ y,DataW.trod enc P w 0 spare held n f.type ((cs.drop f.offset).take (P.cellsOf f.type))=some y)→cs.length=off+@Rep.size α i→∃ F x,@Rep.rep α i F w (cs.drop off) x:=by
 induction h with
 | @one off f α i h1 h2 h3=>
   intro hy hl;obtain ⟨y,hf⟩:=hy f (by simp);subst h1;rw [h2,List.take_of_length_le (by simp;omega)] at hf;exact h3 _ _ _ _ _ _ _ hf
 | @cons off f fs α β i j h1 h2 h3 h4 ih=>
   intro hy hl;obtain ⟨y,hf⟩:=hy f (by simp);have hl':cs.length=off+(Rep.size α+Rep.size β):=hl;obtain ⟨F2,x2,hx2⟩:=ih (λg hg=>hy g (by simp [hg])) (by omega);subst h1;rw [h2] at hf;obtain ⟨F1,x1,hx1⟩:=h3 _ _ _ _ _ _ _ hf;refine ⟨F1++F2,(x1,x2),F1,F2,_,_,rfl,?_,hx1,hx2⟩;have:=zi7 (cs:=cs) (o:=f.offset) (a:=Rep.size α) (b:=Rep.size β);rw [List.take_of_length_le (by simp;omega),List.take_of_length_le (l:=cs.drop (f.offset+Rep.size α)) (by simp;omega)] at this;exact this
theorem zh6 {fs:Array Field} {α:Type} [i:Rep α] {n:Nat} (ht:P.underlying t=some (.struct fs)) (hc:P.cellsOf t=Rep.size α) (hf:FldR P n 0 fs.toList α i):zdL P t α (n+1):=by
 intro H enc w spare held cs y h;obtain ⟨xs,m,hm,_,hlen,hxl,hx⟩:=DataW.trod_struct ht h;obtain rfl:m=n:=by omega
 have:=ztA (enc:=enc) (w:=w) (spare:=spare) (held:=held) (cs:=cs) hf (λf hf=>by
   obtain ⟨k,hk,hkf⟩:=List.getElem_of_mem hf;have h1:fs[k]?=some f:=by rw [←hkf];simp
   have h2:=hx k f h1;have hk':k<xs.length:=by rw [hxl];simpa using hk
   rw [List.getElem?_eq_getElem hk'] at h2;exact ⟨_,h2⟩) (by rw [hlen,hc];simp)
 simpa using this
theorem zfU {α:Type} [Rep α]:zdL P t α 0:=by intro H enc w spare held cs y h;simp [DataW.trod] at h
theorem zcF {e:TypeId} {α:Type} [Rep α] (ht:P.underlying t=some (.slice e)) (hc:P.cellsOf e=Rep.size α) (he:∀ n,zdL P e α n):∀ n,zdL P t (List α) n
 | 0=>zfU
 | n+1=>zi5 ht hc (he n)
theorem zdS {fs:Array Field} {α:Type} [i:Rep α] (ht:P.underlying t=some (.struct fs)) (hc:P.cellsOf t=Rep.size α) (hf:∀ n,FldR P n 0 fs.toList α i):∀ n,zdL P t α n
 | 0=>zfU
 | n+1=>zh6 ht hc (hf n)
theorem zh7 {fs:Array Field} {α:Type} [Rep α] {H:Type} {enc:TypeId×Value→H} {w W:World} {r:Reach} {b0:Nat} {spare:Nat→Bool} {held:Bool} {v:Value} {d:DataW H} {p:List MemPlace} (ht:P.underlying t=some (.struct fs)) (ha:Rep.agg α=true) (hr:∀ n,zdL P t α n) (hv:Value.okWide P W r b0 t v)
   (h:DataW.Trod enc P w 0 spare held t v d p):∃ x:α,Is w v x:=by
 simp only [Value.okWide,ht] at hv;obtain ⟨cs,rfl,_⟩:=hv;obtain ⟨n,hn⟩:=h;obtain ⟨F,x,hx⟩:=hr n H enc w spare held _ _ hn;exact ⟨x,F,_,hx,by simp [mkv,ha,Value.cells]⟩
end
end Go.Sh
